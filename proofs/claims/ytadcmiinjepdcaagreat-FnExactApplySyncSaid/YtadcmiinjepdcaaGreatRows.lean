/-
  No cell of these rows narrows 'for every input' (looked for: loops, veiled, ifaces, maps, wideKeys, modest, calm, conditions, laid).
  DERIVED. THE GIVEN ROWS OF THIS SEAT. 3 by the template 'for every input the law returns true; each argument reads behind the call as it read before'; 0 by the template 'total and deterministic' (their statements: YtadcmiinjepdcaaGreatTotals.lean).
  GIVEN WITH THE SEED: the statements are not yours to turn. If you find one false, say at which input.
  Laid BY PROGRAM, IN A SANDBOX (cutbox-rows.mjs): the forced cells as the released guide's own fill.sh prints them over the translation 565789a769e62d58… (all of the seat's roots in one cut). By AI agents, Wed Nov 11 2026. No macro, syntax, notation, axiom, sorry.
-/
import Derived.Test.YtadcmiinjepdcaaGreatChecked
import GoSem.Claim
import GoSem.ClaimJoined
import GoSem.ClaimMapViews
import Derived.JoinedTies
import Derived.KernelRfl
namespace Go.Proofs.YtadcmiinjepdcaaGreat
/- THE CELL 'sum', in the pinned program and in every row, IS THE sha256 OF THE DUMP (.gsa) THAT YtadcmiinjepdcaaGreatProg.lean LOADS. Nothing in Lean hashes anything: it is a label: what it is worth is what the hold of that sum in a sandbox is worth. -/
noncomputable def Tryz.pinned : Pinned := { name := "ytadcmiinjepdcaagreat", sum := "565789a769e62d58d3496390f3ab6ac82bf48bf117ce76276d71cebfb59e8616", checked := Tryz.checked }
namespace Rows
def none {H : Type} : Left H := { results := [], args := [] }

/-- 'laws.FnExactCurrentOf': WHATEVER THE INPUT: true; the input reads as it did. -/
def fnExactCurrentOfSpec : ChangeSpec := { name := "fnExactCurrentOf", fn := fun _ => fun
  | [d] => { results := [.lit (.bool true)], args := [d] }
  | _ => none }
def fnExactCurrentOfRow : OpenClaim := { program := "ytadcmiinjepdcaagreat", sum := "565789a769e62d58d3496390f3ab6ac82bf48bf117ce76276d71cebfb59e8616", func := "loop.example/g01202/laws.FnExactCurrentOf", spec := "fnExactCurrentOf", inPlace := ["slices.overlaps[int64]"], unfollowed := true, recurses := true, apart := false }
def FnExactCurrentOfSaid : Prop := fnExactCurrentOfRow.holds Tryz.pinned (OpenSpec.ofChange fnExactCurrentOfSpec)

/-- ITS FALSE NEIGHBOUR: 'it returns false'. Refute it at one input. -/
def fnExactCurrentOfWrong : ChangeSpec := { name := "fnExactCurrentOf", fn := fun _ => fun
  | [d] => { results := [.lit (.bool false)], args := [d] }
  | _ => none }
def FnExactCurrentOfWrongFalsely : Prop := fnExactCurrentOfRow.holds Tryz.pinned (OpenSpec.ofChange fnExactCurrentOfWrong)

/-- 'laws.FnExactForgetEvents': WHATEVER THE INPUT: true; the input reads as it did. -/
def fnExactForgetEventsSpec : ChangeSpec := { name := "fnExactForgetEvents", fn := fun _ => fun
  | [d1, d2] => { results := [.lit (.bool true)], args := [d1, d2] }
  | _ => none }
def fnExactForgetEventsRow : OpenClaim := { program := "ytadcmiinjepdcaagreat", sum := "565789a769e62d58d3496390f3ab6ac82bf48bf117ce76276d71cebfb59e8616", func := "loop.example/g01202/laws.FnExactForgetEvents", spec := "fnExactForgetEvents", inPlace := ["slices.overlaps[int64]"], unfollowed := true, recurses := true, apart := false }
def FnExactForgetEventsSaid : Prop := fnExactForgetEventsRow.holds Tryz.pinned (OpenSpec.ofChange fnExactForgetEventsSpec)

/-- ITS FALSE NEIGHBOUR: 'it returns false'. Refute it at one input. -/
def fnExactForgetEventsWrong : ChangeSpec := { name := "fnExactForgetEvents", fn := fun _ => fun
  | [d1, d2] => { results := [.lit (.bool false)], args := [d1, d2] }
  | _ => none }
def FnExactForgetEventsWrongFalsely : Prop := fnExactForgetEventsRow.holds Tryz.pinned (OpenSpec.ofChange fnExactForgetEventsWrong)

/-- 'laws.FnExactApplySync': WHATEVER THE INPUT: true; the input reads as it did. -/
def fnExactApplySyncSpec : ChangeSpec := { name := "fnExactApplySync", fn := fun _ => fun
  | [d1, d2] => { results := [.lit (.bool true)], args := [d1, d2] }
  | _ => none }
def fnExactApplySyncRow : OpenClaim := { program := "ytadcmiinjepdcaagreat", sum := "565789a769e62d58d3496390f3ab6ac82bf48bf117ce76276d71cebfb59e8616", func := "loop.example/g01202/laws.FnExactApplySync", spec := "fnExactApplySync", inPlace := ["slices.overlaps[int64]"], unfollowed := true, recurses := true, apart := false }
def FnExactApplySyncSaid : Prop := fnExactApplySyncRow.holds Tryz.pinned (OpenSpec.ofChange fnExactApplySyncSpec)

/-- ITS FALSE NEIGHBOUR: 'it returns false'. Refute it at one input. -/
def fnExactApplySyncWrong : ChangeSpec := { name := "fnExactApplySync", fn := fun _ => fun
  | [d1, d2] => { results := [.lit (.bool false)], args := [d1, d2] }
  | _ => none }
def FnExactApplySyncWrongFalsely : Prop := fnExactApplySyncRow.holds Tryz.pinned (OpenSpec.ofChange fnExactApplySyncWrong)

/- THE SECOND FORM. 'bulk': how many values and letters a reading holds, each counted each time it is reached (what is shared counts as often as it is met; a slice's spare places count too). A statement '..UptoSaid' is the law's where the arguments, and the package variables that the reading takes, are together of bulk at most 1048576: NARROWER than '..Said'. Prove '..Said' where nothing that the law and all that it calls make is longer than what came in: it says more and counts as full. Else prove '..UptoSaid'. A law counts once. -/
mutual
def uptoBulk {H : Type} : DataW H → Nat
  | .lit (.string bytes) => bytes.length + 1
  | .lit _ => 1
  | .nil => 1
  | .ptr d => uptoBulk d + 1
  | .slice elems spare => uptoBulkAll elems + uptoBulkAll spare + 1
  | .agg parts => uptoBulkAll parts + 1
  | .iface _ d => uptoBulk d + 1
  | .map entries => uptoBulkEntries entries + 1
  | .held _ => 1
def uptoBulkAll {H : Type} : List (DataW H) → Nat
  | [] => 0
  | d :: r => uptoBulk d + uptoBulkAll r
def uptoBulkEntries {H : Type} : List (Lit × DataW H) → Nat
  | [] => 0
  | x :: r => uptoBulkEntry x + uptoBulkEntries r
def uptoBulkEntry {H : Type} : Lit × DataW H → Nat
  | (.string bytes, d) => bytes.length + uptoBulk d + 1
  | (_, d) => uptoBulk d + 1
 end
def uptoSmall : (H : Type) → List (DataW H) → Bool := fun _ ds => decide (uptoBulkAll ds ≤ 1048576)
def OpenSpec.upto (s : _root_.Go.ChangeSpec) : _root_.Go.OpenSpec := { _root_.Go.OpenSpec.ofChange s with cond := some uptoSmall }

/-- 'laws.FnExactCurrentOf', WHERE WHAT IT READS IS OF BULK AT MOST 1048576: true; the input reads as it did. -/
def fnExactCurrentOfUptoRow : OpenClaim := { program := "ytadcmiinjepdcaagreat", sum := "565789a769e62d58d3496390f3ab6ac82bf48bf117ce76276d71cebfb59e8616", func := "loop.example/g01202/laws.FnExactCurrentOf", spec := "fnExactCurrentOf", inPlace := ["slices.overlaps[int64]"], unfollowed := true, recurses := true, apart := false, narrowed := true }
def FnExactCurrentOfUptoSaid : Prop := fnExactCurrentOfUptoRow.holds Tryz.pinned (OpenSpec.upto fnExactCurrentOfSpec)

/-- 'laws.FnExactForgetEvents', WHERE WHAT IT READS IS OF BULK AT MOST 1048576: true; the input reads as it did. -/
def fnExactForgetEventsUptoRow : OpenClaim := { program := "ytadcmiinjepdcaagreat", sum := "565789a769e62d58d3496390f3ab6ac82bf48bf117ce76276d71cebfb59e8616", func := "loop.example/g01202/laws.FnExactForgetEvents", spec := "fnExactForgetEvents", inPlace := ["slices.overlaps[int64]"], unfollowed := true, recurses := true, apart := false, narrowed := true }
def FnExactForgetEventsUptoSaid : Prop := fnExactForgetEventsUptoRow.holds Tryz.pinned (OpenSpec.upto fnExactForgetEventsSpec)

/-- 'laws.FnExactApplySync', WHERE WHAT IT READS IS OF BULK AT MOST 1048576: true; the input reads as it did. -/
def fnExactApplySyncUptoRow : OpenClaim := { program := "ytadcmiinjepdcaagreat", sum := "565789a769e62d58d3496390f3ab6ac82bf48bf117ce76276d71cebfb59e8616", func := "loop.example/g01202/laws.FnExactApplySync", spec := "fnExactApplySync", inPlace := ["slices.overlaps[int64]"], unfollowed := true, recurses := true, apart := false, narrowed := true }
def FnExactApplySyncUptoSaid : Prop := fnExactApplySyncUptoRow.holds Tryz.pinned (OpenSpec.upto fnExactApplySyncSpec)

end Rows
end Go.Proofs.YtadcmiinjepdcaaGreat
