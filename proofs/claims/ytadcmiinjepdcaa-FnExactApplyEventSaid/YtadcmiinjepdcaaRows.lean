/-
  No cell of these rows narrows 'for every input' (looked for: loops, veiled, ifaces, maps, wideKeys, modest, calm, conditions, laid).
  DERIVED. THE GIVEN ROWS OF THIS SEAT. 5 by the template 'for every input the law returns true; each argument reads behind the call as it read before'; 0 by the template 'total and deterministic' (their statements: YtadcmiinjepdcaaTotals.lean).
  GIVEN WITH THE SEED: the statements are not yours to turn. If you find one false, say at which input.
  Laid BY PROGRAM, IN A SANDBOX (cutbox-rows.mjs): the forced cells as the released guide's own fill.sh prints them over the translation 53d7e9917d144347… (all of the seat's roots in one cut). By AI agents, Wed Nov 11 2026. No macro, syntax, notation, axiom, sorry.
-/
import Derived.Test.YtadcmiinjepdcaaChecked
import GoSem.Claim
import GoSem.ClaimJoined
import GoSem.ClaimMapViews
import Derived.JoinedTies
import Derived.KernelRfl
namespace Go.Proofs.Ytadcmiinjepdcaa
/- THE CELL 'sum', in the pinned program and in every row, IS THE sha256 OF THE DUMP (.gsa) THAT YtadcmiinjepdcaaProg.lean LOADS. Nothing in Lean hashes anything: it is a label: what it is worth is what the hold of that sum in a sandbox is worth. -/
noncomputable def Try.pinned : Pinned := { name := "ytadcmiinjepdcaa", sum := "53d7e9917d144347207f2d54dc0bcb3223255e2d28b2b3d91e39f88907d03ce6", checked := Try.checked }
namespace Rows
def none {H : Type} : Left H := { results := [], args := [] }

/-- 'laws.FnExactLikeMessage': WHATEVER THE INPUT: true; the input reads as it did. -/
def fnExactLikeMessageSpec : ChangeSpec := { name := "fnExactLikeMessage", fn := fun _ => fun
  | [d1, d2, d3] => { results := [.lit (.bool true)], args := [d1, d2, d3] }
  | _ => none }
def fnExactLikeMessageRow : OpenClaim := { program := "ytadcmiinjepdcaa", sum := "53d7e9917d144347207f2d54dc0bcb3223255e2d28b2b3d91e39f88907d03ce6", func := "loop.example/g01202/laws.FnExactLikeMessage", spec := "fnExactLikeMessage", inPlace := ["slices.overlaps[int64]"], unfollowed := true, recurses := true, apart := false }
def FnExactLikeMessageSaid : Prop := fnExactLikeMessageRow.holds Try.pinned (OpenSpec.ofChange fnExactLikeMessageSpec)

/-- ITS FALSE NEIGHBOUR: 'it returns false'. Refute it at one input. -/
def fnExactLikeMessageWrong : ChangeSpec := { name := "fnExactLikeMessage", fn := fun _ => fun
  | [d1, d2, d3] => { results := [.lit (.bool false)], args := [d1, d2, d3] }
  | _ => none }
def FnExactLikeMessageWrongFalsely : Prop := fnExactLikeMessageRow.holds Try.pinned (OpenSpec.ofChange fnExactLikeMessageWrong)

/-- 'laws.FnExactApplyEvent': WHATEVER THE INPUT: true; the input reads as it did. -/
def fnExactApplyEventSpec : ChangeSpec := { name := "fnExactApplyEvent", fn := fun _ => fun
  | [d1, d2] => { results := [.lit (.bool true)], args := [d1, d2] }
  | _ => none }
def fnExactApplyEventRow : OpenClaim := { program := "ytadcmiinjepdcaa", sum := "53d7e9917d144347207f2d54dc0bcb3223255e2d28b2b3d91e39f88907d03ce6", func := "loop.example/g01202/laws.FnExactApplyEvent", spec := "fnExactApplyEvent", inPlace := ["slices.overlaps[int64]"], unfollowed := true, recurses := true, apart := false }
def FnExactApplyEventSaid : Prop := fnExactApplyEventRow.holds Try.pinned (OpenSpec.ofChange fnExactApplyEventSpec)

/-- ITS FALSE NEIGHBOUR: 'it returns false'. Refute it at one input. -/
def fnExactApplyEventWrong : ChangeSpec := { name := "fnExactApplyEvent", fn := fun _ => fun
  | [d1, d2] => { results := [.lit (.bool false)], args := [d1, d2] }
  | _ => none }
def FnExactApplyEventWrongFalsely : Prop := fnExactApplyEventRow.holds Try.pinned (OpenSpec.ofChange fnExactApplyEventWrong)

/-- 'laws.FnExactRunEvents': WHATEVER THE INPUT: true; the input reads as it did. -/
def fnExactRunEventsSpec : ChangeSpec := { name := "fnExactRunEvents", fn := fun _ => fun
  | [d1, d2] => { results := [.lit (.bool true)], args := [d1, d2] }
  | _ => none }
def fnExactRunEventsRow : OpenClaim := { program := "ytadcmiinjepdcaa", sum := "53d7e9917d144347207f2d54dc0bcb3223255e2d28b2b3d91e39f88907d03ce6", func := "loop.example/g01202/laws.FnExactRunEvents", spec := "fnExactRunEvents", inPlace := ["slices.overlaps[int64]"], unfollowed := true, recurses := true, apart := false }
def FnExactRunEventsSaid : Prop := fnExactRunEventsRow.holds Try.pinned (OpenSpec.ofChange fnExactRunEventsSpec)

/-- ITS FALSE NEIGHBOUR: 'it returns false'. Refute it at one input. -/
def fnExactRunEventsWrong : ChangeSpec := { name := "fnExactRunEvents", fn := fun _ => fun
  | [d1, d2] => { results := [.lit (.bool false)], args := [d1, d2] }
  | _ => none }
def FnExactRunEventsWrongFalsely : Prop := fnExactRunEventsRow.holds Try.pinned (OpenSpec.ofChange fnExactRunEventsWrong)

/-- 'laws.FnExactValidHistory': WHATEVER THE INPUT: true; the input reads as it did. -/
def fnExactValidHistorySpec : ChangeSpec := { name := "fnExactValidHistory", fn := fun _ => fun
  | [d] => { results := [.lit (.bool true)], args := [d] }
  | _ => none }
def fnExactValidHistoryRow : OpenClaim := { program := "ytadcmiinjepdcaa", sum := "53d7e9917d144347207f2d54dc0bcb3223255e2d28b2b3d91e39f88907d03ce6", func := "loop.example/g01202/laws.FnExactValidHistory", spec := "fnExactValidHistory", inPlace := ["slices.overlaps[int64]"], unfollowed := true, recurses := true, apart := false }
def FnExactValidHistorySaid : Prop := fnExactValidHistoryRow.holds Try.pinned (OpenSpec.ofChange fnExactValidHistorySpec)

/-- ITS FALSE NEIGHBOUR: 'it returns false'. Refute it at one input. -/
def fnExactValidHistoryWrong : ChangeSpec := { name := "fnExactValidHistory", fn := fun _ => fun
  | [d] => { results := [.lit (.bool false)], args := [d] }
  | _ => none }
def FnExactValidHistoryWrongFalsely : Prop := fnExactValidHistoryRow.holds Try.pinned (OpenSpec.ofChange fnExactValidHistoryWrong)

/-- 'laws.FnExactUnreadOf': WHATEVER THE INPUT: true; the input reads as it did. -/
def fnExactUnreadOfSpec : ChangeSpec := { name := "fnExactUnreadOf", fn := fun _ => fun
  | [d1, d2, d3] => { results := [.lit (.bool true)], args := [d1, d2, d3] }
  | _ => none }
def fnExactUnreadOfRow : OpenClaim := { program := "ytadcmiinjepdcaa", sum := "53d7e9917d144347207f2d54dc0bcb3223255e2d28b2b3d91e39f88907d03ce6", func := "loop.example/g01202/laws.FnExactUnreadOf", spec := "fnExactUnreadOf", unfollowed := true, recurses := true, apart := false }
def FnExactUnreadOfSaid : Prop := fnExactUnreadOfRow.holds Try.pinned (OpenSpec.ofChange fnExactUnreadOfSpec)

/-- ITS FALSE NEIGHBOUR: 'it returns false'. Refute it at one input. -/
def fnExactUnreadOfWrong : ChangeSpec := { name := "fnExactUnreadOf", fn := fun _ => fun
  | [d1, d2, d3] => { results := [.lit (.bool false)], args := [d1, d2, d3] }
  | _ => none }
def FnExactUnreadOfWrongFalsely : Prop := fnExactUnreadOfRow.holds Try.pinned (OpenSpec.ofChange fnExactUnreadOfWrong)

/- THE SECOND FORM. 'bulk': how many values and letters a reading holds, each counted each time it is reached (what is shared counts as often as it is met; a slice's spare places count too). A statement '..UptoSaid' is the law's where the arguments, and the package variables that the reading takes, are together of bulk at most 1048576: NARROWER than '..Said'. Prove '..Said' where nothing that the law and all that it calls make is longer than what came in: it says more and counts as full. Else prove '..UptoSaid'. A law counts once. -/
mutual
def uptoBulk {H : Type} : DataW H → Nat
  | .lit (.string bytes) => bytes.length + 1
  | .lit _ => 1
  | .nil => 1
  | .ptr d => uptoBulk d + 1
  | .slice elems spare => uptoBulkAll elems + uptoBulkAll spare + 1
  | .agg parts => uptoBulkAll parts + 1
  | .iface _ d => uptoBulk d + 1
  | .map entries => uptoBulkEntries entries + 1
  | .held _ => 1
def uptoBulkAll {H : Type} : List (DataW H) → Nat
  | [] => 0
  | d :: r => uptoBulk d + uptoBulkAll r
def uptoBulkEntries {H : Type} : List (Lit × DataW H) → Nat
  | [] => 0
  | x :: r => uptoBulkEntry x + uptoBulkEntries r
def uptoBulkEntry {H : Type} : Lit × DataW H → Nat
  | (.string bytes, d) => bytes.length + uptoBulk d + 1
  | (_, d) => uptoBulk d + 1
 end
def uptoSmall : (H : Type) → List (DataW H) → Bool := fun _ ds => decide (uptoBulkAll ds ≤ 1048576)
def OpenSpec.upto (s : _root_.Go.ChangeSpec) : _root_.Go.OpenSpec := { _root_.Go.OpenSpec.ofChange s with cond := some uptoSmall }

/-- 'laws.FnExactLikeMessage', WHERE WHAT IT READS IS OF BULK AT MOST 1048576: true; the input reads as it did. -/
def fnExactLikeMessageUptoRow : OpenClaim := { program := "ytadcmiinjepdcaa", sum := "53d7e9917d144347207f2d54dc0bcb3223255e2d28b2b3d91e39f88907d03ce6", func := "loop.example/g01202/laws.FnExactLikeMessage", spec := "fnExactLikeMessage", inPlace := ["slices.overlaps[int64]"], unfollowed := true, recurses := true, apart := false, narrowed := true }
def FnExactLikeMessageUptoSaid : Prop := fnExactLikeMessageUptoRow.holds Try.pinned (OpenSpec.upto fnExactLikeMessageSpec)

/-- 'laws.FnExactApplyEvent', WHERE WHAT IT READS IS OF BULK AT MOST 1048576: true; the input reads as it did. -/
def fnExactApplyEventUptoRow : OpenClaim := { program := "ytadcmiinjepdcaa", sum := "53d7e9917d144347207f2d54dc0bcb3223255e2d28b2b3d91e39f88907d03ce6", func := "loop.example/g01202/laws.FnExactApplyEvent", spec := "fnExactApplyEvent", inPlace := ["slices.overlaps[int64]"], unfollowed := true, recurses := true, apart := false, narrowed := true }
def FnExactApplyEventUptoSaid : Prop := fnExactApplyEventUptoRow.holds Try.pinned (OpenSpec.upto fnExactApplyEventSpec)

/-- 'laws.FnExactRunEvents', WHERE WHAT IT READS IS OF BULK AT MOST 1048576: true; the input reads as it did. -/
def fnExactRunEventsUptoRow : OpenClaim := { program := "ytadcmiinjepdcaa", sum := "53d7e9917d144347207f2d54dc0bcb3223255e2d28b2b3d91e39f88907d03ce6", func := "loop.example/g01202/laws.FnExactRunEvents", spec := "fnExactRunEvents", inPlace := ["slices.overlaps[int64]"], unfollowed := true, recurses := true, apart := false, narrowed := true }
def FnExactRunEventsUptoSaid : Prop := fnExactRunEventsUptoRow.holds Try.pinned (OpenSpec.upto fnExactRunEventsSpec)

/-- 'laws.FnExactValidHistory', WHERE WHAT IT READS IS OF BULK AT MOST 1048576: true; the input reads as it did. -/
def fnExactValidHistoryUptoRow : OpenClaim := { program := "ytadcmiinjepdcaa", sum := "53d7e9917d144347207f2d54dc0bcb3223255e2d28b2b3d91e39f88907d03ce6", func := "loop.example/g01202/laws.FnExactValidHistory", spec := "fnExactValidHistory", inPlace := ["slices.overlaps[int64]"], unfollowed := true, recurses := true, apart := false, narrowed := true }
def FnExactValidHistoryUptoSaid : Prop := fnExactValidHistoryUptoRow.holds Try.pinned (OpenSpec.upto fnExactValidHistorySpec)

/-- 'laws.FnExactUnreadOf', WHERE WHAT IT READS IS OF BULK AT MOST 1048576: true; the input reads as it did. -/
def fnExactUnreadOfUptoRow : OpenClaim := { program := "ytadcmiinjepdcaa", sum := "53d7e9917d144347207f2d54dc0bcb3223255e2d28b2b3d91e39f88907d03ce6", func := "loop.example/g01202/laws.FnExactUnreadOf", spec := "fnExactUnreadOf", unfollowed := true, recurses := true, apart := false, narrowed := true }
def FnExactUnreadOfUptoSaid : Prop := fnExactUnreadOfUptoRow.holds Try.pinned (OpenSpec.upto fnExactUnreadOfSpec)

end Rows
end Go.Proofs.Ytadcmiinjepdcaa
