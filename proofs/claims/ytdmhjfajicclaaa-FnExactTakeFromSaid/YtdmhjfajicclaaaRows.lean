/-
  No cell of these rows narrows 'for every input' (looked for: loops, veiled, ifaces, maps, wideKeys, modest, calm, conditions, laid).
  DERIVED. THE GIVEN ROWS OF THIS SEAT. 4 by the template 'for every input the law returns true; each argument reads behind the call as it read before'; 0 by the template 'total and deterministic' (their statements: YtdmhjfajicclaaaTotals.lean).
  GIVEN WITH THE SEED: the statements are not yours to turn. If you find one false, say at which input.
  Laid BY PROGRAM, IN A SANDBOX (cutbox-rows.mjs): the forced cells as the released guide's own fill.sh prints them over the translation 738c8acdccdea35d… (all of the seat's roots in one cut). By AI agents, Wed Nov 11 2026. No macro, syntax, notation, axiom, sorry.
-/
import Derived.Test.YtdmhjfajicclaaaChecked
import GoSem.Claim
import GoSem.ClaimJoined
import GoSem.ClaimMapViews
import Derived.JoinedTies
import Derived.KernelRfl
namespace Go.Proofs.Ytdmhjfajicclaaa
/- THE CELL 'sum', in the pinned program and in every row, IS THE sha256 OF THE DUMP (.gsa) THAT YtdmhjfajicclaaaProg.lean LOADS. Nothing in Lean hashes anything: it is a label: what it is worth is what the hold of that sum in a sandbox is worth. -/
noncomputable def Try.pinned : Pinned := { name := "ytdmhjfajicclaaa", sum := "738c8acdccdea35d8afad0570abebb7a9057fd782a58606751d8ea7e4eef7f4a", checked := Try.checked }
namespace Rows
def none {H : Type} : Left H := { results := [], args := [] }

/-- 'laws.FnExactDropBox': WHATEVER THE INPUT: true; the input reads as it did. -/
def fnExactDropBoxSpec : ChangeSpec := { name := "fnExactDropBox", fn := fun _ => fun
  | [d1, d2] => { results := [.lit (.bool true)], args := [d1, d2] }
  | _ => none }
def fnExactDropBoxRow : OpenClaim := { program := "ytdmhjfajicclaaa", sum := "738c8acdccdea35d8afad0570abebb7a9057fd782a58606751d8ea7e4eef7f4a", func := "loop.example/g01202/laws.FnExactDropBox", spec := "fnExactDropBox", inPlace := ["internal/bytealg.abigen_runtime_cmpstring"], unfollowed := true, recurses := true, apart := false }
def FnExactDropBoxSaid : Prop := fnExactDropBoxRow.holds Try.pinned (OpenSpec.ofChange fnExactDropBoxSpec)

/-- ITS FALSE NEIGHBOUR: 'it returns false'. Refute it at one input. -/
def fnExactDropBoxWrong : ChangeSpec := { name := "fnExactDropBox", fn := fun _ => fun
  | [d1, d2] => { results := [.lit (.bool false)], args := [d1, d2] }
  | _ => none }
def FnExactDropBoxWrongFalsely : Prop := fnExactDropBoxRow.holds Try.pinned (OpenSpec.ofChange fnExactDropBoxWrong)

/-- 'laws.FnExactTakeFrom': WHATEVER THE INPUT: true; the input reads as it did. -/
def fnExactTakeFromSpec : ChangeSpec := { name := "fnExactTakeFrom", fn := fun _ => fun
  | [d1, d2, d3] => { results := [.lit (.bool true)], args := [d1, d2, d3] }
  | _ => none }
def fnExactTakeFromRow : OpenClaim := { program := "ytdmhjfajicclaaa", sum := "738c8acdccdea35d8afad0570abebb7a9057fd782a58606751d8ea7e4eef7f4a", func := "loop.example/g01202/laws.FnExactTakeFrom", spec := "fnExactTakeFrom", inPlace := ["internal/bytealg.abigen_runtime_cmpstring"], unfollowed := true, recurses := true, apart := false }
def FnExactTakeFromSaid : Prop := fnExactTakeFromRow.holds Try.pinned (OpenSpec.ofChange fnExactTakeFromSpec)

/-- ITS FALSE NEIGHBOUR: 'it returns false'. Refute it at one input. -/
def fnExactTakeFromWrong : ChangeSpec := { name := "fnExactTakeFrom", fn := fun _ => fun
  | [d1, d2, d3] => { results := [.lit (.bool false)], args := [d1, d2, d3] }
  | _ => none }
def FnExactTakeFromWrongFalsely : Prop := fnExactTakeFromRow.holds Try.pinned (OpenSpec.ofChange fnExactTakeFromWrong)

/-- 'laws.FnExactReturnTo': WHATEVER THE INPUT: true; the input reads as it did. -/
def fnExactReturnToSpec : ChangeSpec := { name := "fnExactReturnTo", fn := fun _ => fun
  | [d1, d2, d3] => { results := [.lit (.bool true)], args := [d1, d2, d3] }
  | _ => none }
def fnExactReturnToRow : OpenClaim := { program := "ytdmhjfajicclaaa", sum := "738c8acdccdea35d8afad0570abebb7a9057fd782a58606751d8ea7e4eef7f4a", func := "loop.example/g01202/laws.FnExactReturnTo", spec := "fnExactReturnTo", inPlace := ["internal/bytealg.abigen_runtime_cmpstring"], unfollowed := true, recurses := true, apart := false }
def FnExactReturnToSaid : Prop := fnExactReturnToRow.holds Try.pinned (OpenSpec.ofChange fnExactReturnToSpec)

/-- ITS FALSE NEIGHBOUR: 'it returns false'. Refute it at one input. -/
def fnExactReturnToWrong : ChangeSpec := { name := "fnExactReturnTo", fn := fun _ => fun
  | [d1, d2, d3] => { results := [.lit (.bool false)], args := [d1, d2, d3] }
  | _ => none }
def FnExactReturnToWrongFalsely : Prop := fnExactReturnToRow.holds Try.pinned (OpenSpec.ofChange fnExactReturnToWrong)

/-- 'laws.FnExactAddBox': WHATEVER THE INPUT: true; the input reads as it did. -/
def fnExactAddBoxSpec : ChangeSpec := { name := "fnExactAddBox", fn := fun _ => fun
  | [d1, d2, d3] => { results := [.lit (.bool true)], args := [d1, d2, d3] }
  | _ => none }
def fnExactAddBoxRow : OpenClaim := { program := "ytdmhjfajicclaaa", sum := "738c8acdccdea35d8afad0570abebb7a9057fd782a58606751d8ea7e4eef7f4a", func := "loop.example/g01202/laws.FnExactAddBox", spec := "fnExactAddBox", inPlace := ["internal/bytealg.abigen_runtime_cmpstring", "slices.overlaps[loop.example/g01202/impl.Box]"], unfollowed := true, recurses := true, apart := false }
def FnExactAddBoxSaid : Prop := fnExactAddBoxRow.holds Try.pinned (OpenSpec.ofChange fnExactAddBoxSpec)

/-- ITS FALSE NEIGHBOUR: 'it returns false'. Refute it at one input. -/
def fnExactAddBoxWrong : ChangeSpec := { name := "fnExactAddBox", fn := fun _ => fun
  | [d1, d2, d3] => { results := [.lit (.bool false)], args := [d1, d2, d3] }
  | _ => none }
def FnExactAddBoxWrongFalsely : Prop := fnExactAddBoxRow.holds Try.pinned (OpenSpec.ofChange fnExactAddBoxWrong)

/- THE SECOND FORM. 'bulk': how many values and letters a reading holds, each counted each time it is reached (what is shared counts as often as it is met; a slice's spare places count too). A statement '..UptoSaid' is the law's where the arguments, and the package variables that the reading takes, are together of bulk at most 1048576: NARROWER than '..Said'. Prove '..Said' where nothing that the law and all that it calls make is longer than what came in: it says more and counts as full. Else prove '..UptoSaid'. A law counts once. -/
mutual
def uptoBulk {H : Type} : DataW H → Nat
  | .lit (.string bytes) => bytes.length + 1
  | .lit _ => 1
  | .nil => 1
  | .ptr d => uptoBulk d + 1
  | .slice elems spare => uptoBulkAll elems + uptoBulkAll spare + 1
  | .agg parts => uptoBulkAll parts + 1
  | .iface _ d => uptoBulk d + 1
  | .map entries => uptoBulkEntries entries + 1
  | .held _ => 1
def uptoBulkAll {H : Type} : List (DataW H) → Nat
  | [] => 0
  | d :: r => uptoBulk d + uptoBulkAll r
def uptoBulkEntries {H : Type} : List (Lit × DataW H) → Nat
  | [] => 0
  | x :: r => uptoBulkEntry x + uptoBulkEntries r
def uptoBulkEntry {H : Type} : Lit × DataW H → Nat
  | (.string bytes, d) => bytes.length + uptoBulk d + 1
  | (_, d) => uptoBulk d + 1
 end
def uptoSmall : (H : Type) → List (DataW H) → Bool := fun _ ds => decide (uptoBulkAll ds ≤ 1048576)
def OpenSpec.upto (s : _root_.Go.ChangeSpec) : _root_.Go.OpenSpec := { _root_.Go.OpenSpec.ofChange s with cond := some uptoSmall }

/-- 'laws.FnExactDropBox', WHERE WHAT IT READS IS OF BULK AT MOST 1048576: true; the input reads as it did. -/
def fnExactDropBoxUptoRow : OpenClaim := { program := "ytdmhjfajicclaaa", sum := "738c8acdccdea35d8afad0570abebb7a9057fd782a58606751d8ea7e4eef7f4a", func := "loop.example/g01202/laws.FnExactDropBox", spec := "fnExactDropBox", inPlace := ["internal/bytealg.abigen_runtime_cmpstring"], unfollowed := true, recurses := true, apart := false, narrowed := true }
def FnExactDropBoxUptoSaid : Prop := fnExactDropBoxUptoRow.holds Try.pinned (OpenSpec.upto fnExactDropBoxSpec)

/-- 'laws.FnExactTakeFrom', WHERE WHAT IT READS IS OF BULK AT MOST 1048576: true; the input reads as it did. -/
def fnExactTakeFromUptoRow : OpenClaim := { program := "ytdmhjfajicclaaa", sum := "738c8acdccdea35d8afad0570abebb7a9057fd782a58606751d8ea7e4eef7f4a", func := "loop.example/g01202/laws.FnExactTakeFrom", spec := "fnExactTakeFrom", inPlace := ["internal/bytealg.abigen_runtime_cmpstring"], unfollowed := true, recurses := true, apart := false, narrowed := true }
def FnExactTakeFromUptoSaid : Prop := fnExactTakeFromUptoRow.holds Try.pinned (OpenSpec.upto fnExactTakeFromSpec)

/-- 'laws.FnExactReturnTo', WHERE WHAT IT READS IS OF BULK AT MOST 1048576: true; the input reads as it did. -/
def fnExactReturnToUptoRow : OpenClaim := { program := "ytdmhjfajicclaaa", sum := "738c8acdccdea35d8afad0570abebb7a9057fd782a58606751d8ea7e4eef7f4a", func := "loop.example/g01202/laws.FnExactReturnTo", spec := "fnExactReturnTo", inPlace := ["internal/bytealg.abigen_runtime_cmpstring"], unfollowed := true, recurses := true, apart := false, narrowed := true }
def FnExactReturnToUptoSaid : Prop := fnExactReturnToUptoRow.holds Try.pinned (OpenSpec.upto fnExactReturnToSpec)

/-- 'laws.FnExactAddBox', WHERE WHAT IT READS IS OF BULK AT MOST 1048576: true; the input reads as it did. -/
def fnExactAddBoxUptoRow : OpenClaim := { program := "ytdmhjfajicclaaa", sum := "738c8acdccdea35d8afad0570abebb7a9057fd782a58606751d8ea7e4eef7f4a", func := "loop.example/g01202/laws.FnExactAddBox", spec := "fnExactAddBox", inPlace := ["internal/bytealg.abigen_runtime_cmpstring", "slices.overlaps[loop.example/g01202/impl.Box]"], unfollowed := true, recurses := true, apart := false, narrowed := true }
def FnExactAddBoxUptoSaid : Prop := fnExactAddBoxUptoRow.holds Try.pinned (OpenSpec.upto fnExactAddBoxSpec)

end Rows
end Go.Proofs.Ytdmhjfajicclaaa
