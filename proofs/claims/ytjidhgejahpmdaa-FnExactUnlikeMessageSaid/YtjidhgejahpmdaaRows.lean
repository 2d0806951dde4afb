/-
  No cell of these rows narrows 'for every input' (looked for: loops, veiled, ifaces, maps, wideKeys, modest, calm, conditions, laid).
  DERIVED. THE GIVEN ROWS OF THIS SEAT. 10 by the template 'for every input the law returns true; each argument reads behind the call as it read before'; 0 by the template 'total and deterministic' (their statements: YtjidhgejahpmdaaTotals.lean).
  GIVEN WITH THE SEED: the statements are not yours to turn. If you find one false, say at which input.
  Laid BY PROGRAM, IN A SANDBOX (cutbox-rows.mjs): the forced cells as the released guide's own fill.sh prints them over the translation efe648fdfbadf28c… (all of the seat's roots in one cut). By AI agents, Wed Nov 11 2026. No macro, syntax, notation, axiom, sorry.
-/
import Derived.Test.YtjidhgejahpmdaaChecked
import GoSem.Claim
import GoSem.ClaimJoined
import GoSem.ClaimMapViews
import Derived.JoinedTies
import Derived.KernelRfl
namespace Go.Proofs.Ytjidhgejahpmdaa
/- THE CELL 'sum', in the pinned program and in every row, IS THE sha256 OF THE DUMP (.gsa) THAT YtjidhgejahpmdaaProg.lean LOADS. Nothing in Lean hashes anything: it is a label: what it is worth is what the hold of that sum in a sandbox is worth. -/
noncomputable def Try.pinned : Pinned := { name := "ytjidhgejahpmdaa", sum := "efe648fdfbadf28cf58d4df0339d1d970710ac32ed5b22e897660ac00025589c", checked := Try.checked }
namespace Rows
def none {H : Type} : Left H := { results := [], args := [] }

/-- 'laws.FnExactAnswersTo': WHATEVER THE INPUT: true; the input reads as it did. -/
def fnExactAnswersToSpec : ChangeSpec := { name := "fnExactAnswersTo", fn := fun _ => fun
  | [d1, d2] => { results := [.lit (.bool true)], args := [d1, d2] }
  | _ => none }
def fnExactAnswersToRow : OpenClaim := { program := "ytjidhgejahpmdaa", sum := "efe648fdfbadf28cf58d4df0339d1d970710ac32ed5b22e897660ac00025589c", func := "loop.example/g01202/laws.FnExactAnswersTo", spec := "fnExactAnswersTo", unfollowed := true, recurses := true, apart := false }
def FnExactAnswersToSaid : Prop := fnExactAnswersToRow.holds Try.pinned (OpenSpec.ofChange fnExactAnswersToSpec)

/-- ITS FALSE NEIGHBOUR: 'it returns false'. Refute it at one input. -/
def fnExactAnswersToWrong : ChangeSpec := { name := "fnExactAnswersTo", fn := fun _ => fun
  | [d1, d2] => { results := [.lit (.bool false)], args := [d1, d2] }
  | _ => none }
def FnExactAnswersToWrongFalsely : Prop := fnExactAnswersToRow.holds Try.pinned (OpenSpec.ofChange fnExactAnswersToWrong)

/-- 'laws.FnExactThreadOf': WHATEVER THE INPUT: true; the input reads as it did. -/
def fnExactThreadOfSpec : ChangeSpec := { name := "fnExactThreadOf", fn := fun _ => fun
  | [d1, d2] => { results := [.lit (.bool true)], args := [d1, d2] }
  | _ => none }
def fnExactThreadOfRow : OpenClaim := { program := "ytjidhgejahpmdaa", sum := "efe648fdfbadf28cf58d4df0339d1d970710ac32ed5b22e897660ac00025589c", func := "loop.example/g01202/laws.FnExactThreadOf", spec := "fnExactThreadOf", unfollowed := true, recurses := true, apart := false }
def FnExactThreadOfSaid : Prop := fnExactThreadOfRow.holds Try.pinned (OpenSpec.ofChange fnExactThreadOfSpec)

/-- ITS FALSE NEIGHBOUR: 'it returns false'. Refute it at one input. -/
def fnExactThreadOfWrong : ChangeSpec := { name := "fnExactThreadOf", fn := fun _ => fun
  | [d1, d2] => { results := [.lit (.bool false)], args := [d1, d2] }
  | _ => none }
def FnExactThreadOfWrongFalsely : Prop := fnExactThreadOfRow.holds Try.pinned (OpenSpec.ofChange fnExactThreadOfWrong)

/-- 'laws.FnExactMessageOf': WHATEVER THE INPUT: true; the input reads as it did. -/
def fnExactMessageOfSpec : ChangeSpec := { name := "fnExactMessageOf", fn := fun _ => fun
  | [d1, d2] => { results := [.lit (.bool true)], args := [d1, d2] }
  | _ => none }
def fnExactMessageOfRow : OpenClaim := { program := "ytjidhgejahpmdaa", sum := "efe648fdfbadf28cf58d4df0339d1d970710ac32ed5b22e897660ac00025589c", func := "loop.example/g01202/laws.FnExactMessageOf", spec := "fnExactMessageOf", unfollowed := true, recurses := true, apart := false }
def FnExactMessageOfSaid : Prop := fnExactMessageOfRow.holds Try.pinned (OpenSpec.ofChange fnExactMessageOfSpec)

/-- ITS FALSE NEIGHBOUR: 'it returns false'. Refute it at one input. -/
def fnExactMessageOfWrong : ChangeSpec := { name := "fnExactMessageOf", fn := fun _ => fun
  | [d1, d2] => { results := [.lit (.bool false)], args := [d1, d2] }
  | _ => none }
def FnExactMessageOfWrongFalsely : Prop := fnExactMessageOfRow.holds Try.pinned (OpenSpec.ofChange fnExactMessageOfWrong)

/-- 'laws.FnExactPostMessage': WHATEVER THE INPUT: true; the input reads as it did. -/
def fnExactPostMessageSpec : ChangeSpec := { name := "fnExactPostMessage", fn := fun _ => fun
  | [d1, d2, d3, d4, d5] => { results := [.lit (.bool true)], args := [d1, d2, d3, d4, d5] }
  | _ => none }
def fnExactPostMessageRow : OpenClaim := { program := "ytjidhgejahpmdaa", sum := "efe648fdfbadf28cf58d4df0339d1d970710ac32ed5b22e897660ac00025589c", func := "loop.example/g01202/laws.FnExactPostMessage", spec := "fnExactPostMessage", unfollowed := true, recurses := true, apart := false }
def FnExactPostMessageSaid : Prop := fnExactPostMessageRow.holds Try.pinned (OpenSpec.ofChange fnExactPostMessageSpec)

/-- ITS FALSE NEIGHBOUR: 'it returns false'. Refute it at one input. -/
def fnExactPostMessageWrong : ChangeSpec := { name := "fnExactPostMessage", fn := fun _ => fun
  | [d1, d2, d3, d4, d5] => { results := [.lit (.bool false)], args := [d1, d2, d3, d4, d5] }
  | _ => none }
def FnExactPostMessageWrongFalsely : Prop := fnExactPostMessageRow.holds Try.pinned (OpenSpec.ofChange fnExactPostMessageWrong)

/-- 'laws.FnExactTakeBack': WHATEVER THE INPUT: true; the input reads as it did. -/
def fnExactTakeBackSpec : ChangeSpec := { name := "fnExactTakeBack", fn := fun _ => fun
  | [d1, d2, d3] => { results := [.lit (.bool true)], args := [d1, d2, d3] }
  | _ => none }
def fnExactTakeBackRow : OpenClaim := { program := "ytjidhgejahpmdaa", sum := "efe648fdfbadf28cf58d4df0339d1d970710ac32ed5b22e897660ac00025589c", func := "loop.example/g01202/laws.FnExactTakeBack", spec := "fnExactTakeBack", unfollowed := true, recurses := true, apart := false }
def FnExactTakeBackSaid : Prop := fnExactTakeBackRow.holds Try.pinned (OpenSpec.ofChange fnExactTakeBackSpec)

/-- ITS FALSE NEIGHBOUR: 'it returns false'. Refute it at one input. -/
def fnExactTakeBackWrong : ChangeSpec := { name := "fnExactTakeBack", fn := fun _ => fun
  | [d1, d2, d3] => { results := [.lit (.bool false)], args := [d1, d2, d3] }
  | _ => none }
def FnExactTakeBackWrongFalsely : Prop := fnExactTakeBackRow.holds Try.pinned (OpenSpec.ofChange fnExactTakeBackWrong)

/-- 'laws.FnExactEditMessage': WHATEVER THE INPUT: true; the input reads as it did. -/
def fnExactEditMessageSpec : ChangeSpec := { name := "fnExactEditMessage", fn := fun _ => fun
  | [d1, d2, d3, d4] => { results := [.lit (.bool true)], args := [d1, d2, d3, d4] }
  | _ => none }
def fnExactEditMessageRow : OpenClaim := { program := "ytjidhgejahpmdaa", sum := "efe648fdfbadf28cf58d4df0339d1d970710ac32ed5b22e897660ac00025589c", func := "loop.example/g01202/laws.FnExactEditMessage", spec := "fnExactEditMessage", unfollowed := true, recurses := true, apart := false }
def FnExactEditMessageSaid : Prop := fnExactEditMessageRow.holds Try.pinned (OpenSpec.ofChange fnExactEditMessageSpec)

/-- ITS FALSE NEIGHBOUR: 'it returns false'. Refute it at one input. -/
def fnExactEditMessageWrong : ChangeSpec := { name := "fnExactEditMessage", fn := fun _ => fun
  | [d1, d2, d3, d4] => { results := [.lit (.bool false)], args := [d1, d2, d3, d4] }
  | _ => none }
def FnExactEditMessageWrongFalsely : Prop := fnExactEditMessageRow.holds Try.pinned (OpenSpec.ofChange fnExactEditMessageWrong)

/-- 'laws.FnExactUnlikeMessage': WHATEVER THE INPUT: true; the input reads as it did. -/
def fnExactUnlikeMessageSpec : ChangeSpec := { name := "fnExactUnlikeMessage", fn := fun _ => fun
  | [d1, d2, d3] => { results := [.lit (.bool true)], args := [d1, d2, d3] }
  | _ => none }
def fnExactUnlikeMessageRow : OpenClaim := { program := "ytjidhgejahpmdaa", sum := "efe648fdfbadf28cf58d4df0339d1d970710ac32ed5b22e897660ac00025589c", func := "loop.example/g01202/laws.FnExactUnlikeMessage", spec := "fnExactUnlikeMessage", unfollowed := true, recurses := true, apart := false }
def FnExactUnlikeMessageSaid : Prop := fnExactUnlikeMessageRow.holds Try.pinned (OpenSpec.ofChange fnExactUnlikeMessageSpec)

/-- ITS FALSE NEIGHBOUR: 'it returns false'. Refute it at one input. -/
def fnExactUnlikeMessageWrong : ChangeSpec := { name := "fnExactUnlikeMessage", fn := fun _ => fun
  | [d1, d2, d3] => { results := [.lit (.bool false)], args := [d1, d2, d3] }
  | _ => none }
def FnExactUnlikeMessageWrongFalsely : Prop := fnExactUnlikeMessageRow.holds Try.pinned (OpenSpec.ofChange fnExactUnlikeMessageWrong)

/-- 'laws.FnExactLikeMessage': WHATEVER THE INPUT: true; the input reads as it did. -/
def fnExactLikeMessageSpec : ChangeSpec := { name := "fnExactLikeMessage", fn := fun _ => fun
  | [d1, d2, d3] => { results := [.lit (.bool true)], args := [d1, d2, d3] }
  | _ => none }
def fnExactLikeMessageRow : OpenClaim := { program := "ytjidhgejahpmdaa", sum := "efe648fdfbadf28cf58d4df0339d1d970710ac32ed5b22e897660ac00025589c", func := "loop.example/g01202/laws.FnExactLikeMessage", spec := "fnExactLikeMessage", inPlace := ["slices.overlaps[int64]"], unfollowed := true, recurses := true, apart := false }
def FnExactLikeMessageSaid : Prop := fnExactLikeMessageRow.holds Try.pinned (OpenSpec.ofChange fnExactLikeMessageSpec)

/-- ITS FALSE NEIGHBOUR: 'it returns false'. Refute it at one input. -/
def fnExactLikeMessageWrong : ChangeSpec := { name := "fnExactLikeMessage", fn := fun _ => fun
  | [d1, d2, d3] => { results := [.lit (.bool false)], args := [d1, d2, d3] }
  | _ => none }
def FnExactLikeMessageWrongFalsely : Prop := fnExactLikeMessageRow.holds Try.pinned (OpenSpec.ofChange fnExactLikeMessageWrong)

/-- 'laws.FnLogs': WHATEVER THE INPUT: true; the input reads as it did. -/
def fnLogsSpec : ChangeSpec := { name := "fnLogs", fn := fun _ => fun
  | [d1, d2] => { results := [.lit (.bool true)], args := [d1, d2] }
  | _ => none }
def fnLogsRow : OpenClaim := { program := "ytjidhgejahpmdaa", sum := "efe648fdfbadf28cf58d4df0339d1d970710ac32ed5b22e897660ac00025589c", func := "loop.example/g01202/laws.FnLogs", spec := "fnLogs", inPlace := ["slices.overlaps[int64]"], unfollowed := true, recurses := true, apart := false }
def FnLogsSaid : Prop := fnLogsRow.holds Try.pinned (OpenSpec.ofChange fnLogsSpec)

/-- ITS FALSE NEIGHBOUR: 'it returns false'. Refute it at one input. -/
def fnLogsWrong : ChangeSpec := { name := "fnLogs", fn := fun _ => fun
  | [d1, d2] => { results := [.lit (.bool false)], args := [d1, d2] }
  | _ => none }
def FnLogsWrongFalsely : Prop := fnLogsRow.holds Try.pinned (OpenSpec.ofChange fnLogsWrong)

/-- 'laws.FnThreads': WHATEVER THE INPUT: true; the input reads as it did. -/
def fnThreadsSpec : ChangeSpec := { name := "fnThreads", fn := fun _ => fun
  | [d1, d2] => { results := [.lit (.bool true)], args := [d1, d2] }
  | _ => none }
def fnThreadsRow : OpenClaim := { program := "ytjidhgejahpmdaa", sum := "efe648fdfbadf28cf58d4df0339d1d970710ac32ed5b22e897660ac00025589c", func := "loop.example/g01202/laws.FnThreads", spec := "fnThreads", unfollowed := true, recurses := true, apart := false }
def FnThreadsSaid : Prop := fnThreadsRow.holds Try.pinned (OpenSpec.ofChange fnThreadsSpec)

/-- ITS FALSE NEIGHBOUR: 'it returns false'. Refute it at one input. -/
def fnThreadsWrong : ChangeSpec := { name := "fnThreads", fn := fun _ => fun
  | [d1, d2] => { results := [.lit (.bool false)], args := [d1, d2] }
  | _ => none }
def FnThreadsWrongFalsely : Prop := fnThreadsRow.holds Try.pinned (OpenSpec.ofChange fnThreadsWrong)

/- THE SECOND FORM. 'bulk': how many values and letters a reading holds, each counted each time it is reached (what is shared counts as often as it is met; a slice's spare places count too). A statement '..UptoSaid' is the law's where the arguments, and the package variables that the reading takes, are together of bulk at most 1048576: NARROWER than '..Said'. Prove '..Said' where nothing that the law and all that it calls make is longer than what came in: it says more and counts as full. Else prove '..UptoSaid'. A law counts once. -/
mutual
def uptoBulk {H : Type} : DataW H → Nat
  | .lit (.string bytes) => bytes.length + 1
  | .lit _ => 1
  | .nil => 1
  | .ptr d => uptoBulk d + 1
  | .slice elems spare => uptoBulkAll elems + uptoBulkAll spare + 1
  | .agg parts => uptoBulkAll parts + 1
  | .iface _ d => uptoBulk d + 1
  | .map entries => uptoBulkEntries entries + 1
  | .held _ => 1
def uptoBulkAll {H : Type} : List (DataW H) → Nat
  | [] => 0
  | d :: r => uptoBulk d + uptoBulkAll r
def uptoBulkEntries {H : Type} : List (Lit × DataW H) → Nat
  | [] => 0
  | x :: r => uptoBulkEntry x + uptoBulkEntries r
def uptoBulkEntry {H : Type} : Lit × DataW H → Nat
  | (.string bytes, d) => bytes.length + uptoBulk d + 1
  | (_, d) => uptoBulk d + 1
 end
def uptoSmall : (H : Type) → List (DataW H) → Bool := fun _ ds => decide (uptoBulkAll ds ≤ 1048576)
def OpenSpec.upto (s : _root_.Go.ChangeSpec) : _root_.Go.OpenSpec := { _root_.Go.OpenSpec.ofChange s with cond := some uptoSmall }

/-- 'laws.FnExactAnswersTo', WHERE WHAT IT READS IS OF BULK AT MOST 1048576: true; the input reads as it did. -/
def fnExactAnswersToUptoRow : OpenClaim := { program := "ytjidhgejahpmdaa", sum := "efe648fdfbadf28cf58d4df0339d1d970710ac32ed5b22e897660ac00025589c", func := "loop.example/g01202/laws.FnExactAnswersTo", spec := "fnExactAnswersTo", unfollowed := true, recurses := true, apart := false, narrowed := true }
def FnExactAnswersToUptoSaid : Prop := fnExactAnswersToUptoRow.holds Try.pinned (OpenSpec.upto fnExactAnswersToSpec)

/-- 'laws.FnExactThreadOf', WHERE WHAT IT READS IS OF BULK AT MOST 1048576: true; the input reads as it did. -/
def fnExactThreadOfUptoRow : OpenClaim := { program := "ytjidhgejahpmdaa", sum := "efe648fdfbadf28cf58d4df0339d1d970710ac32ed5b22e897660ac00025589c", func := "loop.example/g01202/laws.FnExactThreadOf", spec := "fnExactThreadOf", unfollowed := true, recurses := true, apart := false, narrowed := true }
def FnExactThreadOfUptoSaid : Prop := fnExactThreadOfUptoRow.holds Try.pinned (OpenSpec.upto fnExactThreadOfSpec)

/-- 'laws.FnExactMessageOf', WHERE WHAT IT READS IS OF BULK AT MOST 1048576: true; the input reads as it did. -/
def fnExactMessageOfUptoRow : OpenClaim := { program := "ytjidhgejahpmdaa", sum := "efe648fdfbadf28cf58d4df0339d1d970710ac32ed5b22e897660ac00025589c", func := "loop.example/g01202/laws.FnExactMessageOf", spec := "fnExactMessageOf", unfollowed := true, recurses := true, apart := false, narrowed := true }
def FnExactMessageOfUptoSaid : Prop := fnExactMessageOfUptoRow.holds Try.pinned (OpenSpec.upto fnExactMessageOfSpec)

/-- 'laws.FnExactPostMessage', WHERE WHAT IT READS IS OF BULK AT MOST 1048576: true; the input reads as it did. -/
def fnExactPostMessageUptoRow : OpenClaim := { program := "ytjidhgejahpmdaa", sum := "efe648fdfbadf28cf58d4df0339d1d970710ac32ed5b22e897660ac00025589c", func := "loop.example/g01202/laws.FnExactPostMessage", spec := "fnExactPostMessage", unfollowed := true, recurses := true, apart := false, narrowed := true }
def FnExactPostMessageUptoSaid : Prop := fnExactPostMessageUptoRow.holds Try.pinned (OpenSpec.upto fnExactPostMessageSpec)

/-- 'laws.FnExactTakeBack', WHERE WHAT IT READS IS OF BULK AT MOST 1048576: true; the input reads as it did. -/
def fnExactTakeBackUptoRow : OpenClaim := { program := "ytjidhgejahpmdaa", sum := "efe648fdfbadf28cf58d4df0339d1d970710ac32ed5b22e897660ac00025589c", func := "loop.example/g01202/laws.FnExactTakeBack", spec := "fnExactTakeBack", unfollowed := true, recurses := true, apart := false, narrowed := true }
def FnExactTakeBackUptoSaid : Prop := fnExactTakeBackUptoRow.holds Try.pinned (OpenSpec.upto fnExactTakeBackSpec)

/-- 'laws.FnExactEditMessage', WHERE WHAT IT READS IS OF BULK AT MOST 1048576: true; the input reads as it did. -/
def fnExactEditMessageUptoRow : OpenClaim := { program := "ytjidhgejahpmdaa", sum := "efe648fdfbadf28cf58d4df0339d1d970710ac32ed5b22e897660ac00025589c", func := "loop.example/g01202/laws.FnExactEditMessage", spec := "fnExactEditMessage", unfollowed := true, recurses := true, apart := false, narrowed := true }
def FnExactEditMessageUptoSaid : Prop := fnExactEditMessageUptoRow.holds Try.pinned (OpenSpec.upto fnExactEditMessageSpec)

/-- 'laws.FnExactUnlikeMessage', WHERE WHAT IT READS IS OF BULK AT MOST 1048576: true; the input reads as it did. -/
def fnExactUnlikeMessageUptoRow : OpenClaim := { program := "ytjidhgejahpmdaa", sum := "efe648fdfbadf28cf58d4df0339d1d970710ac32ed5b22e897660ac00025589c", func := "loop.example/g01202/laws.FnExactUnlikeMessage", spec := "fnExactUnlikeMessage", unfollowed := true, recurses := true, apart := false, narrowed := true }
def FnExactUnlikeMessageUptoSaid : Prop := fnExactUnlikeMessageUptoRow.holds Try.pinned (OpenSpec.upto fnExactUnlikeMessageSpec)

/-- 'laws.FnExactLikeMessage', WHERE WHAT IT READS IS OF BULK AT MOST 1048576: true; the input reads as it did. -/
def fnExactLikeMessageUptoRow : OpenClaim := { program := "ytjidhgejahpmdaa", sum := "efe648fdfbadf28cf58d4df0339d1d970710ac32ed5b22e897660ac00025589c", func := "loop.example/g01202/laws.FnExactLikeMessage", spec := "fnExactLikeMessage", inPlace := ["slices.overlaps[int64]"], unfollowed := true, recurses := true, apart := false, narrowed := true }
def FnExactLikeMessageUptoSaid : Prop := fnExactLikeMessageUptoRow.holds Try.pinned (OpenSpec.upto fnExactLikeMessageSpec)

/-- 'laws.FnLogs', WHERE WHAT IT READS IS OF BULK AT MOST 1048576: true; the input reads as it did. -/
def fnLogsUptoRow : OpenClaim := { program := "ytjidhgejahpmdaa", sum := "efe648fdfbadf28cf58d4df0339d1d970710ac32ed5b22e897660ac00025589c", func := "loop.example/g01202/laws.FnLogs", spec := "fnLogs", inPlace := ["slices.overlaps[int64]"], unfollowed := true, recurses := true, apart := false, narrowed := true }
def FnLogsUptoSaid : Prop := fnLogsUptoRow.holds Try.pinned (OpenSpec.upto fnLogsSpec)

/-- 'laws.FnThreads', WHERE WHAT IT READS IS OF BULK AT MOST 1048576: true; the input reads as it did. -/
def fnThreadsUptoRow : OpenClaim := { program := "ytjidhgejahpmdaa", sum := "efe648fdfbadf28cf58d4df0339d1d970710ac32ed5b22e897660ac00025589c", func := "loop.example/g01202/laws.FnThreads", spec := "fnThreads", unfollowed := true, recurses := true, apart := false, narrowed := true }
def FnThreadsUptoSaid : Prop := fnThreadsUptoRow.holds Try.pinned (OpenSpec.upto fnThreadsSpec)

end Rows
end Go.Proofs.Ytjidhgejahpmdaa
