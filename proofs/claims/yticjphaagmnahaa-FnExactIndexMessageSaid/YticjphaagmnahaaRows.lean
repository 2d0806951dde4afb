/-
  No cell of these rows narrows 'for every input' (looked for: loops, veiled, ifaces, maps, wideKeys, modest, calm, conditions, laid).
  DERIVED. THE GIVEN ROWS OF THIS SEAT. 8 by the template 'for every input the law returns true; each argument reads behind the call as it read before'; 0 by the template 'total and deterministic' (their statements: YticjphaagmnahaaTotals.lean).
  GIVEN WITH THE SEED: the statements are not yours to turn. If you find one false, say at which input.
  Laid BY PROGRAM, IN A SANDBOX (cutbox-rows.mjs): the forced cells as the released guide's own fill.sh prints them over the translation 7bedcf8404f23013… (all of the seat's roots in one cut). By AI agents, Wed Nov 11 2026. No macro, syntax, notation, axiom, sorry.
-/
import Derived.Test.YticjphaagmnahaaChecked
import GoSem.Claim
import GoSem.ClaimJoined
import GoSem.ClaimMapViews
import Derived.JoinedTies
import Derived.KernelRfl
namespace Go.Proofs.Yticjphaagmnahaa
/- THE CELL 'sum', in the pinned program and in every row, IS THE sha256 OF THE DUMP (.gsa) THAT YticjphaagmnahaaProg.lean LOADS. Nothing in Lean hashes anything: it is a label: what it is worth is what the hold of that sum in a sandbox is worth. -/
noncomputable def Try.pinned : Pinned := { name := "yticjphaagmnahaa", sum := "7bedcf8404f2301326f4e7e3cb8a7b5d8f042343625c30ab5b0e73d056426f71", checked := Try.checked }
namespace Rows
def none {H : Type} : Left H := { results := [], args := [] }

/-- 'laws.FnExactFindAll': WHATEVER THE INPUT: true; the input reads as it did. -/
def fnExactFindAllSpec : ChangeSpec := { name := "fnExactFindAll", fn := fun _ => fun
  | [d1, d2] => { results := [.lit (.bool true)], args := [d1, d2] }
  | _ => none }
def fnExactFindAllRow : OpenClaim := { program := "yticjphaagmnahaa", sum := "7bedcf8404f2301326f4e7e3cb8a7b5d8f042343625c30ab5b0e73d056426f71", func := "loop.example/g01202/laws.FnExactFindAll", spec := "fnExactFindAll", inPlace := ["internal/bytealg.abigen_runtime_cmpstring"], unfollowed := true, recurses := true, apart := false }
def FnExactFindAllSaid : Prop := fnExactFindAllRow.holds Try.pinned (OpenSpec.ofChange fnExactFindAllSpec)

/-- ITS FALSE NEIGHBOUR: 'it returns false'. Refute it at one input. -/
def fnExactFindAllWrong : ChangeSpec := { name := "fnExactFindAll", fn := fun _ => fun
  | [d1, d2] => { results := [.lit (.bool false)], args := [d1, d2] }
  | _ => none }
def FnExactFindAllWrongFalsely : Prop := fnExactFindAllRow.holds Try.pinned (OpenSpec.ofChange fnExactFindAllWrong)

/-- 'laws.FnExactPointsFor': WHATEVER THE INPUT: true; the input reads as it did. -/
def fnExactPointsForSpec : ChangeSpec := { name := "fnExactPointsFor", fn := fun _ => fun
  | [d1, d2, d3] => { results := [.lit (.bool true)], args := [d1, d2, d3] }
  | _ => none }
def fnExactPointsForRow : OpenClaim := { program := "yticjphaagmnahaa", sum := "7bedcf8404f2301326f4e7e3cb8a7b5d8f042343625c30ab5b0e73d056426f71", func := "loop.example/g01202/laws.FnExactPointsFor", spec := "fnExactPointsFor", unfollowed := true, recurses := true, apart := false }
def FnExactPointsForSaid : Prop := fnExactPointsForRow.holds Try.pinned (OpenSpec.ofChange fnExactPointsForSpec)

/-- ITS FALSE NEIGHBOUR: 'it returns false'. Refute it at one input. -/
def fnExactPointsForWrong : ChangeSpec := { name := "fnExactPointsFor", fn := fun _ => fun
  | [d1, d2, d3] => { results := [.lit (.bool false)], args := [d1, d2, d3] }
  | _ => none }
def FnExactPointsForWrongFalsely : Prop := fnExactPointsForRow.holds Try.pinned (OpenSpec.ofChange fnExactPointsForWrong)

/-- 'laws.FnExactFindPhrase': WHATEVER THE INPUT: true; the input reads as it did. -/
def fnExactFindPhraseSpec : ChangeSpec := { name := "fnExactFindPhrase", fn := fun _ => fun
  | [d1, d2] => { results := [.lit (.bool true)], args := [d1, d2] }
  | _ => none }
def fnExactFindPhraseRow : OpenClaim := { program := "yticjphaagmnahaa", sum := "7bedcf8404f2301326f4e7e3cb8a7b5d8f042343625c30ab5b0e73d056426f71", func := "loop.example/g01202/laws.FnExactFindPhrase", spec := "fnExactFindPhrase", unfollowed := true, recurses := true, apart := false }
def FnExactFindPhraseSaid : Prop := fnExactFindPhraseRow.holds Try.pinned (OpenSpec.ofChange fnExactFindPhraseSpec)

/-- ITS FALSE NEIGHBOUR: 'it returns false'. Refute it at one input. -/
def fnExactFindPhraseWrong : ChangeSpec := { name := "fnExactFindPhrase", fn := fun _ => fun
  | [d1, d2] => { results := [.lit (.bool false)], args := [d1, d2] }
  | _ => none }
def FnExactFindPhraseWrongFalsely : Prop := fnExactFindPhraseRow.holds Try.pinned (OpenSpec.ofChange fnExactFindPhraseWrong)

/-- 'laws.FnExactFindAny': WHATEVER THE INPUT: true; the input reads as it did. -/
def fnExactFindAnySpec : ChangeSpec := { name := "fnExactFindAny", fn := fun _ => fun
  | [d1, d2] => { results := [.lit (.bool true)], args := [d1, d2] }
  | _ => none }
def fnExactFindAnyRow : OpenClaim := { program := "yticjphaagmnahaa", sum := "7bedcf8404f2301326f4e7e3cb8a7b5d8f042343625c30ab5b0e73d056426f71", func := "loop.example/g01202/laws.FnExactFindAny", spec := "fnExactFindAny", inPlace := ["internal/bytealg.abigen_runtime_cmpstring"], unfollowed := true, recurses := true, apart := false }
def FnExactFindAnySaid : Prop := fnExactFindAnyRow.holds Try.pinned (OpenSpec.ofChange fnExactFindAnySpec)

/-- ITS FALSE NEIGHBOUR: 'it returns false'. Refute it at one input. -/
def fnExactFindAnyWrong : ChangeSpec := { name := "fnExactFindAny", fn := fun _ => fun
  | [d1, d2] => { results := [.lit (.bool false)], args := [d1, d2] }
  | _ => none }
def FnExactFindAnyWrongFalsely : Prop := fnExactFindAnyRow.holds Try.pinned (OpenSpec.ofChange fnExactFindAnyWrong)

/-- 'laws.FnExactCommonWords': WHATEVER THE INPUT: true; the input reads as it did. -/
def fnExactCommonWordsSpec : ChangeSpec := { name := "fnExactCommonWords", fn := fun _ => fun
  | [d1, d2] => { results := [.lit (.bool true)], args := [d1, d2] }
  | _ => none }
def fnExactCommonWordsRow : OpenClaim := { program := "yticjphaagmnahaa", sum := "7bedcf8404f2301326f4e7e3cb8a7b5d8f042343625c30ab5b0e73d056426f71", func := "loop.example/g01202/laws.FnExactCommonWords", spec := "fnExactCommonWords", unfollowed := true, recurses := true, apart := false }
def FnExactCommonWordsSaid : Prop := fnExactCommonWordsRow.holds Try.pinned (OpenSpec.ofChange fnExactCommonWordsSpec)

/-- ITS FALSE NEIGHBOUR: 'it returns false'. Refute it at one input. -/
def fnExactCommonWordsWrong : ChangeSpec := { name := "fnExactCommonWords", fn := fun _ => fun
  | [d1, d2] => { results := [.lit (.bool false)], args := [d1, d2] }
  | _ => none }
def FnExactCommonWordsWrongFalsely : Prop := fnExactCommonWordsRow.holds Try.pinned (OpenSpec.ofChange fnExactCommonWordsWrong)

/-- 'laws.FnExactIndexOf': WHATEVER THE INPUT: true; the input reads as it did. -/
def fnExactIndexOfSpec : ChangeSpec := { name := "fnExactIndexOf", fn := fun _ => fun
  | [d] => { results := [.lit (.bool true)], args := [d] }
  | _ => none }
def fnExactIndexOfRow : OpenClaim := { program := "yticjphaagmnahaa", sum := "7bedcf8404f2301326f4e7e3cb8a7b5d8f042343625c30ab5b0e73d056426f71", func := "loop.example/g01202/laws.FnExactIndexOf", spec := "fnExactIndexOf", inPlace := ["internal/bytealg.abigen_runtime_cmpstring", "slices.overlaps[loop.example/g01202/impl.Entry]", "slices.overlaps[int64]"], unfollowed := true, recurses := true, apart := false }
def FnExactIndexOfSaid : Prop := fnExactIndexOfRow.holds Try.pinned (OpenSpec.ofChange fnExactIndexOfSpec)

/-- ITS FALSE NEIGHBOUR: 'it returns false'. Refute it at one input. -/
def fnExactIndexOfWrong : ChangeSpec := { name := "fnExactIndexOf", fn := fun _ => fun
  | [d] => { results := [.lit (.bool false)], args := [d] }
  | _ => none }
def FnExactIndexOfWrongFalsely : Prop := fnExactIndexOfRow.holds Try.pinned (OpenSpec.ofChange fnExactIndexOfWrong)

/-- 'laws.FnExactIndexMessage': WHATEVER THE INPUT: true; the input reads as it did. -/
def fnExactIndexMessageSpec : ChangeSpec := { name := "fnExactIndexMessage", fn := fun _ => fun
  | [d1, d2] => { results := [.lit (.bool true)], args := [d1, d2] }
  | _ => none }
def fnExactIndexMessageRow : OpenClaim := { program := "yticjphaagmnahaa", sum := "7bedcf8404f2301326f4e7e3cb8a7b5d8f042343625c30ab5b0e73d056426f71", func := "loop.example/g01202/laws.FnExactIndexMessage", spec := "fnExactIndexMessage", inPlace := ["internal/bytealg.abigen_runtime_cmpstring", "slices.overlaps[loop.example/g01202/impl.Entry]", "slices.overlaps[int64]"], unfollowed := true, recurses := true, apart := false }
def FnExactIndexMessageSaid : Prop := fnExactIndexMessageRow.holds Try.pinned (OpenSpec.ofChange fnExactIndexMessageSpec)

/-- ITS FALSE NEIGHBOUR: 'it returns false'. Refute it at one input. -/
def fnExactIndexMessageWrong : ChangeSpec := { name := "fnExactIndexMessage", fn := fun _ => fun
  | [d1, d2] => { results := [.lit (.bool false)], args := [d1, d2] }
  | _ => none }
def FnExactIndexMessageWrongFalsely : Prop := fnExactIndexMessageRow.holds Try.pinned (OpenSpec.ofChange fnExactIndexMessageWrong)

/-- 'laws.FnExactBestOf': WHATEVER THE INPUT: true; the input reads as it did. -/
def fnExactBestOfSpec : ChangeSpec := { name := "fnExactBestOf", fn := fun _ => fun
  | [d1, d2, d3, d4] => { results := [.lit (.bool true)], args := [d1, d2, d3, d4] }
  | _ => none }
def fnExactBestOfRow : OpenClaim := { program := "yticjphaagmnahaa", sum := "7bedcf8404f2301326f4e7e3cb8a7b5d8f042343625c30ab5b0e73d056426f71", func := "loop.example/g01202/laws.FnExactBestOf", spec := "fnExactBestOf", unfollowed := true, recurses := true, apart := false }
def FnExactBestOfSaid : Prop := fnExactBestOfRow.holds Try.pinned (OpenSpec.ofChange fnExactBestOfSpec)

/-- ITS FALSE NEIGHBOUR: 'it returns false'. Refute it at one input. -/
def fnExactBestOfWrong : ChangeSpec := { name := "fnExactBestOf", fn := fun _ => fun
  | [d1, d2, d3, d4] => { results := [.lit (.bool false)], args := [d1, d2, d3, d4] }
  | _ => none }
def FnExactBestOfWrongFalsely : Prop := fnExactBestOfRow.holds Try.pinned (OpenSpec.ofChange fnExactBestOfWrong)

/- THE SECOND FORM. 'bulk': how many values and letters a reading holds, each counted each time it is reached (what is shared counts as often as it is met; a slice's spare places count too). A statement '..UptoSaid' is the law's where the arguments, and the package variables that the reading takes, are together of bulk at most 1048576: NARROWER than '..Said'. Prove '..Said' where nothing that the law and all that it calls make is longer than what came in: it says more and counts as full. Else prove '..UptoSaid'. A law counts once. -/
mutual
def uptoBulk {H : Type} : DataW H → Nat
  | .lit (.string bytes) => bytes.length + 1
  | .lit _ => 1
  | .nil => 1
  | .ptr d => uptoBulk d + 1
  | .slice elems spare => uptoBulkAll elems + uptoBulkAll spare + 1
  | .agg parts => uptoBulkAll parts + 1
  | .iface _ d => uptoBulk d + 1
  | .map entries => uptoBulkEntries entries + 1
  | .held _ => 1
def uptoBulkAll {H : Type} : List (DataW H) → Nat
  | [] => 0
  | d :: r => uptoBulk d + uptoBulkAll r
def uptoBulkEntries {H : Type} : List (Lit × DataW H) → Nat
  | [] => 0
  | x :: r => uptoBulkEntry x + uptoBulkEntries r
def uptoBulkEntry {H : Type} : Lit × DataW H → Nat
  | (.string bytes, d) => bytes.length + uptoBulk d + 1
  | (_, d) => uptoBulk d + 1
 end
def uptoSmall : (H : Type) → List (DataW H) → Bool := fun _ ds => decide (uptoBulkAll ds ≤ 1048576)
def OpenSpec.upto (s : _root_.Go.ChangeSpec) : _root_.Go.OpenSpec := { _root_.Go.OpenSpec.ofChange s with cond := some uptoSmall }

/-- 'laws.FnExactFindAll', WHERE WHAT IT READS IS OF BULK AT MOST 1048576: true; the input reads as it did. -/
def fnExactFindAllUptoRow : OpenClaim := { program := "yticjphaagmnahaa", sum := "7bedcf8404f2301326f4e7e3cb8a7b5d8f042343625c30ab5b0e73d056426f71", func := "loop.example/g01202/laws.FnExactFindAll", spec := "fnExactFindAll", inPlace := ["internal/bytealg.abigen_runtime_cmpstring"], unfollowed := true, recurses := true, apart := false, narrowed := true }
def FnExactFindAllUptoSaid : Prop := fnExactFindAllUptoRow.holds Try.pinned (OpenSpec.upto fnExactFindAllSpec)

/-- 'laws.FnExactPointsFor', WHERE WHAT IT READS IS OF BULK AT MOST 1048576: true; the input reads as it did. -/
def fnExactPointsForUptoRow : OpenClaim := { program := "yticjphaagmnahaa", sum := "7bedcf8404f2301326f4e7e3cb8a7b5d8f042343625c30ab5b0e73d056426f71", func := "loop.example/g01202/laws.FnExactPointsFor", spec := "fnExactPointsFor", unfollowed := true, recurses := true, apart := false, narrowed := true }
def FnExactPointsForUptoSaid : Prop := fnExactPointsForUptoRow.holds Try.pinned (OpenSpec.upto fnExactPointsForSpec)

/-- 'laws.FnExactFindPhrase', WHERE WHAT IT READS IS OF BULK AT MOST 1048576: true; the input reads as it did. -/
def fnExactFindPhraseUptoRow : OpenClaim := { program := "yticjphaagmnahaa", sum := "7bedcf8404f2301326f4e7e3cb8a7b5d8f042343625c30ab5b0e73d056426f71", func := "loop.example/g01202/laws.FnExactFindPhrase", spec := "fnExactFindPhrase", unfollowed := true, recurses := true, apart := false, narrowed := true }
def FnExactFindPhraseUptoSaid : Prop := fnExactFindPhraseUptoRow.holds Try.pinned (OpenSpec.upto fnExactFindPhraseSpec)

/-- 'laws.FnExactFindAny', WHERE WHAT IT READS IS OF BULK AT MOST 1048576: true; the input reads as it did. -/
def fnExactFindAnyUptoRow : OpenClaim := { program := "yticjphaagmnahaa", sum := "7bedcf8404f2301326f4e7e3cb8a7b5d8f042343625c30ab5b0e73d056426f71", func := "loop.example/g01202/laws.FnExactFindAny", spec := "fnExactFindAny", inPlace := ["internal/bytealg.abigen_runtime_cmpstring"], unfollowed := true, recurses := true, apart := false, narrowed := true }
def FnExactFindAnyUptoSaid : Prop := fnExactFindAnyUptoRow.holds Try.pinned (OpenSpec.upto fnExactFindAnySpec)

/-- 'laws.FnExactCommonWords', WHERE WHAT IT READS IS OF BULK AT MOST 1048576: true; the input reads as it did. -/
def fnExactCommonWordsUptoRow : OpenClaim := { program := "yticjphaagmnahaa", sum := "7bedcf8404f2301326f4e7e3cb8a7b5d8f042343625c30ab5b0e73d056426f71", func := "loop.example/g01202/laws.FnExactCommonWords", spec := "fnExactCommonWords", unfollowed := true, recurses := true, apart := false, narrowed := true }
def FnExactCommonWordsUptoSaid : Prop := fnExactCommonWordsUptoRow.holds Try.pinned (OpenSpec.upto fnExactCommonWordsSpec)

/-- 'laws.FnExactIndexOf', WHERE WHAT IT READS IS OF BULK AT MOST 1048576: true; the input reads as it did. -/
def fnExactIndexOfUptoRow : OpenClaim := { program := "yticjphaagmnahaa", sum := "7bedcf8404f2301326f4e7e3cb8a7b5d8f042343625c30ab5b0e73d056426f71", func := "loop.example/g01202/laws.FnExactIndexOf", spec := "fnExactIndexOf", inPlace := ["internal/bytealg.abigen_runtime_cmpstring", "slices.overlaps[loop.example/g01202/impl.Entry]", "slices.overlaps[int64]"], unfollowed := true, recurses := true, apart := false, narrowed := true }
def FnExactIndexOfUptoSaid : Prop := fnExactIndexOfUptoRow.holds Try.pinned (OpenSpec.upto fnExactIndexOfSpec)

/-- 'laws.FnExactIndexMessage', WHERE WHAT IT READS IS OF BULK AT MOST 1048576: true; the input reads as it did. -/
def fnExactIndexMessageUptoRow : OpenClaim := { program := "yticjphaagmnahaa", sum := "7bedcf8404f2301326f4e7e3cb8a7b5d8f042343625c30ab5b0e73d056426f71", func := "loop.example/g01202/laws.FnExactIndexMessage", spec := "fnExactIndexMessage", inPlace := ["internal/bytealg.abigen_runtime_cmpstring", "slices.overlaps[loop.example/g01202/impl.Entry]", "slices.overlaps[int64]"], unfollowed := true, recurses := true, apart := false, narrowed := true }
def FnExactIndexMessageUptoSaid : Prop := fnExactIndexMessageUptoRow.holds Try.pinned (OpenSpec.upto fnExactIndexMessageSpec)

/-- 'laws.FnExactBestOf', WHERE WHAT IT READS IS OF BULK AT MOST 1048576: true; the input reads as it did. -/
def fnExactBestOfUptoRow : OpenClaim := { program := "yticjphaagmnahaa", sum := "7bedcf8404f2301326f4e7e3cb8a7b5d8f042343625c30ab5b0e73d056426f71", func := "loop.example/g01202/laws.FnExactBestOf", spec := "fnExactBestOf", unfollowed := true, recurses := true, apart := false, narrowed := true }
def FnExactBestOfUptoSaid : Prop := fnExactBestOfUptoRow.holds Try.pinned (OpenSpec.upto fnExactBestOfSpec)

end Rows
end Go.Proofs.Yticjphaagmnahaa
