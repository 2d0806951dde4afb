/-
  No cell of these rows narrows 'for every input' (looked for: loops, veiled, ifaces, maps, wideKeys, modest, calm, conditions, laid).
  DERIVED. THE GIVEN ROWS OF THIS SEAT. 5 by the template 'for every input the law returns true; each argument reads behind the call as it read before'; 0 by the template 'total and deterministic' (their statements: YtccgjnanphonnaaTotals.lean).
  GIVEN WITH THE SEED: the statements are not yours to turn. If you find one false, say at which input.
  Laid BY PROGRAM, IN A SANDBOX (cutbox-rows.mjs): the forced cells as the released guide's own fill.sh prints them over the translation 08066f6b3983d4ef… (all of the seat's roots in one cut). By AI agents, Wed Nov 11 2026. No macro, syntax, notation, axiom, sorry.
-/
import Derived.Test.YtccgjnanphonnaaChecked
import GoSem.Claim
import GoSem.ClaimJoined
import GoSem.ClaimMapViews
import Derived.JoinedTies
import Derived.KernelRfl
namespace Go.Proofs.Ytccgjnanphonnaa
/- THE CELL 'sum', in the pinned program and in every row, IS THE sha256 OF THE DUMP (.gsa) THAT YtccgjnanphonnaaProg.lean LOADS. Nothing in Lean hashes anything: it is a label: what it is worth is what the hold of that sum in a sandbox is worth. -/
noncomputable def Try.pinned : Pinned := { name := "ytccgjnanphonnaa", sum := "08066f6b3983d4ef16276117b805c01e0176613a30390042d8b88544057edd4b", checked := Try.checked }
namespace Rows
def none {H : Type} : Left H := { results := [], args := [] }

/-- 'laws.FnExactOpenRoom': WHATEVER THE INPUT: true; the input reads as it did. -/
def fnExactOpenRoomSpec : ChangeSpec := { name := "fnExactOpenRoom", fn := fun _ => fun
  | [d1, d2, d3, d4] => { results := [.lit (.bool true)], args := [d1, d2, d3, d4] }
  | _ => none }
def fnExactOpenRoomRow : OpenClaim := { program := "ytccgjnanphonnaa", sum := "08066f6b3983d4ef16276117b805c01e0176613a30390042d8b88544057edd4b", func := "loop.example/g01202/laws.FnExactOpenRoom", spec := "fnExactOpenRoom", unfollowed := true, recurses := true, apart := false }
def FnExactOpenRoomSaid : Prop := fnExactOpenRoomRow.holds Try.pinned (OpenSpec.ofChange fnExactOpenRoomSpec)

/-- ITS FALSE NEIGHBOUR: 'it returns false'. Refute it at one input. -/
def fnExactOpenRoomWrong : ChangeSpec := { name := "fnExactOpenRoom", fn := fun _ => fun
  | [d1, d2, d3, d4] => { results := [.lit (.bool false)], args := [d1, d2, d3, d4] }
  | _ => none }
def FnExactOpenRoomWrongFalsely : Prop := fnExactOpenRoomRow.holds Try.pinned (OpenSpec.ofChange fnExactOpenRoomWrong)

/-- 'laws.FnExactSweepRoom': WHATEVER THE INPUT: true; the input reads as it did. -/
def fnExactSweepRoomSpec : ChangeSpec := { name := "fnExactSweepRoom", fn := fun _ => fun
  | [d1, d2] => { results := [.lit (.bool true)], args := [d1, d2] }
  | _ => none }
def fnExactSweepRoomRow : OpenClaim := { program := "ytccgjnanphonnaa", sum := "08066f6b3983d4ef16276117b805c01e0176613a30390042d8b88544057edd4b", func := "loop.example/g01202/laws.FnExactSweepRoom", spec := "fnExactSweepRoom", unfollowed := true, recurses := true, apart := false }
def FnExactSweepRoomSaid : Prop := fnExactSweepRoomRow.holds Try.pinned (OpenSpec.ofChange fnExactSweepRoomSpec)

/-- ITS FALSE NEIGHBOUR: 'it returns false'. Refute it at one input. -/
def fnExactSweepRoomWrong : ChangeSpec := { name := "fnExactSweepRoom", fn := fun _ => fun
  | [d1, d2] => { results := [.lit (.bool false)], args := [d1, d2] }
  | _ => none }
def FnExactSweepRoomWrongFalsely : Prop := fnExactSweepRoomRow.holds Try.pinned (OpenSpec.ofChange fnExactSweepRoomWrong)

/-- 'laws.FnExactMuteMember': WHATEVER THE INPUT: true; the input reads as it did. -/
def fnExactMuteMemberSpec : ChangeSpec := { name := "fnExactMuteMember", fn := fun _ => fun
  | [d1, d2, d3, d4, d5] => { results := [.lit (.bool true)], args := [d1, d2, d3, d4, d5] }
  | _ => none }
def fnExactMuteMemberRow : OpenClaim := { program := "ytccgjnanphonnaa", sum := "08066f6b3983d4ef16276117b805c01e0176613a30390042d8b88544057edd4b", func := "loop.example/g01202/laws.FnExactMuteMember", spec := "fnExactMuteMember", unfollowed := true, recurses := true, apart := false }
def FnExactMuteMemberSaid : Prop := fnExactMuteMemberRow.holds Try.pinned (OpenSpec.ofChange fnExactMuteMemberSpec)

/-- ITS FALSE NEIGHBOUR: 'it returns false'. Refute it at one input. -/
def fnExactMuteMemberWrong : ChangeSpec := { name := "fnExactMuteMember", fn := fun _ => fun
  | [d1, d2, d3, d4, d5] => { results := [.lit (.bool false)], args := [d1, d2, d3, d4, d5] }
  | _ => none }
def FnExactMuteMemberWrongFalsely : Prop := fnExactMuteMemberRow.holds Try.pinned (OpenSpec.ofChange fnExactMuteMemberWrong)

/-- 'laws.FnExactGiveRole': WHATEVER THE INPUT: true; the input reads as it did. -/
def fnExactGiveRoleSpec : ChangeSpec := { name := "fnExactGiveRole", fn := fun _ => fun
  | [d1, d2, d3, d4, d5] => { results := [.lit (.bool true)], args := [d1, d2, d3, d4, d5] }
  | _ => none }
def fnExactGiveRoleRow : OpenClaim := { program := "ytccgjnanphonnaa", sum := "08066f6b3983d4ef16276117b805c01e0176613a30390042d8b88544057edd4b", func := "loop.example/g01202/laws.FnExactGiveRole", spec := "fnExactGiveRole", unfollowed := true, recurses := true, apart := false }
def FnExactGiveRoleSaid : Prop := fnExactGiveRoleRow.holds Try.pinned (OpenSpec.ofChange fnExactGiveRoleSpec)

/-- ITS FALSE NEIGHBOUR: 'it returns false'. Refute it at one input. -/
def fnExactGiveRoleWrong : ChangeSpec := { name := "fnExactGiveRole", fn := fun _ => fun
  | [d1, d2, d3, d4, d5] => { results := [.lit (.bool false)], args := [d1, d2, d3, d4, d5] }
  | _ => none }
def FnExactGiveRoleWrongFalsely : Prop := fnExactGiveRoleRow.holds Try.pinned (OpenSpec.ofChange fnExactGiveRoleWrong)

/-- 'laws.FnExactLiftBan': WHATEVER THE INPUT: true; the input reads as it did. -/
def fnExactLiftBanSpec : ChangeSpec := { name := "fnExactLiftBan", fn := fun _ => fun
  | [d1, d2, d3, d4] => { results := [.lit (.bool true)], args := [d1, d2, d3, d4] }
  | _ => none }
def fnExactLiftBanRow : OpenClaim := { program := "ytccgjnanphonnaa", sum := "08066f6b3983d4ef16276117b805c01e0176613a30390042d8b88544057edd4b", func := "loop.example/g01202/laws.FnExactLiftBan", spec := "fnExactLiftBan", unfollowed := true, recurses := true, apart := false }
def FnExactLiftBanSaid : Prop := fnExactLiftBanRow.holds Try.pinned (OpenSpec.ofChange fnExactLiftBanSpec)

/-- ITS FALSE NEIGHBOUR: 'it returns false'. Refute it at one input. -/
def fnExactLiftBanWrong : ChangeSpec := { name := "fnExactLiftBan", fn := fun _ => fun
  | [d1, d2, d3, d4] => { results := [.lit (.bool false)], args := [d1, d2, d3, d4] }
  | _ => none }
def FnExactLiftBanWrongFalsely : Prop := fnExactLiftBanRow.holds Try.pinned (OpenSpec.ofChange fnExactLiftBanWrong)

/- THE SECOND FORM. 'bulk': how many values and letters a reading holds, each counted each time it is reached (what is shared counts as often as it is met; a slice's spare places count too). A statement '..UptoSaid' is the law's where the arguments, and the package variables that the reading takes, are together of bulk at most 1048576: NARROWER than '..Said'. Prove '..Said' where nothing that the law and all that it calls make is longer than what came in: it says more and counts as full. Else prove '..UptoSaid'. A law counts once. -/
mutual
def uptoBulk {H : Type} : DataW H → Nat
  | .lit (.string bytes) => bytes.length + 1
  | .lit _ => 1
  | .nil => 1
  | .ptr d => uptoBulk d + 1
  | .slice elems spare => uptoBulkAll elems + uptoBulkAll spare + 1
  | .agg parts => uptoBulkAll parts + 1
  | .iface _ d => uptoBulk d + 1
  | .map entries => uptoBulkEntries entries + 1
  | .held _ => 1
def uptoBulkAll {H : Type} : List (DataW H) → Nat
  | [] => 0
  | d :: r => uptoBulk d + uptoBulkAll r
def uptoBulkEntries {H : Type} : List (Lit × DataW H) → Nat
  | [] => 0
  | x :: r => uptoBulkEntry x + uptoBulkEntries r
def uptoBulkEntry {H : Type} : Lit × DataW H → Nat
  | (.string bytes, d) => bytes.length + uptoBulk d + 1
  | (_, d) => uptoBulk d + 1
 end
def uptoSmall : (H : Type) → List (DataW H) → Bool := fun _ ds => decide (uptoBulkAll ds ≤ 1048576)
def OpenSpec.upto (s : _root_.Go.ChangeSpec) : _root_.Go.OpenSpec := { _root_.Go.OpenSpec.ofChange s with cond := some uptoSmall }

/-- 'laws.FnExactOpenRoom', WHERE WHAT IT READS IS OF BULK AT MOST 1048576: true; the input reads as it did. -/
def fnExactOpenRoomUptoRow : OpenClaim := { program := "ytccgjnanphonnaa", sum := "08066f6b3983d4ef16276117b805c01e0176613a30390042d8b88544057edd4b", func := "loop.example/g01202/laws.FnExactOpenRoom", spec := "fnExactOpenRoom", unfollowed := true, recurses := true, apart := false, narrowed := true }
def FnExactOpenRoomUptoSaid : Prop := fnExactOpenRoomUptoRow.holds Try.pinned (OpenSpec.upto fnExactOpenRoomSpec)

/-- 'laws.FnExactSweepRoom', WHERE WHAT IT READS IS OF BULK AT MOST 1048576: true; the input reads as it did. -/
def fnExactSweepRoomUptoRow : OpenClaim := { program := "ytccgjnanphonnaa", sum := "08066f6b3983d4ef16276117b805c01e0176613a30390042d8b88544057edd4b", func := "loop.example/g01202/laws.FnExactSweepRoom", spec := "fnExactSweepRoom", unfollowed := true, recurses := true, apart := false, narrowed := true }
def FnExactSweepRoomUptoSaid : Prop := fnExactSweepRoomUptoRow.holds Try.pinned (OpenSpec.upto fnExactSweepRoomSpec)

/-- 'laws.FnExactMuteMember', WHERE WHAT IT READS IS OF BULK AT MOST 1048576: true; the input reads as it did. -/
def fnExactMuteMemberUptoRow : OpenClaim := { program := "ytccgjnanphonnaa", sum := "08066f6b3983d4ef16276117b805c01e0176613a30390042d8b88544057edd4b", func := "loop.example/g01202/laws.FnExactMuteMember", spec := "fnExactMuteMember", unfollowed := true, recurses := true, apart := false, narrowed := true }
def FnExactMuteMemberUptoSaid : Prop := fnExactMuteMemberUptoRow.holds Try.pinned (OpenSpec.upto fnExactMuteMemberSpec)

/-- 'laws.FnExactGiveRole', WHERE WHAT IT READS IS OF BULK AT MOST 1048576: true; the input reads as it did. -/
def fnExactGiveRoleUptoRow : OpenClaim := { program := "ytccgjnanphonnaa", sum := "08066f6b3983d4ef16276117b805c01e0176613a30390042d8b88544057edd4b", func := "loop.example/g01202/laws.FnExactGiveRole", spec := "fnExactGiveRole", unfollowed := true, recurses := true, apart := false, narrowed := true }
def FnExactGiveRoleUptoSaid : Prop := fnExactGiveRoleUptoRow.holds Try.pinned (OpenSpec.upto fnExactGiveRoleSpec)

/-- 'laws.FnExactLiftBan', WHERE WHAT IT READS IS OF BULK AT MOST 1048576: true; the input reads as it did. -/
def fnExactLiftBanUptoRow : OpenClaim := { program := "ytccgjnanphonnaa", sum := "08066f6b3983d4ef16276117b805c01e0176613a30390042d8b88544057edd4b", func := "loop.example/g01202/laws.FnExactLiftBan", spec := "fnExactLiftBan", unfollowed := true, recurses := true, apart := false, narrowed := true }
def FnExactLiftBanUptoSaid : Prop := fnExactLiftBanUptoRow.holds Try.pinned (OpenSpec.upto fnExactLiftBanSpec)

end Rows
end Go.Proofs.Ytccgjnanphonnaa
