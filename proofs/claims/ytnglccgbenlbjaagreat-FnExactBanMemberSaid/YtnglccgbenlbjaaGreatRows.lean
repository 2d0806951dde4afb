/-
  No cell of these rows narrows 'for every input' (looked for: loops, veiled, ifaces, maps, wideKeys, modest, calm, conditions, laid).
  DERIVED. THE GIVEN ROWS OF THIS SEAT. 3 by the template 'for every input the law returns true; each argument reads behind the call as it read before'; 0 by the template 'total and deterministic' (their statements: YtnglccgbenlbjaaGreatTotals.lean).
  GIVEN WITH THE SEED: the statements are not yours to turn. If you find one false, say at which input.
  Laid BY PROGRAM, IN A SANDBOX (cutbox-rows.mjs): the forced cells as the released guide's own fill.sh prints them over the translation db756e8e4a730b1c… (all of the seat's roots in one cut). By AI agents, Wed Nov 11 2026. No macro, syntax, notation, axiom, sorry.
-/
import Derived.Test.YtnglccgbenlbjaaGreatChecked
import GoSem.Claim
import GoSem.ClaimJoined
import GoSem.ClaimMapViews
import Derived.JoinedTies
import Derived.KernelRfl
namespace Go.Proofs.YtnglccgbenlbjaaGreat
/- THE CELL 'sum', in the pinned program and in every row, IS THE sha256 OF THE DUMP (.gsa) THAT YtnglccgbenlbjaaGreatProg.lean LOADS. Nothing in Lean hashes anything: it is a label: what it is worth is what the hold of that sum in a sandbox is worth. -/
noncomputable def Tryz.pinned : Pinned := { name := "ytnglccgbenlbjaagreat", sum := "db756e8e4a730b1c0df11960b801669e11d95d55abc9ea9b01e7e529eeccee15", checked := Tryz.checked }
namespace Rows
def none {H : Type} : Left H := { results := [], args := [] }

/-- 'laws.FnExactJoinRoom': WHATEVER THE INPUT: true; the input reads as it did. -/
def fnExactJoinRoomSpec : ChangeSpec := { name := "fnExactJoinRoom", fn := fun _ => fun
  | [d1, d2, d3] => { results := [.lit (.bool true)], args := [d1, d2, d3] }
  | _ => none }
def fnExactJoinRoomRow : OpenClaim := { program := "ytnglccgbenlbjaagreat", sum := "db756e8e4a730b1c0df11960b801669e11d95d55abc9ea9b01e7e529eeccee15", func := "loop.example/g01202/laws.FnExactJoinRoom", spec := "fnExactJoinRoom", unfollowed := true, recurses := true, apart := false }
def FnExactJoinRoomSaid : Prop := fnExactJoinRoomRow.holds Tryz.pinned (OpenSpec.ofChange fnExactJoinRoomSpec)

/-- ITS FALSE NEIGHBOUR: 'it returns false'. Refute it at one input. -/
def fnExactJoinRoomWrong : ChangeSpec := { name := "fnExactJoinRoom", fn := fun _ => fun
  | [d1, d2, d3] => { results := [.lit (.bool false)], args := [d1, d2, d3] }
  | _ => none }
def FnExactJoinRoomWrongFalsely : Prop := fnExactJoinRoomRow.holds Tryz.pinned (OpenSpec.ofChange fnExactJoinRoomWrong)

/-- 'laws.FnExactInviteTo': WHATEVER THE INPUT: true; the input reads as it did. -/
def fnExactInviteToSpec : ChangeSpec := { name := "fnExactInviteTo", fn := fun _ => fun
  | [d1, d2, d3, d4, d5] => { results := [.lit (.bool true)], args := [d1, d2, d3, d4, d5] }
  | _ => none }
def fnExactInviteToRow : OpenClaim := { program := "ytnglccgbenlbjaagreat", sum := "db756e8e4a730b1c0df11960b801669e11d95d55abc9ea9b01e7e529eeccee15", func := "loop.example/g01202/laws.FnExactInviteTo", spec := "fnExactInviteTo", unfollowed := true, recurses := true, apart := false }
def FnExactInviteToSaid : Prop := fnExactInviteToRow.holds Tryz.pinned (OpenSpec.ofChange fnExactInviteToSpec)

/-- ITS FALSE NEIGHBOUR: 'it returns false'. Refute it at one input. -/
def fnExactInviteToWrong : ChangeSpec := { name := "fnExactInviteTo", fn := fun _ => fun
  | [d1, d2, d3, d4, d5] => { results := [.lit (.bool false)], args := [d1, d2, d3, d4, d5] }
  | _ => none }
def FnExactInviteToWrongFalsely : Prop := fnExactInviteToRow.holds Tryz.pinned (OpenSpec.ofChange fnExactInviteToWrong)

/-- 'laws.FnExactBanMember': WHATEVER THE INPUT: true; the input reads as it did. -/
def fnExactBanMemberSpec : ChangeSpec := { name := "fnExactBanMember", fn := fun _ => fun
  | [d1, d2, d3, d4, d5] => { results := [.lit (.bool true)], args := [d1, d2, d3, d4, d5] }
  | _ => none }
def fnExactBanMemberRow : OpenClaim := { program := "ytnglccgbenlbjaagreat", sum := "db756e8e4a730b1c0df11960b801669e11d95d55abc9ea9b01e7e529eeccee15", func := "loop.example/g01202/laws.FnExactBanMember", spec := "fnExactBanMember", unfollowed := true, recurses := true, apart := false }
def FnExactBanMemberSaid : Prop := fnExactBanMemberRow.holds Tryz.pinned (OpenSpec.ofChange fnExactBanMemberSpec)

/-- ITS FALSE NEIGHBOUR: 'it returns false'. Refute it at one input. -/
def fnExactBanMemberWrong : ChangeSpec := { name := "fnExactBanMember", fn := fun _ => fun
  | [d1, d2, d3, d4, d5] => { results := [.lit (.bool false)], args := [d1, d2, d3, d4, d5] }
  | _ => none }
def FnExactBanMemberWrongFalsely : Prop := fnExactBanMemberRow.holds Tryz.pinned (OpenSpec.ofChange fnExactBanMemberWrong)

/- THE SECOND FORM. 'bulk': how many values and letters a reading holds, each counted each time it is reached (what is shared counts as often as it is met; a slice's spare places count too). A statement '..UptoSaid' is the law's where the arguments, and the package variables that the reading takes, are together of bulk at most 1048576: NARROWER than '..Said'. Prove '..Said' where nothing that the law and all that it calls make is longer than what came in: it says more and counts as full. Else prove '..UptoSaid'. A law counts once. -/
mutual
def uptoBulk {H : Type} : DataW H → Nat
  | .lit (.string bytes) => bytes.length + 1
  | .lit _ => 1
  | .nil => 1
  | .ptr d => uptoBulk d + 1
  | .slice elems spare => uptoBulkAll elems + uptoBulkAll spare + 1
  | .agg parts => uptoBulkAll parts + 1
  | .iface _ d => uptoBulk d + 1
  | .map entries => uptoBulkEntries entries + 1
  | .held _ => 1
def uptoBulkAll {H : Type} : List (DataW H) → Nat
  | [] => 0
  | d :: r => uptoBulk d + uptoBulkAll r
def uptoBulkEntries {H : Type} : List (Lit × DataW H) → Nat
  | [] => 0
  | x :: r => uptoBulkEntry x + uptoBulkEntries r
def uptoBulkEntry {H : Type} : Lit × DataW H → Nat
  | (.string bytes, d) => bytes.length + uptoBulk d + 1
  | (_, d) => uptoBulk d + 1
 end
def uptoSmall : (H : Type) → List (DataW H) → Bool := fun _ ds => decide (uptoBulkAll ds ≤ 1048576)
def OpenSpec.upto (s : _root_.Go.ChangeSpec) : _root_.Go.OpenSpec := { _root_.Go.OpenSpec.ofChange s with cond := some uptoSmall }

/-- 'laws.FnExactJoinRoom', WHERE WHAT IT READS IS OF BULK AT MOST 1048576: true; the input reads as it did. -/
def fnExactJoinRoomUptoRow : OpenClaim := { program := "ytnglccgbenlbjaagreat", sum := "db756e8e4a730b1c0df11960b801669e11d95d55abc9ea9b01e7e529eeccee15", func := "loop.example/g01202/laws.FnExactJoinRoom", spec := "fnExactJoinRoom", unfollowed := true, recurses := true, apart := false, narrowed := true }
def FnExactJoinRoomUptoSaid : Prop := fnExactJoinRoomUptoRow.holds Tryz.pinned (OpenSpec.upto fnExactJoinRoomSpec)

/-- 'laws.FnExactInviteTo', WHERE WHAT IT READS IS OF BULK AT MOST 1048576: true; the input reads as it did. -/
def fnExactInviteToUptoRow : OpenClaim := { program := "ytnglccgbenlbjaagreat", sum := "db756e8e4a730b1c0df11960b801669e11d95d55abc9ea9b01e7e529eeccee15", func := "loop.example/g01202/laws.FnExactInviteTo", spec := "fnExactInviteTo", unfollowed := true, recurses := true, apart := false, narrowed := true }
def FnExactInviteToUptoSaid : Prop := fnExactInviteToUptoRow.holds Tryz.pinned (OpenSpec.upto fnExactInviteToSpec)

/-- 'laws.FnExactBanMember', WHERE WHAT IT READS IS OF BULK AT MOST 1048576: true; the input reads as it did. -/
def fnExactBanMemberUptoRow : OpenClaim := { program := "ytnglccgbenlbjaagreat", sum := "db756e8e4a730b1c0df11960b801669e11d95d55abc9ea9b01e7e529eeccee15", func := "loop.example/g01202/laws.FnExactBanMember", spec := "fnExactBanMember", unfollowed := true, recurses := true, apart := false, narrowed := true }
def FnExactBanMemberUptoSaid : Prop := fnExactBanMemberUptoRow.holds Tryz.pinned (OpenSpec.upto fnExactBanMemberSpec)

end Rows
end Go.Proofs.YtnglccgbenlbjaaGreat
