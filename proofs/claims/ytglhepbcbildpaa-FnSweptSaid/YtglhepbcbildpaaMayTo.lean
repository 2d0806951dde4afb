/- Whether a member may do an act to somebody: the program and the reference. -/
import Derived.Test.YtglhepbcbildpaaChanged
import Derived.Test.YtglhepbcbildpaaAllowed
namespace Go.Proofs.Ytglhepbcbildpaa
open Go Go.RowKit Go.BigFrame
set_option linter.unusedVariables false
set_option linter.unusedSimpArgs false
attribute [local go_sem] Calm.cell Calm.frozen
def roleAt (r : Room) (n : Int) : Int := match r.members.find? (idIs n) with
  | none => -1
  | some m => m.role
def mayToB (r : Room) (n id act a : Int) : Bool := inB id 1 1000 && (decide (n ≠ id) && (allowB r n act a && (decide (idxP (idIs id) r.members < 0) || decide (roleAt r id < roleAt r n))))
theorem roleAt_at {r : Room} {n : Int} {k : Nat} {m : Member} (h : idxP (idIs n) r.members = (k : Int)) (hk : r.members[k]? = some m) : roleAt r n = m.role := by simp [roleAt, idx_find h hk]
theorem allow_found {r : Room} {n act a : Int} (h : allowB r n act a = true) : 0 ≤ idxP (idIs n) r.members := by
  by_cases h0 : 0 ≤ idxP (idIs n) r.members
  · exact h0
  · rw [allow_none (by omega)] at h; cases h
def aboveB (r : Room) (n id act a : Int) : Bool := validRoomB r && mayToB r n id act a
end Go.Proofs.Ytglhepbcbildpaa
