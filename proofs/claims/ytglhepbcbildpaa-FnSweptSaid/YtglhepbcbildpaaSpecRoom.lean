/- Valid rooms: the reference's test. -/
import Derived.Test.YtglhepbcbildpaaValidRoom
namespace Go.Proofs.Ytglhepbcbildpaa
open Go Go.RowKit Go.BigFrame
attribute [local go_sem] Calm.cell Calm.frozen
set_option linter.unusedVariables false
set_option linter.unusedSimpArgs false

def membersB (r : Room) : Bool := decide (1 ≤ (r.members.length : Int)) && decide ((r.members.length : Int) ≤ 32) && adjB memF none r.members && ownB r.members
theorem badm {r : Room} {j : Nat} {m : Member} (hx : r.members[j]? = some m) (h : memF m (prevAt r.members j) = false) : membersB r = false := by
  simp only [membersB, adj_fail (f := memF) hx h, Bool.and_false, Bool.false_and]
theorem room_no {r : Room} (h : membersB r = false) : validRoomB r = false := by
  rw [Bool.eq_false_iff] at *
  intro hv; apply h
  simp only [validRoomB, membersB, Bool.and_eq_true] at hv ⊢
  exact ⟨⟨⟨hv.1.1.1.1.1.1.1, hv.1.1.1.1.1.1.2⟩, hv.1.1.1.2⟩, hv.2⟩
end Go.Proofs.Ytglhepbcbildpaa
