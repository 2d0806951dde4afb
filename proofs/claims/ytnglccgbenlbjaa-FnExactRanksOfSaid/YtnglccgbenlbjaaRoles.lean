/- How many members have each role: the program's call and the reference's. -/
import Derived.Test.YtnglccgbenlbjaaSpecRoom
import Derived.Test.YtnglccgbenlbjaaRGround
namespace Go.Proofs.Ytnglccgbenlbjaa
open Go Go.RowKit Go.BigFrame
attribute [local go_sem] Calm.cell Calm.frozen
set_option linter.unusedVariables false
set_option linter.unusedSimpArgs false

theorem MadeNone {α : Type} {d : Dt α} {e : TypeId} (w w' : World) : Made d e w w' (.slice none 0 0) [] := ⟨[], .inl ⟨rfl, rfl, rfl⟩, by simp, by simp⟩
/-- A returned row that was made behind w, and a Bool; nothing else has turned. -/
def RetRow2 {α : Type} (d : Dt α) (e : TypeId) (w : World) (xs : List α) (ok : Bool) (r : Ending) (w' : World) : Prop :=
  ∃ v, r = .returned (.tuple #[v, .bool ok]) ∧ Made d e w w' v xs ∧ Below w.heap.size w w'
def countL (r : Room) : List Int := if validRoomB r then rolesL r.members else []
theorem countL_len (r : Room) : (countL r).length ≤ 4 := by
  unfold countL; split <;> simp [rolesL]
theorem valid_mems {r : Room} (h : validRoomB r = true) : (∀ m ∈ r.members, inB m.role 0 3 = true) ∧ r.members.length ≤ 32 := by
  simp only [validRoomB, Bool.and_eq_true, decide_eq_true_eq] at h
  exact ⟨mem_roles h.1.1.1.2, by omega⟩
end Go.Proofs.Ytnglccgbenlbjaa
