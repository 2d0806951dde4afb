/- The numbers of the messages that a test takes. -/
import Derived.Test.YtadcmiinjepdcaaGreatFind
import Derived.Test.YtadcmiinjepdcaaGreatApp
import Derived.Test.YtadcmiinjepdcaaGreatLawInt
import Derived.Shelf.Abstract
namespace Go.Proofs.YtadcmiinjepdcaaGreat
open Go Go.RowKit Go.BigFrame
attribute [local go_sem] Calm.cell Calm.frozen
set_option linter.unusedVariables false
set_option linter.unusedSimpArgs false

theorem Made.none {α : Type} {d : Dt α} {e : TypeId} (w w' : World) : Made d e w w' (.slice none 0 0) [] := ⟨[], .inl ⟨rfl, rfl, rfl⟩, by simp, by simp⟩
/-- A returned row that was made behind w, and a Bool; nothing else has turned. -/
def RetMade2 {α : Type} (d : Dt α) (e : TypeId) (w : World) (xs : List α) (ok : Bool) (r : Ending) (w' : World) : Prop :=
  ∃ v, r = .returned (.tuple #[v, .bool ok]) ∧ Made d e w w' v xs ∧ Below w.heap.size w w'

theorem validLog_40 {l : Log} (h : validLogB l = true) : l.messages.length ≤ 40 := by
  simp only [validLogB, Bool.and_eq_true, decide_eq_true_eq] at h; omega

/-- The numbers of some messages. -/
def pickNums (p : Message → Bool) (ms : List Message) : List Int := (ms.filter p).map (·.number)
theorem pickNums_yes {p : Message → Bool} {ms : List Message} {k : Nat} {m : Message} (hx : ms[k]? = some m) (h : p m = true) : pickNums p (ms.take (k + 1)) = pickNums p (ms.take k) ++ [m.number] := by
  obtain ⟨hk, rfl⟩ := List.getElem?_eq_some_iff.1 hx
  rw [List.take_succ_eq_append_getElem hk, pickNums, List.filter_append]
  simp [pickNums, h]
theorem pickNums_no {p : Message → Bool} {ms : List Message} {k : Nat} {m : Message} (hx : ms[k]? = some m) (h : p m = false) : pickNums p (ms.take (k + 1)) = pickNums p (ms.take k) := by
  obtain ⟨hk, rfl⟩ := List.getElem?_eq_some_iff.1 hx
  rw [List.take_succ_eq_append_getElem hk, pickNums, List.filter_append]
  simp [pickNums, h]
theorem pickNums_len (p : Message → Bool) (ms : List Message) : (pickNums p ms).length ≤ ms.length := by simp [pickNums]; exact List.length_filter_le _ _

end Go.Proofs.YtadcmiinjepdcaaGreat
