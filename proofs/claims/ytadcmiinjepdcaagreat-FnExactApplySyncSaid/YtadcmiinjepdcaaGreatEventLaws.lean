/- What the laws over events share. -/
import Derived.Test.YtadcmiinjepdcaaGreatLogBase
import Derived.Test.YtadcmiinjepdcaaGreatLawEvent
namespace Go.Proofs.YtadcmiinjepdcaaGreat
open Go Go.RowKit
set_option linter.unusedVariables false

theorem evsizes {es : List Event} (h : ((es.length + sizeAll sizeEvent es : Nat) : Int) ≤ 1048576) : ∀ y ∈ es, y.text.size ≤ 1048576 := fun y hy => by
  have h1 : y.text.size ≤ sizeAll sizeEvent es := sizeAll_get sizeEvent es y hy
  omega
theorem cntEventS_le (es : List Event) : cntAll cntEvent es ≤ 6 * es.length := by
  induction es with
  | nil => simp [cntAll]
  | cons x es ih =>
    have h : cntEvent x = 6 := rfl
    simp only [cntAll, List.length_cons, h]; omega
theorem history_MK {w : World} {x : History} {v1 v2 : Value} {F : List Nat} (h : historyD.M w x [.int .i64 x.base.next, v1, v2] F) : SliceK messageD w v1 x.base.messages ∧ SliceK eventD w v2 x.events := by
  obtain ⟨u1, u2, h1, h2, h3⟩ := history_K (historyD.M_K h)
  simp only [List.cons.injEq, and_true, true_and] at h1
  obtain ⟨rfl, rfl⟩ := h1
  exact ⟨h2, h3⟩
theorem fewHistory_of {l : History} (h : sizeHistory l ≤ 1048576) : fewHistory l := by
  unfold sizeHistory at h
  exact ⟨fewLog_of (by omega), by omega⟩
theorem hist_sizes {l : History} (ho : okHistory l) (h : (sizeHistory l : Int) ≤ 1048576) : okTexts l.base.messages ∧ ∀ e ∈ l.events, e.text.size ≤ 1048576 := by
  unfold sizeHistory at h
  exact ⟨okTexts_of ho.1, evsizes (by omega)⟩
theorem tcntHistory_le (l : History) : tcntHistory l ≤ 8 * sizeHistory l := by
  have h1 := tcntLog_le l.base
  have h2 := cntEventS_le l.events
  unfold tcntHistory sizeHistory; omega
theorem sync_MK {w : World} {x : Sync} {v1 v3 : Value} {F : List Nat} (h : syncD.M w x [.int .i64 x.kind, v1, .int .i64 x.whole.next, v3] F) : SliceK eventD w v1 x.events ∧ SliceK messageD w v3 x.whole.messages := by
  obtain ⟨u1, u2, h1, h2, h3⟩ := sync_K (syncD.M_K h)
  simp only [List.cons.injEq, and_true, true_and] at h1
  obtain ⟨rfl, rfl⟩ := h1
  exact ⟨h2, h3⟩
theorem fewSync_of {l : Sync} (h : sizeSync l ≤ 1048576) : fewSync l := by
  unfold sizeSync at h
  exact ⟨by omega, fewLog_of (by omega)⟩
theorem sync_sizes {l : Sync} (ho : okSync l) (h : (sizeSync l : Int) ≤ 1048576) : (∀ e ∈ l.events, e.text.size ≤ 1048576) ∧ okTexts l.whole.messages ∧ (l.whole.messages.length ≤ 1048576 ∧ ∀ m ∈ l.whole.messages, m.likes.length ≤ 1048576) := by
  unfold sizeSync at h
  have hf := fewLog_of (l := l.whole) (by omega)
  exact ⟨evsizes (by omega), okTexts_of ho.2, hf.1, fun m hm => hf.2 m hm⟩
theorem tcntSync_le (l : Sync) : tcntSync l ≤ 8 * sizeSync l := by
  have h1 := tcntLog_le l.whole
  have h2 := cntEventS_le l.events
  unfold tcntSync sizeSync; omega
end Go.Proofs.YtadcmiinjepdcaaGreat
