/- What the laws over logs share. -/
import Derived.Test.YtadcmiinjepdcaaGreatLawWalk
import Derived.Test.YtadcmiinjepdcaaGreatLawLog
import Derived.Test.YtadcmiinjepdcaaGreatValidLog
namespace Go.Proofs.YtadcmiinjepdcaaGreat
open Go Go.RowKit
set_option linter.unusedVariables false

theorem fewLog_of {l : Log} (h : sizeLog l ≤ 1048576) : fewLog l := by
  unfold sizeLog at h
  refine ⟨by omega, fun y hy => ?_⟩
  have := sizeAll_get sizeMessage _ y hy
  have h2 : sizeMessage y = y.text.size + y.likes.length := rfl
  unfold fewMessage
  omega
theorem cnt7 : ∀ xs : List Message, cntAll cntMessage xs ≤ 7 * xs.length + sizeAll sizeMessage xs
  | [] => Nat.le_refl _
  | x :: xs => by
    have h1 := cnt7 xs
    have h2 : cntAll cntMessage (x :: xs) = (7 + x.likes.length) + cntAll cntMessage xs := rfl
    have h3 : sizeAll sizeMessage (x :: xs) = (x.text.size + x.likes.length) + sizeAll sizeMessage xs := rfl
    rw [h2, h3, List.length_cons]
    omega
theorem tcntLog_le (l : Log) : tcntLog l ≤ 8 * sizeLog l := by
  have := cnt7 l.messages
  unfold tcntLog sizeLog; omega
theorem message_MK {w : World} {x : Message} {v7 : Value} {F : List Nat} (h : messageD.M w x [.int .i64 x.number, .int .i64 x.sender, .int .i64 x.at_, .string x.text, .int .i64 x.edits, .bool x.gone, .int .i64 x.reply, v7] F) : SliceK intD w v7 x.likes := by
  obtain ⟨u, h1, h2⟩ := message_K (messageD.M_K h)
  simp only [List.cons.injEq, and_true, true_and] at h1
  subst h1; exact h2
theorem log_MK {w : World} {x : Log} {v1 : Value} {F : List Nat} (h : logD.M w x [.int .i64 x.next, v1] F) : SliceK messageD w v1 x.messages := by
  obtain ⟨u, h1, h2⟩ := log_K (logD.M_K h)
  simp only [List.cons.injEq, and_true, true_and] at h1
  subst h1; exact h2
theorem okTexts_of {l : Log} (h : okLog l) : okTexts l.messages := fun m hm => h m hm
theorem adjB_all {α : Type} {f : α → Option α → Bool} {l : List α} (h : adjB f none l = true) {x : α} (hx : x ∈ l) : ∃ q, f x q = true := by
  obtain ⟨j, hj⟩ := List.getElem?_of_mem hx
  exact ⟨_, (adjB_iff f l none).1 h j x hj⟩
theorem valid_msgs {l : Log} (h : validLogB l = true) {m : Message} (hm : m ∈ l.messages) : validMessageB m = true := by
  simp only [validLogB, Bool.and_eq_true] at h
  obtain ⟨q, hq⟩ := adjB_all h.1.1 hm
  revert hq
  unfold logF
  cases q <;> simp only [Bool.and_eq_true] <;> intro h2 <;> simp_all
theorem valid_likes {m : Message} (h : validMessageB m = true) : m.likes.length ≤ 20 := by
  simp only [validMessageB, Bool.and_eq_true] at h
  have := h.1.1.1.2
  simp at this; omega
theorem cnt27 : ∀ xs : List Message, (∀ m ∈ xs, validMessageB m = true) → cntAll cntMessage xs ≤ 27 * xs.length
  | [], _ => Nat.le_refl _
  | x :: xs, h => by
    have h1 := cnt27 xs fun m hm => h m (List.mem_cons_of_mem _ hm)
    have h2 : cntAll cntMessage (x :: xs) = (7 + x.likes.length) + cntAll cntMessage xs := rfl
    have h3 := valid_likes (h x List.mem_cons_self)
    rw [h2, List.length_cons]
    omega
theorem valid_cnt {l : Log} (h : validLogB l = true) : tcntLog l ≤ 1080 := by
  have h1 := cnt27 l.messages fun m hm => valid_msgs h hm
  have h2 : l.messages.length ≤ 40 := by simp only [validLogB, Bool.and_eq_true, decide_eq_true_eq] at h; omega
  unfold tcntLog; omega
end Go.Proofs.YtadcmiinjepdcaaGreat
