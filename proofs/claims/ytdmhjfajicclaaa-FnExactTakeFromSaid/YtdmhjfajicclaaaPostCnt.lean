/- Sizes and counts of posts. -/
import Derived.Test.YtdmhjfajicclaaaPostChange
import Derived.Test.YtdmhjfajicclaaaRTypes
namespace Go.Proofs.Ytdmhjfajicclaaa
open Go Go.RowKit
set_option linter.unusedVariables false

theorem cntAll_two : ∀ xs : List Parcel, cntAll cntParcel xs = 2 * xs.length
  | [] => by simp [cntAll]
  | x :: xs => by
    have h : cntParcel x = 2 := rfl
    rw [cntAll, h, cntAll_two xs, List.length_cons]; omega
theorem cntParcelS_le (xs : List Parcel) : cntAll cntParcel xs ≤ 2 * xs.length := Nat.le_of_eq (cntAll_two xs)
theorem fewPost_of {l : Post} (h : sizePost l ≤ 1048576) : fewPost l := by
  unfold sizePost at h
  refine ⟨by omega, fun y hy => ?_⟩
  have := sizeAll_get sizeBox _ y hy
  have h2 : sizeBox y = y.token.size + y.held.length := rfl
  unfold fewBox
  omega
theorem cntBoxes_le : ∀ xs : List Box, cntAll cntBox xs ≤ 3 * xs.length + 2 * sizeAll sizeBox xs
  | [] => Nat.le_refl _
  | x :: xs => by
    have h1 : cntBox x = 3 + cntAll cntParcel x.held := rfl
    have h2 : sizeBox x = x.token.size + x.held.length := rfl
    have := cntBoxes_le xs
    have := cntAll_two x.held
    simp only [cntAll, sizeAll, List.length_cons]
    omega
theorem tcntPost_le (l : Post) : tcntPost l ≤ 8 * sizePost l := by
  have := cntBoxes_le l.boxes
  unfold tcntPost sizePost; omega
theorem cntBoxes_const {lim : Int} (hl : lim ≤ 64) : ∀ xs : List Box, (∀ x ∈ xs, boxOkB lim x = true) → cntAll cntBox xs ≤ 131 * xs.length
  | [], _ => Nat.le_refl _
  | x :: xs, h => by
    have h1 : cntBox x = 3 + cntAll cntParcel x.held := rfl
    have h2 := cntAll_two x.held
    have h3 := h x List.mem_cons_self
    simp only [boxOkB, Bool.and_eq_true, decide_eq_true_eq] at h3
    have := cntBoxes_const hl xs fun y hy => h y (List.mem_cons_of_mem _ hy)
    simp only [cntAll, List.length_cons]
    omega
theorem valid_cntP {p : Post} (h : validPostB p = true) : tcntPost p ≤ 4192 := by
  have h2 := h
  simp only [validPostB, Bool.and_eq_true, decide_eq_true_eq, inB] at h2
  have h3 := cntBoxes_const (lim := p.limit) h2.1.1.2 p.boxes fun x hx => by
    obtain ⟨j, hj⟩ := List.getElem?_of_mem hx
    have h5 := (adjB_iff _ _ _).1 h2.2 j x hj
    simp only [boxF, Bool.and_eq_true] at h5
    exact h5.1
  unfold tcntPost
  omega
theorem chp_cnt (r : Post) (f : Post → Post × Bool) : tcntPost (chP r f) ≤ 4192 := by
  unfold chP
  split
  · rename_i h
    simp only [chpOk, Bool.and_eq_true] at h
    exact valid_cntP h.2
  · simp [noPost, tcntPost, cntAll]
end Go.Proofs.Ytdmhjfajicclaaa
