/- The words of a text, in plain lists. -/
import Derived.Test.YticjphaagmnahaaWordOk
import Derived.Laws.Runes
namespace Go.Proofs.Yticjphaagmnahaa
open Go Go.RowKit
set_option linter.unusedVariables false

/-- A byte of a run of a text. -/
def isW (c : UInt8) : Bool := wbB (lowerC c)
def wordsG : Nat → List UInt8 → List ByteArray
  | 0, _ => []
  | _, [] => []
  | g + 1, c :: t => if isW c then ⟨(((c :: t).takeWhile isW).map lowerC).toArray⟩ :: wordsG g (((c :: t).dropWhile isW).drop 1) else wordsG g t
def wordsL (l : List UInt8) : List ByteArray := wordsG l.length l
/-- The words of a text. -/
def wordsOf (s : ByteArray) : List ByteArray := wordsL s.data.toList
theorem wordsG_more : ∀ (g : Nat) (l : List UInt8), l.length ≤ g → wordsG g l = wordsL l := by
  intro g
  induction g using Nat.strongRecOn with
  | _ g ih =>
    intro l hl
    cases l with
    | nil => cases g <;> rfl
    | cons c t =>
      obtain ⟨g, rfl⟩ : ∃ k, g = k + 1 := ⟨g - 1, by simp at hl; omega⟩
      simp only [List.length_cons] at hl
      unfold wordsL
      simp only [List.length_cons, wordsG]
      have hd : (((c :: t).dropWhile isW).drop 1).length ≤ t.length := by
        rw [List.length_drop]
        have := (List.dropWhile_sublist (l := c :: t) isW).length_le
        simp only [List.length_cons] at this
        omega
      split
      · rw [ih g (by omega) _ (by omega), ih t.length (by omega) _ hd]
      · rw [ih g (by omega) t (by omega), ih t.length (by omega) t (Nat.le_refl _)]
theorem wordsL_nil : wordsL [] = [] := rfl
theorem wordsL_skip {c : UInt8} {t : List UInt8} (h : isW c = false) : wordsL (c :: t) = wordsL t := by
  conv => lhs; unfold wordsL
  simp only [List.length_cons, wordsG, h]
  exact wordsG_more _ _ (Nat.le_refl _)
theorem wordsL_word {c : UInt8} {t : List UInt8} (h : isW c = true) : wordsL (c :: t) = ⟨(((c :: t).takeWhile isW).map lowerC).toArray⟩ :: wordsL (((c :: t).dropWhile isW).drop 1) := by
  conv => lhs; unfold wordsL
  simp only [List.length_cons, wordsG, h, if_true]
  rw [wordsG_more]
  rw [List.length_drop]
  have := (List.dropWhile_sublist (l := c :: t) isW).length_le
  simp only [List.length_cons] at this
  omega
theorem takeWhile_at {l : List UInt8} {n : Nat} (h : ∀ c ∈ l.take n, isW c = true) (h2 : ∀ c, l[n]? = some c → isW c = false) : l.takeWhile isW = l.take n ∧ l.dropWhile isW = l.drop n := by
  induction l generalizing n with
  | nil => simp
  | cons c t ih =>
    cases n with
    | zero =>
      have := h2 c rfl
      simp [this]
    | succ n =>
      have hc := h c (by simp)
      obtain ⟨e1, e2⟩ := ih (n := n) (fun x hx => h x (by simp [hx])) (fun x hx => h2 x (by simpa using hx))
      simp [hc, e1, e2]
/-- A run that has been read whole. -/
theorem wordsL_run {l : List UInt8} {n : Nat} (hn : 0 < n) (h : ∀ c ∈ l.take n, isW c = true) (hl : n ≤ l.length) (h2 : ∀ c, l[n]? = some c → isW c = false) : wordsL l = ⟨((l.take n).map lowerC).toArray⟩ :: wordsL (l.drop (n + 1)) := by
  cases l with
  | nil => simp at hl; omega
  | cons c t =>
    have hc : isW c = true := h c (by obtain ⟨m, rfl⟩ : ∃ m, n = m + 1 := ⟨n - 1, by omega⟩; simp)
    obtain ⟨e1, e2⟩ := takeWhile_at h h2
    rw [wordsL_word hc, e1, e2, List.drop_drop]
theorem wordsL_len : ∀ (n : Nat) (l : List UInt8), l.length ≤ n → (wordsL l).length ≤ l.length := by
  intro n
  induction n with
  | zero =>
    intro l hl
    obtain rfl : l = [] := List.eq_nil_of_length_eq_zero (by omega)
    simp [wordsL_nil]
  | succ n ih =>
    intro l hl
    cases l with
    | nil => simp [wordsL_nil]
    | cons c t =>
      simp only [List.length_cons] at hl ⊢
      by_cases h : isW c = true
      · rw [wordsL_word h, List.length_cons]
        have hd : (((c :: t).dropWhile isW).drop 1).length ≤ t.length := by
          rw [List.length_drop]
          have := (List.dropWhile_sublist (l := c :: t) isW).length_le
          simp only [List.length_cons] at this
          omega
        have := ih _ (by omega : (((c :: t).dropWhile isW).drop 1).length ≤ n)
        omega
      · rw [wordsL_skip (by simpa using h)]
        have := ih t (by omega)
        omega
theorem wordsOf_len (s : ByteArray) : (wordsOf s).length ≤ s.size := wordsL_len _ _ (Nat.le_refl _)
theorem byte_at {s : ByteArray} {k : Nat} (h : k < s.size) : s.data.toList[k]? = some s[k] := by
  rw [ByteArray.getElem_eq_getElem_data, Array.getElem?_toList, Array.getElem?_eq_getElem]
theorem encode_word {c : UInt8} (h : wbB c = true) : Utf8.encode (c.toNat : Int) = ⟨#[c]⟩ := by
  have hc : c.toNat < 128 := by
    simp only [wbB, digB, lowB, Bool.or_eq_true, Bool.and_eq_true, decide_eq_true_eq] at h
    omega
  have hv : Utf8.valid (c.toNat : Int) = true := by
    unfold Utf8.valid
    simp only [Bool.or_eq_true, Bool.and_eq_true, decide_eq_true_eq]
    omega
  unfold Utf8.encode
  rw [if_pos hv]
  simp only [Int.toNat_natCast]
  rw [if_pos hc]
  show (⟨#[UInt8.ofNat c.toNat]⟩ : ByteArray) = ⟨#[c]⟩
  rw [UInt8.ofNat_toNat]
end Go.Proofs.Yticjphaagmnahaa
