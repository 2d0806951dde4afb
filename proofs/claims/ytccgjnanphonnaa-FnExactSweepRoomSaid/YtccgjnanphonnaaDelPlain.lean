/- What slices.DeleteFunc does, in plain lists; a returned row. -/
import Derived.Test.YtccgjnanphonnaaSt
import Derived.Test.YtccgjnanphonnaaIdx
namespace Go.Proofs.Ytccgjnanphonnaa
open Go Go.RowKit
set_option linter.unusedVariables false
/-- A returned row of one's own; the frame stays. -/
def RetOwn {α : Type} (d : Dt α) (e : TypeId) (w0 : World) (L : List Piece) (xs : List α) (r : Ending) (W' : World) : Prop :=
  ∃ A' c' F', r = .returned (.slice A' xs.length c') ∧ St w0 W' (own d e (.slice A' xs.length c') xs F' :: L)
theorem idxP_before {α : Type} {p : α → Bool} {l : List α} {k : Nat} (h : idxP p l = (k : Int)) : ∀ j y, j < k → l[j]? = some y → p y = false := by
  unfold idxP at h
  rcases hf : l.findIdx? p with _ | j
  · rw [hf] at h; simp at h
  · rw [hf] at h
    obtain rfl : j = k := by simp at h; omega
    rw [List.findIdx?_eq_some_iff_getElem] at hf
    obtain ⟨hl, h1, h2⟩ := hf
    intro i y hi hy
    obtain ⟨hil, rfl⟩ := List.getElem?_eq_some_iff.1 hy
    simpa using h2 i hi
section
variable {α : Type} {xs cur : List α} {p : α → Bool} {i j : Nat} {x : α}
def dropP (p : α → Bool) (xs : List α) : List α := xs.filter fun x => !p x
theorem dropP_none (h : idxP p xs < 0) : dropP p xs = xs := by
  unfold dropP
  rw [List.filter_eq_self]
  intro x hx
  by_cases hp : p x = true
  · exfalso
    unfold idxP at h
    rcases hf : xs.findIdx? p with _ | k
    · rw [List.findIdx?_eq_none_iff] at hf
      have := hf x hx
      simp [this] at hp
    · rw [hf] at h; simp at h; omega
  · simpa using hp
/-- Where the walk through the row stands. -/
structure DelAt (p : α → Bool) (xs cur : List α) (i j : Nat) : Prop where
  len : cur.length = xs.length
  ij : i < j
  jn : j ≤ xs.length
  take : cur.take i = dropP p (xs.take j)
  drop : cur.drop j = xs.drop j
theorem DelAt.start (h : idxP p xs = (i : Int)) (hx : xs[i]? = some x) (hp : p x = true) : DelAt p xs xs i (i + 1) := by
  obtain ⟨hi, rfl⟩ := List.getElem?_eq_some_iff.1 hx
  refine ⟨rfl, by omega, hi, ?_, rfl⟩
  unfold dropP
  rw [List.take_succ_eq_append_getElem hi, List.filter_append]
  have h1 : (xs.take i).filter (fun x => !p x) = xs.take i := by
    rw [List.filter_eq_self]
    intro y hy
    obtain ⟨q, hq⟩ := List.getElem?_of_mem hy
    rw [List.getElem?_take] at hq
    split at hq
    · simp [idxP_before h q y ‹_› hq]
    · cases hq
  rw [h1]; simp [hp]
theorem DelAt.get (h : DelAt p xs cur i j) (hx : xs[j]? = some x) : cur[j]? = some x := by
  have := congrArg (fun l : List α => l[0]?) h.drop
  simpa [hx] using this
theorem DelAt.skip (h : DelAt p xs cur i j) (hx : xs[j]? = some x) (hp : p x = true) : DelAt p xs cur i (j + 1) := by
  obtain ⟨hj, rfl⟩ := List.getElem?_eq_some_iff.1 hx
  refine ⟨h.len, by have := h.ij; omega, hj, ?_, ?_⟩
  · rw [h.take]; unfold dropP
    rw [List.take_succ_eq_append_getElem hj, List.filter_append]; simp [hp]
  · have := congrArg (List.drop 1) h.drop
    simpa [List.drop_drop] using this
theorem DelAt.keep (h : DelAt p xs cur i j) (hx : xs[j]? = some x) (hp : p x = false) : DelAt p xs (cur.set i x) (i + 1) (j + 1) := by
  obtain ⟨hj, rfl⟩ := List.getElem?_eq_some_iff.1 hx
  have hij := h.ij
  have hl := h.len
  refine ⟨by simp [hl], by omega, hj, ?_, ?_⟩
  · have h2 : (cur.set i xs[j]).take (i + 1) = cur.take i ++ [xs[j]] := by
      rw [List.take_succ_eq_append_getElem (by simp; omega), List.take_set_of_le (by omega)]; simp
    rw [h2, h.take]; unfold dropP
    rw [List.take_succ_eq_append_getElem hj, List.filter_append]; simp [hp]
  · rw [List.drop_set_of_lt (by omega)]
    have := congrArg (List.drop 1) h.drop
    simpa [List.drop_drop] using this
theorem DelAt.done (h : DelAt p xs cur i xs.length) : cur.take i = dropP p xs ∧ (dropP p xs).length = i := by
  have h1 := h.take
  rw [List.take_length] at h1
  refine ⟨h1, ?_⟩
  rw [← h1, List.length_take]
  have := h.ij; have := h.len; omega
end
end Go.Proofs.Ytccgjnanphonnaa
