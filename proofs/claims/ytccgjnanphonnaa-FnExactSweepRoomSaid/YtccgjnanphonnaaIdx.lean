/- The first place where something holds. -/
import Derived.Test.YtccgjnanphonnaaBase
namespace Go.Proofs.Ytccgjnanphonnaa
set_option linter.unusedVariables false

/-- The first place where p holds; -1 without one. -/
def idxP {α : Type} (p : α → Bool) (l : List α) : Int := match l.findIdx? p with | some k => (k : Int) | none => -1
theorem idxP_hit {α : Type} {p : α → Bool} {l : List α} {k : Nat} {x : α} (h : ∀ j y, j < k → l[j]? = some y → p y = false) (hk : l[k]? = some x) (hx : p x = true) : idxP p l = (k : Int) := by
  have : l.findIdx? p = some k := by
    rw [List.findIdx?_eq_some_iff_getElem]
    obtain ⟨hl, rfl⟩ := List.getElem?_eq_some_iff.1 hk
    exact ⟨hl, hx, fun j hj => by rw [h j _ hj (List.getElem?_eq_getElem (by omega))]; simp⟩
  unfold idxP; rw [this]
theorem idxP_miss {α : Type} {p : α → Bool} {l : List α} (h : ∀ j y, j < l.length → l[j]? = some y → p y = false) : idxP p l = -1 := by
  have : l.findIdx? p = none := by
    rw [List.findIdx?_eq_none_iff]
    intro x hx
    obtain ⟨j, hj⟩ := List.getElem?_of_mem hx
    exact h j x (List.getElem?_eq_some_iff.1 hj).1 hj
  unfold idxP; rw [this]
theorem idxP_cases {α : Type} (p : α → Bool) (l : List α) : idxP p l = -1 ∨ ∃ (k : Nat) (x : α), idxP p l = (k : Int) ∧ k < l.length ∧ l[k]? = some x ∧ p x = true := by
  unfold idxP
  rcases h : l.findIdx? p with _ | k
  · exact .inl rfl
  · rw [List.findIdx?_eq_some_iff_getElem] at h
    obtain ⟨hl, hx, _⟩ := h
    exact .inr ⟨k, l[k], rfl, hl, List.getElem?_eq_getElem hl, hx⟩
theorem idxP_step {α : Type} {p : α → Bool} {l : List α} {k : Nat} {x : α} (h : ∀ j y, j < k → l[j]? = some y → p y = false) (hk : l[k]? = some x) (hx : p x = false) : ∀ j y, j < k + 1 → l[j]? = some y → p y = false := by
  intro j y hj hy
  by_cases e : j = k
  · subst e; rw [hk] at hy; cases hy; exact hx
  · exact h j y (by omega) hy
theorem idxP_neg {α : Type} {p : α → Bool} {l : List α} (h : idxP p l < 0) : idxP p l = -1 := by
  rcases idxP_cases p l with h1 | ⟨k, x, h1, _⟩
  · exact h1
  · omega
theorem idxP_found {α : Type} {p : α → Bool} {l : List α} (h : 0 ≤ idxP p l) : ∃ (k : Nat) (x : α), idxP p l = (k : Int) ∧ k < l.length ∧ l[k]? = some x ∧ p x = true := by
  rcases idxP_cases p l with h1 | h1
  · omega
  · exact h1
end Go.Proofs.Ytccgjnanphonnaa
