/- A struct behind a pointer: a row of one. -/
import Derived.Test.YtccgjnanphonnaaCalm
namespace Go.Proofs.Ytccgjnanphonnaa
open Go Go.RowKit
set_option linter.unusedVariables false

theorem RowAt.ptr {α : Type} {d : Dt α} {w : World} {b o j : Nat} {xs : List α} {x : α} (h : RowAt d w b o xs) (hj : xs[j]? = some x) : RowAt d w b (o + j * d.sz) [x] := by
  intro i y hi
  cases i with
  | succ i => simp at hi
  | zero =>
    simp only [List.getElem?_cons_zero, Option.some.injEq] at hi
    subst hi
    obtain ⟨cs, hk, hc⟩ := h j x hj
    exact ⟨cs, hk, fun i u hu => by rw [Nat.zero_mul, Nat.add_zero]; exact hc i u hu⟩
theorem RowAt.box {α : Type} {d : Dt α} {w : World} {x : α} {cs : List Value} (hk : d.K w x cs) {arr : Array Value} (ha : arr.toList = cs) (t : TypeId) :
    RowAt d (w.alloc (.cells arr t)) w.heap.size 0 [x] := by
  intro i y hi
  cases i with
  | succ i => simp at hi
  | zero =>
    simp only [List.getElem?_cons_zero, Option.some.injEq] at hi
    subst hi
    refine ⟨cs, d.K_below ((Below.refl _ _).alloc (Nat.le_refl _) _) hk, fun i u hu => ?_⟩
    simp only [Nat.zero_mul, Nat.add_zero, Nat.zero_add]
    subst ha
    simpa using hu
end Go.Proofs.Ytccgjnanphonnaa
