/- A struct in a box of a call's own, and what a function value does with it; a copy of a row of flat structs. -/
import Derived.Test.YtccgjnanphonnaaLawWalk
import Derived.Test.YtccgjnanphonnaaPtr
import Derived.Test.YtccgjnanphonnaaOwn
namespace Go.Proofs.Ytccgjnanphonnaa
open Go Go.RowKit
set_option linter.unusedVariables false

section
variable {α : Type} {d : Dt α} {e : TypeId} {w w' : World} {b : Nat} {x : α} {F : List Nat}
/-- A box that holds a struct of a call's own; F: its block and those of what it holds. -/
def BoxM (d : Dt α) (e : TypeId) (w : World) (b : Nat) (x : α) (F : List Nat) : Prop :=
  ∃ cs G, F = b :: G ∧ w.heap[b]? = some (.cells cs.toArray e (0, 0)) ∧ d.M w x cs G ∧ F.Nodup
theorem BoxM.lt (h : BoxM d e w b x F) : ∀ y ∈ F, y < w.heap.size := by
  obtain ⟨cs, G, rfl, hb, hm, _⟩ := h
  intro y hy
  rcases List.mem_cons.1 hy with rfl | hy
  · exact block_lt hb
  · exact d.M_lt hm y hy
theorem BoxM.move (hm : ∀ y ∈ F, w'.heap[y]? = w.heap[y]?) (h : BoxM d e w b x F) : BoxM d e w' b x F := by
  obtain ⟨cs, G, rfl, hb, hM, hn⟩ := h
  exact ⟨cs, G, rfl, (hm b List.mem_cons_self).trans hb, d.M_move (fun y hy => hm y (List.mem_cons_of_mem _ hy)) hM, hn⟩
theorem BoxM.by (h : BoxM d e w b x F) (hc : Below w.heap.size w w') : BoxM d e w' b x F := h.move fun y hy => hc.block y (h.lt y hy)
theorem BoxM.chg {G : List Nat} (h : BoxM d e w b x F) (hc : Chg G w w') (hd : ∀ y ∈ F, y ∉ G) : BoxM d e w' b x F := h.move fun y hy => hc.block y (h.lt y hy) (hd y hy)
theorem BoxM.row (h : BoxM d e w b x F) : RowAt d w b 0 [x] := by
  obtain ⟨cs, G, rfl, hb, hM, hn⟩ := h
  intro j y hj
  cases j with
  | zero =>
    simp at hj; subst hj
    refine ⟨cs, d.M_K hM, fun i u hi => ?_⟩
    rw [cell_block hb]; simpa using hi
  | succ j => simp at hj
theorem BoxM.mem (h : BoxM d e w b x F) : b ∈ F := by obtain ⟨cs, G, rfl, _⟩ := h; exact List.mem_cons_self
theorem BoxM.nodup (h : BoxM d e w b x F) : F.Nodup := by obtain ⟨cs, G, rfl, _, _, hn⟩ := h; exact hn
theorem BoxM.frozen (h : BoxM d e w b x F) (o : Nat) : w.frozen? ⟨b, o, none⟩ = false := by obtain ⟨cs, G, rfl, hb, _⟩ := h; exact frozen_block hb
/-- What a function value does with a struct in a box: only where it says yes the struct is told. -/
def TurnsB (P : Program) (d : Dt α) (e : TypeId) (g : Nat) (caps : Array Value) (pre : α → Prop) (f : α → α × Bool) (w : World) : Prop :=
  ∀ (x : α) (b : Nat) (F : List Nat) (W : World), Below w.heap.size w W → BoxM d e W b x F → (∀ y ∈ F, w.heap.size ≤ y) → pre x →
    Calls P g (#[.pointer (some ⟨b, 0, none⟩)] ++ caps) W fun r W' => r = .returned (.bool (f x).2) ∧ Chg F W W' ∧
      ((f x).2 = true → ∃ F', BoxM d e W' b (f x).1 F' ∧ ∀ y ∈ F', y ∈ F ∨ W.heap.size ≤ y)
end

section
variable {P : Program} {α : Type} {n : Nat} {enc : α → List Value} {hl : ∀ x, (enc x).length = n} {h1 : ∀ x, ∀ u ∈ enc x, u.oneCell' = true}
/-- A new box whose struct's rows are its own. -/
theorem BoxM.new {α : Type} {d : Dt α} {e : TypeId} {w W : World} {x : α} {cs : List Value} {F : List Nat} (hM : d.M w x cs F) (hF : F.Nodup) (hW : W = w.alloc (.cells cs.toArray e)) : BoxM d e W w.heap.size x (w.heap.size :: F) := by
  subst hW
  refine ⟨_, F, rfl, alloc_new w _, d.M_move (fun y hy => alloc_old w _ (d.M_lt hM y hy)) hM, List.nodup_cons.2 ⟨fun h => by have := d.M_lt hM _ h; omega, hF⟩⟩
end
end Go.Proofs.Ytccgjnanphonnaa
