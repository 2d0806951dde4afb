/- One element of an owned row of flat structs is read or changed. -/
import Derived.Test.YtccgjnanphonnaaStApp
import Derived.Test.YtccgjnanphonnaaElem
namespace Go.Proofs.Ytccgjnanphonnaa
open Go Go.RowKit
set_option linter.unusedVariables false
set_option linter.unusedSimpArgs false

section
variable {α : Type} {n : Nat} {enc : α → List Value} {hl : ∀ x, (enc x).length = n} {h1 : ∀ x, ∀ u ∈ enc x, u.oneCell' = true} {d : Dt α} {e : TypeId} {w0 w : World} {L : List Piece} {b c : Nat} {xs : List α} {F : List Nat} {k : Nat} {x x' : α}
theorem flat_F (hd : d = Dt.flat n enc hl h1) {m : Nat} (h : SliceM d e w (.slice (some ⟨b, 0, none⟩) m c) xs F) : F = [b] ∧ m = xs.length := by
  subst hd
  rcases flat_M h with ⟨h0, _⟩ | ⟨b', cap, cur, hv, _, _, _, _, _, rfl⟩
  · cases h0
  · simp only [Value.slice.injEq, Option.some.injEq, Addr.mk.injEq, and_true, true_and] at hv
    obtain ⟨rfl, rfl, rfl⟩ := hv
    exact ⟨rfl, rfl⟩
/-- The cells of element k. -/
theorem St.flatCell (hd : d = Dt.flat n enc hl h1) (h : St w0 w (own d e (.slice (some ⟨b, 0, none⟩) xs.length c) xs F :: L)) (hx : xs[k]? = some x) :
    (∀ i u, (enc x)[i]? = some u → w.cell? ⟨b, k * n + i, none⟩ = some u) ∧ (∀ o, w.frozen? ⟨b, o, none⟩ = false) ∧ b < w.heap.size := by
  subst hd
  obtain ⟨cs, G, E⟩ := SliceM.elem h.head h.headN hx
  have hcs : cs = enc x := E.M.1
  subst hcs
  exact ⟨E.cell, E.frozen, E.lt⟩
theorem St.setFlat (hd : d = Dt.flat n enc hl h1) (h : St w0 w (own d e (.slice (some ⟨b, 0, none⟩) xs.length c) xs F :: L)) (hx : xs[k]? = some x) {j o : Nat} {u : Value} (hj : j < n) (he : enc x' = (enc x).set j u) (ho : o = k * n + j) :
    St w0 (w.setCell ⟨b, o, none⟩ u) (own d e (.slice (some ⟨b, 0, none⟩) xs.length c) (xs.set k x') F :: L) := by
  subst ho
  obtain ⟨hF, -⟩ := flat_F hd h.head
  obtain ⟨cs, G, E⟩ := SliceM.elem h.head h.headN hx
  subst hd
  obtain ⟨rfl, rfl⟩ : cs = enc x ∧ G = [] := E.M
  have hc0 : w.cell? ⟨b, k * n + j, none⟩ = some ((enc x)[j]'(by rw [hl]; exact hj)) := E.cell j _ (List.getElem?_eq_getElem _)
  have hch : Chg [b] w (w.setCell ⟨b, k * n + j, none⟩ u) := Chg.setCell (Chg.refl _ _) (.inl (by simp)) u
  obtain ⟨F', hM', hN', -, -⟩ := E.turn (w.setCell ⟨b, k * n + j, none⟩ u) (enc x') x' [] ((Wrote.refl _ _ _ _ _).set _ u (by show k * n ≤ k * n + j; omega) (by show k * n + j < k * n + n; omega)) hch ⟨rfl, rfl⟩ (fun i v hi => by
    rw [he, List.getElem?_set] at hi
    show (w.setCell ⟨b, k * n + j, none⟩ u).cell? ⟨b, k * n + i, none⟩ = some v
    by_cases hij : j = i
    · subst hij
      rw [if_pos rfl, if_pos (by rw [hl]; exact hj)] at hi
      cases hi
      exact World.cell?_setCell_same w _ _ hc0
    · rw [if_neg hij] at hi
      rw [World.cell?_setCell_other w _ _ _ (by simp <;> omega)]
      exact E.cell i v hi) (by simp) (by simp)
  obtain ⟨hF', -⟩ := flat_F rfl hM'
  subst hF
  refine h.turn (A' := own _ e (.slice (some ⟨b, 0, none⟩) xs.length c) (xs.set k x') [b]) hch (by rw [hF'] at hM'; exact hM') (by simp [own]) (fun y hy => .inl hy)
theorem chg_setCells (b : Nat) : ∀ (vs : List Value) (o : Nat) (w : World), Chg [b] w (w.setCells b o vs)
  | [], _, w => Chg.refl _ w
  | v :: vs, o, w => (Chg.setCell (p := ⟨b, o, none⟩) (Chg.refl _ w) (.inl (by simp)) v).trans (chg_setCells b vs (o + 1) _)
theorem setCells_block (b : Nat) : ∀ (vs : List Value) (o : Nat) (w : World) (cur : Array Value), w.heap[b]? = some (.cells cur e (0, 0)) →
    ∃ cur' : Array Value, (w.setCells b o vs).heap[b]? = some (.cells cur' e (0, 0)) ∧ cur'.size = cur.size ∧ ∀ q, (q < o ∨ o + vs.length ≤ q) → cur'[q]? = cur[q]?
  | [], o, w, cur, h => ⟨cur, h, rfl, fun _ _ => rfl⟩
  | v :: vs, o, w, cur, h => by
    obtain ⟨cur', h1, h2, h3⟩ := setCells_block b vs (o + 1) (w.setCell ⟨b, o, none⟩ v) _ (setCell_block w b o v h)
    refine ⟨cur', h1, by simpa using h2, fun q hq => ?_⟩
    simp only [List.length_cons] at hq
    rw [h3 q (by omega), Array.getElem?_setIfInBounds_ne (by omega)]
/-- Element k is written whole. -/
theorem St.putFlat (hd : d = Dt.flat n enc hl h1) (h : St w0 w (own d e (.slice (some ⟨b, 0, none⟩) xs.length c) xs F :: L)) (hk : k < xs.length) (x' : α) :
    St w0 (w.setCells b (k * n) (enc x')) (own d e (.slice (some ⟨b, 0, none⟩) xs.length c) (xs.set k x') F :: L) := by
  obtain ⟨hF, -⟩ := flat_F hd h.head
  obtain ⟨cs, G, E⟩ := SliceM.elem h.head h.headN (List.getElem?_eq_getElem hk)
  subst hd
  obtain ⟨rfl, rfl⟩ : cs = enc xs[k] ∧ G = [] := E.M
  have hch := chg_setCells b (enc x') (k * n) w
  obtain ⟨F', hM', hN', -, -⟩ := E.turn (w.setCells b (k * n) (enc x')) (enc x') x' [] (fun cur hc => by
    obtain ⟨cur', a1, a2, a3⟩ := setCells_block b (enc x') (k * n) w cur hc
    refine ⟨cur', a1, a2, fun i hi => a3 i ?_⟩
    rw [hl]; exact hi) hch ⟨rfl, rfl⟩ (fun i v hi => by
    obtain ⟨hil, rfl⟩ := List.getElem?_eq_some_iff.1 hi
    exact World.cell?_setCells_in b (enc x') (k * n) w (fun j hj => by
      have := E.cell j ((enc xs[k])[j]'(by rw [hl] at hj ⊢; exact hj)) (List.getElem?_eq_getElem _)
      exact Option.isSome_iff_exists.2 ⟨_, this⟩) i hil) (by simp) (by simp)
  obtain ⟨hF', -⟩ := flat_F rfl hM'
  subst hF
  exact h.turn (A' := own _ e (.slice (some ⟨b, 0, none⟩) xs.length c) (xs.set k x') [b]) hch (by rw [hF'] at hM'; exact hM') (by simp [own]) (fun y hy => .inl hy)
theorem St.flatSome (hd : d = Dt.flat n enc hl h1) (h : St w0 w (own d e (.slice (some ⟨b, 0, none⟩) xs.length c) xs F :: L)) : ∀ q, q < xs.length * n → (w.cell? ⟨b, q, none⟩).isSome = true := by
  subst hd
  rcases flat_M h.head with ⟨h0, _⟩ | ⟨b', cap, cur, hv, h2, h3, hh, h4, h5, hF⟩
  · cases h0
  · simp only [Value.slice.injEq, Option.some.injEq, Addr.mk.injEq, and_true, true_and] at hv
    obtain ⟨rfl, rfl⟩ := hv
    intro q hq
    have hq2 : q < cur.size := by rw [h4]; exact Nat.lt_of_lt_of_le hq (Nat.mul_le_mul_right n h2)
    rw [cell_block hh, Array.getElem?_eq_getElem hq2]; rfl
theorem flatten_take {m : Nat} : ∀ (i : Nat) (css : List (List Value)), (∀ c ∈ css, c.length = m) → css.flatten.take (i * m) = (css.take i).flatten
  | 0, css, _ => by simp
  | i + 1, [], _ => by simp
  | i + 1, c :: css, h => by
    have hc : c.length = m := h c List.mem_cons_self
    rw [List.flatten_cons, List.take_succ_cons, List.flatten_cons, ← flatten_take i css (fun x hx => h x (List.mem_cons_of_mem _ hx)), Nat.add_mul, Nat.one_mul, Nat.add_comm, List.take_append, hc]
    rw [List.take_of_length_le (by omega)]
    simp
/-- A row is cut short; what lies behind may be written. -/
theorem St.cutFlat (hd : d = Dt.flat n enc hl h1) (h : St w0 w (own d e (.slice (some ⟨b, 0, none⟩) xs.length c) xs F :: L)) {i : Nat} (hi : i ≤ xs.length) (vs : List Value) :
    St w0 (w.setCells b (i * n) vs) (own d e (.slice (some ⟨b, 0, none⟩) i c) (xs.take i) F :: L) := by
  subst hd
  have hi2 : (xs.take i).length = i := by simp; omega
  rcases flat_M h.head with ⟨h0, _⟩ | ⟨b', cap, cur, hv, h2, h3, hh, h4, h5, hF⟩
  · cases h0
  · simp only [Value.slice.injEq, Option.some.injEq, Addr.mk.injEq, and_true, true_and] at hv
    obtain ⟨rfl, rfl⟩ := hv
    obtain ⟨cur', a1, a2, a3⟩ := setCells_block b vs (i * n) w cur hh
    subst hF
    refine h.turn (A' := own _ e (.slice (some ⟨b, 0, none⟩) i c) (xs.take i) [b]) (chg_setCells b vs (i * n) w) ?_ (by simp [own]) (fun y hy => .inl hy)
    have := flat_M_mk (n := n) (enc := enc) (hl := hl) (h1 := h1) (xs := xs.take i) (e := e) (w := w.setCells b (i * n) vs) (b := b) (cap := c) (cur := cur') (by omega) h3 a1 (by rw [a2, h4]) (by
      rw [hi2, List.map_take, ← flatten_take i _ (fun c hc => by obtain ⟨y, _, rfl⟩ := List.mem_map.1 hc; exact hl y), ← h5, List.take_take, Nat.min_eq_left (Nat.mul_le_mul_right n hi)]
      apply List.ext_getElem?
      intro q
      rw [List.getElem?_take, List.getElem?_take]
      split
      · rw [Array.getElem?_toList, Array.getElem?_toList]; exact a3 q (.inl (by omega))
      · rfl)
    rw [hi2] at this
    exact this
/-- clear of a row of structs. -/
theorem run_clear_flat {P : Program} (w : World) (t e : TypeId) (z : Value) (ht : P.underlying t = some (.slice e)) (hv : ∀ w, (zeroValue e).run P w = .ok z w) (hz : z.cells.size = n) (h1 : ∀ u ∈ z.cells.toList, u.oneCell' = true) (b o m c : Nat) (hm : 0 < m)
    (hc : ∀ j, j < m * n → (w.cell? ⟨b, o + j, none⟩).isSome = true) (hf : ∀ j, w.frozen? ⟨b, j, none⟩ = false) :
    ∃ vs, ∀ ty, (Builtin.clear_ #[t] ty #[.slice (some ⟨b, o, none⟩) m c]).run P w = .ok (.tuple #[]) (w.setCells b o vs) := by
  refine ⟨(Builtin.zeroCells z.cells m).toList, fun ty => ?_⟩
  have hlen : (Builtin.zeroCells z.cells m).toList.length = m * n := by simp [Builtin.zeroCells, hz]
  have hst := run_storeCells_cells (P := P) b o (Builtin.zeroCells z.cells m).toList 0 w (by rw [hlen]; simpa using hc) (by intro j _; exact hf _) (by
    intro v hv'
    simp only [Builtin.zeroCells, Array.toList_map, List.mem_map] at hv'
    obtain ⟨q, hq, rfl⟩ := hv'
    have hq2 : q < m * z.cells.size := by simpa using hq
    have hp : 0 < z.cells.size := by
      rcases Nat.eq_zero_or_pos z.cells.size with h0 | h0
      · rw [h0] at hq2; simp at hq2
      · exact h0
    have hl2 : q % z.cells.size < z.cells.size := Nat.mod_lt _ hp
    rw [getElem!_pos z.cells (q % z.cells.size) hl2]
    exact h1 _ (by simp))
  simp only [Nat.add_zero] at hst
  obtain ⟨m, rfl⟩ : ∃ k, m = k + 1 := ⟨m - 1, by omega⟩
  simp [Builtin.clear_, run_underlying ht, hv, hst]
/-- A block and an owned row lie apart. -/
theorem St.apart (hd : d = Dt.flat n enc hl h1) {k m : Nat} {arr : Array Value} {e' : TypeId} (h : St w0 w (blk k arr e' :: own d e (.slice (some ⟨b, 0, none⟩) m c) xs F :: L)) : ¬ b = k ∧ ¬ k = b := by
  obtain ⟨rfl, -⟩ := flat_F hd h.drop.head
  have hn := h.nodup
  simp [feet_cons, blk, own] at hn
  omega
theorem St.some (hd : d = Dt.flat n enc hl h1) {A : Option Addr} {m : Nat} (h : St w0 w (own d e (.slice A m c) xs F :: L)) (hx : xs[k]? = some x) : (∃ q, A = .some ⟨q, 0, none⟩) ∧ m = xs.length ∧ xs.length ≤ c := by
  subst hd
  obtain ⟨hl, -⟩ := List.getElem?_eq_some_iff.1 hx
  rcases flat_M h.head with ⟨h0, rfl, _⟩ | ⟨q, cap, cur, hv, hle, _⟩
  · simp at hl
  · simp only [Value.slice.injEq] at hv
    obtain ⟨rfl, rfl, rfl⟩ := hv
    exact ⟨⟨q, rfl⟩, rfl, hle⟩
end
end Go.Proofs.Ytccgjnanphonnaa
