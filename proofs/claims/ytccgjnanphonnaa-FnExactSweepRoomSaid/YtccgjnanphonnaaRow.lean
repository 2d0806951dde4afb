/- Owned rows, element by element: what an element's cells are, and the row behind a change of one element. -/
import Derived.Test.YtccgjnanphonnaaBase
namespace Go.Proofs.Ytccgjnanphonnaa
open Go Go.RowKit
set_option linter.unusedVariables false

/-- A list in which cells from place o on are others. -/
def segSet (l : List Value) (o : Nat) : List Value → List Value
  | [] => l
  | u :: us => segSet (l.set o u) (o + 1) us
theorem segSet_len : ∀ (us : List Value) (l : List Value) (o : Nat), (segSet l o us).length = l.length
  | [], l, o => rfl
  | u :: us, l, o => by rw [segSet, segSet_len us]; simp
theorem segSet_get : ∀ (us : List Value) (l : List Value) (o i : Nat), o + us.length ≤ l.length →
    (segSet l o us)[i]? = if o ≤ i ∧ i < o + us.length then us[i - o]? else l[i]?
  | [], l, o, i, h => by simp [segSet]; intro h1 h2; omega
  | u :: us, l, o, i, h => by
    simp only [List.length_cons] at h ⊢
    rw [segSet, segSet_get us (l.set o u) (o + 1) i (by simp; omega)]
    by_cases h1 : o + 1 ≤ i ∧ i < o + 1 + us.length
    · rw [if_pos h1, if_pos (by omega), show i - o = (i - (o + 1)) + 1 by omega, List.getElem?_cons_succ]
    · rw [if_neg h1]
      by_cases h2 : i = o
      · subst h2
        rw [if_pos (by omega), Nat.sub_self, List.getElem?_cons_zero, List.getElem?_set_self (by omega)]
      · rw [if_neg (by omega), List.getElem?_set_ne (by omega)]

/-- The parts of an owned row that isn't nil. -/
structure Row {α : Type} (d : Dt α) (e : TypeId) (w : World) (b cap : Nat) (cur : Array Value) (css : List (List Value)) (Fs : List (List Nat)) (xs : List α) : Prop where
  le : xs.length ≤ cap
  max : cap ≤ 9223372036854775807
  blk : w.heap[b]? = some (.cells cur e (0, 0))
  size : cur.size = cap * d.sz
  seg : cur.toList.take (xs.length * d.sz) = css.flatten
  all : All3 (d.M w) xs css Fs

section
variable {α : Type} {d : Dt α} {e : TypeId} {w w' : World} {b cap : Nat} {cur : Array Value} {css : List (List Value)} {Fs : List (List Nat)} {xs : List α}
theorem SliceM.row {v : Value} {F : List Nat} (h : SliceM d e w v xs F) :
    (v = .slice none 0 0 ∧ xs = [] ∧ F = []) ∨ ∃ b cap cur css Fs, v = .slice (some ⟨b, 0, none⟩) xs.length cap ∧ Row d e w b cap cur css Fs xs ∧ F = b :: Fs.flatten := by
  rcases h with h | ⟨b, cap, cur, css, Fs, hv, h1, h2, h3, h4, h5, h6, hF⟩
  · exact .inl h
  · exact .inr ⟨b, cap, cur, css, Fs, hv, ⟨h1, h2, h3, h4, h5, h6⟩, hF⟩
theorem Row.M (h : Row d e w b cap cur css Fs xs) : SliceM d e w (.slice (some ⟨b, 0, none⟩) xs.length cap) xs (b :: Fs.flatten) :=
  .inr ⟨b, cap, cur, css, Fs, rfl, h.le, h.max, h.blk, h.size, h.seg, h.all, rfl⟩
theorem Row.lens (h : Row d e w b cap cur css Fs xs) : css.length = xs.length ∧ Fs.length = xs.length := h.all.len
theorem Row.lt (h : Row d e w b cap cur css Fs xs) : ∀ k ∈ b :: Fs.flatten, k < w.heap.size := h.M.lt
theorem Row.fits (h : Row d e w b cap cur css Fs xs) {j : Nat} (hj : j < xs.length) : j * d.sz + d.sz ≤ cur.size := by
  rw [h.size]
  have h1 : (j + 1) * d.sz ≤ cap * d.sz := Nat.mul_le_mul_right _ (Nat.le_trans hj h.le)
  rw [Nat.add_mul] at h1; omega
theorem Row.elem (h : Row d e w b cap cur css Fs xs) {j : Nat} {x : α} (hj : xs[j]? = some x) :
    ∃ cs G, css[j]? = some cs ∧ Fs[j]? = some G ∧ d.M w x cs G ∧ (∀ i u, cs[i]? = some u → w.cell? ⟨b, j * d.sz + i, none⟩ = some u) := by
  obtain ⟨cs, G, hc, hG, hm⟩ := h.all.get j x hj
  refine ⟨cs, G, hc, hG, hm, fun i u hi => ?_⟩
  have hf := flatten_get css h.all.lens j cs hc i u hi
  rw [← h.seg, List.getElem?_take] at hf
  split at hf
  · rw [cell_block h.blk, ← Array.getElem?_toList]; exact hf
  · cases hf
theorem Row.frozen (h : Row d e w b cap cur css Fs xs) (o : Nat) : w.frozen? ⟨b, o, none⟩ = false := frozen_block h.blk
theorem flatten_set {n : Nat} (css : List (List Value)) (hl : ∀ c ∈ css, c.length = n) (l : List Value) (hs : l.take (css.length * n) = css.flatten) {j : Nat} (hj : j < css.length) (cs' : List Value) (hc : cs'.length = n)
    (hfit : css.length * n ≤ l.length) : (segSet l (j * n) cs').take (css.length * n) = (css.set j cs').flatten := by
  have hl' : ∀ c ∈ css.set j cs', c.length = n := fun c hcm => by
    rcases List.mem_or_eq_of_mem_set hcm with h | h
    · exact hl c h
    · rw [h, hc]
  have hjn : (j + 1) * n ≤ css.length * n := Nat.mul_le_mul_right _ hj
  rw [Nat.add_mul] at hjn
  apply List.ext_getElem?
  intro i
  by_cases hi : i < css.length * n
  · have hn : 0 < n := by rcases Nat.eq_zero_or_pos n with h0 | h0; (subst h0; simp at hi); exact h0
    have hq : i / n < css.length := (Nat.div_lt_iff_lt_mul hn).2 hi
    have hir : i = i / n * n + i % n := by rw [Nat.mul_comm]; exact (Nat.div_add_mod i n).symm
    have hm : i % n < n := Nat.mod_lt _ hn
    have hq2 : i / n < (css.set j cs').length := by simpa using hq
    rw [List.getElem?_take, if_pos hi, segSet_get _ _ _ _ (by omega), hc]
    have hR : (css.set j cs').flatten[i]? = (css.set j cs')[i / n][i % n]? := by
      have hlen : ((css.set j cs')[i / n]).length = n := hl' _ (List.getElem_mem hq2)
      conv => lhs; rw [hir]
      rw [flatten_get _ hl' (i / n) _ (List.getElem?_eq_getElem hq2) (i % n) _ (List.getElem?_eq_getElem (by omega))]
      exact (List.getElem?_eq_getElem (by omega)).symm
    rw [hR]
    by_cases he : i / n = j
    · subst he
      rw [if_pos (by omega), List.getElem_set_self, show i - i / n * n = i % n by omega]
    · rw [if_neg (by
        intro ⟨h1, h2⟩
        apply he
        have h3 : j ≤ i / n := (Nat.le_div_iff_mul_le hn).2 h1
        have h4 : i / n < j + 1 := (Nat.div_lt_iff_lt_mul hn).2 (by rw [Nat.add_mul]; omega)
        omega), List.getElem_set_ne (fun h => he h.symm)]
      have hL : css.flatten[i]? = css[i / n][i % n]? := by
        have hlen : (css[i / n]).length = n := hl _ (List.getElem_mem hq)
        conv => lhs; rw [hir]
        rw [flatten_get _ hl (i / n) _ (List.getElem?_eq_getElem hq) (i % n) _ (List.getElem?_eq_getElem (by omega))]
        exact (List.getElem?_eq_getElem (by omega)).symm
      rw [← hL, ← hs, List.getElem?_take, if_pos hi]
  · rw [List.getElem?_eq_none (by simp; omega), List.getElem?_eq_none (by rw [flat_len _ hl', List.length_set]; omega)]

theorem mem_flatten_set {Fs : List (List Nat)} {j : Nat} {G G' : List Nat} (hj : Fs[j]? = some G) {k : Nat} (hk : k ∈ (Fs.set j G').flatten) : k ∈ G' ∨ k ∈ Fs.flatten := by
  obtain ⟨H, hH, hkH⟩ := List.mem_flatten.1 hk
  rcases List.mem_or_eq_of_mem_set hH with h | h
  · exact .inr (List.mem_flatten.2 ⟨H, h, hkH⟩)
  · exact .inl (h ▸ hkH)
theorem mem_flatten_of {Fs : List (List Nat)} {j : Nat} {G : List Nat} (hj : Fs[j]? = some G) {k : Nat} (hk : k ∈ G) : k ∈ Fs.flatten :=
  List.mem_flatten.2 ⟨G, List.mem_of_getElem? hj, hk⟩
theorem All3.get3 {β γ : Type} {R : α → β → γ → Prop} {ys : List β} {zs : List γ} (h : All3 R xs ys zs) : ∀ (j : Nat) (x : α) (y : β) (z : γ), xs[j]? = some x → ys[j]? = some y → zs[j]? = some z → R x y z := by
  intro j x y z hx hy hz
  obtain ⟨y', z', hy', hz', hr⟩ := h.get j x hx
  rw [hy] at hy'; rw [hz] at hz'
  cases hy'; cases hz'; exact hr
theorem All3.of_get {β γ : Type} {R : α → β → γ → Prop} : ∀ {xs : List α} {ys : List β} {zs : List γ}, ys.length = xs.length → zs.length = xs.length →
    (∀ (j : Nat) (x : α) (y : β) (z : γ), xs[j]? = some x → ys[j]? = some y → zs[j]? = some z → R x y z) → All3 R xs ys zs
  | [], [], [], _, _, _ => .nil
  | x :: xs, y :: ys, z :: zs, h1, h2, h => .cons (h 0 x y z rfl rfl rfl) (All3.of_get (by simpa using h1) (by simpa using h2) fun j x y z hx hy hz => h (j + 1) x y z hx hy hz)
  | [], _ :: _, _, h1, _, _ => by simp at h1
  | [], [], _ :: _, _, h2, _ => by simp at h2
  | _ :: _, [], _, h1, _, _ => by simp at h1
  | _ :: _, _ :: _, [], _, h2, _ => by simp at h2
/-- An element's blocks hold no other element's. -/
theorem nodup_apart {Fs : List (List Nat)} (hn : Fs.flatten.Nodup) : ∀ {i j : Nat} {G H : List Nat}, i ≠ j → Fs[i]? = some G → Fs[j]? = some H → ∀ k ∈ G, k ∉ H := by
  induction Fs with
  | nil => intro i j G H _ hi; simp at hi
  | cons F0 Fs ih =>
    intro i j G H hne hi hj k hk hk2
    rw [List.flatten_cons, List.nodup_append] at hn
    obtain ⟨_, hn2, hd⟩ := hn
    cases i with
    | zero =>
      cases j with
      | zero => exact hne rfl
      | succ j =>
        simp at hi; subst hi
        exact hd k hk k (mem_flatten_of (by simpa using hj) hk2) rfl
    | succ i =>
      cases j with
      | zero =>
        simp at hj; subst hj
        exact hd k hk2 k (mem_flatten_of (by simpa using hi) hk) rfl
      | succ j => exact ih (i := i) (j := j) hn2 (fun h => hne (by omega)) (by simpa using hi) (by simpa using hj) k hk hk2
/-- One element has become another one. -/
theorem Row.upd (h : Row d e w b cap cur css Fs xs) (hn : Fs.flatten.Nodup) {j : Nat} {x x' : α} {G G' : List Nat} {cs' : List Value} {cur' : Array Value}
    (hj : xs[j]? = some x) (hG : Fs[j]? = some G) (hm : d.M w' x' cs' G') (hb : w'.heap[b]? = some (.cells cur' e (0, 0))) (hc : cur'.toList = segSet cur.toList (j * d.sz) cs')
    (ho : ∀ k ∈ Fs.flatten, k ∉ G → w'.heap[k]? = w.heap[k]?) : Row d e w' b cap cur' (css.set j cs') (Fs.set j G') (xs.set j x') := by
  have hjl : j < xs.length := (List.getElem?_eq_some_iff.1 hj).1
  have hcl := d.K_len (d.M_K hm)
  obtain ⟨hl1, hl2⟩ := h.lens
  refine ⟨by simpa using h.le, h.max, hb, ?_, ?_, ?_⟩
  · have h1 := congrArg List.length hc
    rw [segSet_len] at h1
    simpa using h1.trans (by simpa using h.size)
  · rw [hc, List.length_set, ← hl1]
    refine flatten_set css h.all.lens _ (by rw [hl1]; exact h.seg) (by omega) _ hcl ?_
    have := h.size; have h2 := Nat.mul_le_mul_right d.sz h.le
    rw [hl1]; simp; omega
  · refine All3.of_get (by simp [hl1]) (by simp [hl2]) fun i y c z hx hy hz => ?_
    by_cases he : j = i
    · subst he
      rw [List.getElem?_set_self (by omega)] at hx hy hz
      cases hx; cases hy; cases hz; exact hm
    · rw [List.getElem?_set_ne he] at hx hy hz
      refine d.M_move (fun k hk => ho k (mem_flatten_of hz hk) ?_) (h.all.get3 i y c z hx hy hz)
      exact nodup_apart hn (fun h => he h.symm) hz hG k hk
theorem set_same {β : Type} {Fs : List β} {j : Nat} {G : β} (h : Fs[j]? = some G) : Fs.set j G = Fs := by
  apply List.ext_getElem?
  intro i
  by_cases he : j = i
  · subst he; rw [List.getElem?_set_self (List.getElem?_eq_some_iff.1 h).1, h]
  · rw [List.getElem?_set_ne he]
theorem Row.move (h : Row d e w b cap cur css Fs xs) (hm : ∀ k ∈ b :: Fs.flatten, w'.heap[k]? = w.heap[k]?) : Row d e w' b cap cur css Fs xs :=
  ⟨h.le, h.max, by rw [hm b List.mem_cons_self]; exact h.blk, h.size, h.seg, h.all.imp fun x y z hz hx => d.M_move (fun k hk => hm k (List.mem_cons_of_mem _ (List.mem_flatten.2 ⟨z, hz, hk⟩))) hx⟩
end

/-! ### a row that is being filled -/
/-- Cells written one behind another. -/
def putCells (w : World) (b o : Nat) : List Value → World
  | [] => w
  | u :: us => putCells (w.setCell ⟨b, o, none⟩ u) b (o + 1) us
theorem putCells_block : ∀ (us : List Value) (w : World) (b o : Nat) {cur : Array Value} {e : TypeId}, w.heap[b]? = some (.cells cur e (0, 0)) →
    ∃ cur', (putCells w b o us).heap[b]? = some (.cells cur' e (0, 0)) ∧ cur'.toList = segSet cur.toList o us
  | [], w, b, o, cur, e, h => ⟨cur, h, rfl⟩
  | u :: us, w, b, o, cur, e, h => by
    obtain ⟨cur', h1, h2⟩ := putCells_block us (w.setCell ⟨b, o, none⟩ u) b (o + 1) (setCell_block w b o u h)
    exact ⟨cur', h1, by rw [h2, Array.toList_setIfInBounds]; rfl⟩
theorem putCells_other : ∀ (us : List Value) (w : World) (b o : Nat) {k : Nat}, k ≠ b → (putCells w b o us).heap[k]? = w.heap[k]?
  | [], w, b, o, k, h => rfl
  | u :: us, w, b, o, k, h => by rw [putCells, putCells_other us _ b (o + 1) h, Below.heap_setCell w ⟨b, o, none⟩ u k h]
theorem putCells_chg : ∀ (us : List Value) {a w : World} (b o : Nat) {F : List Nat}, Chg F a w → (b ∈ F ∨ a.heap.size ≤ b) → Chg F a (putCells w b o us)
  | [], a, w, b, o, F, h, _ => h
  | u :: us, a, w, b, o, F, h, hb => putCells_chg us b (o + 1) (h.setCell hb u) hb
theorem putCells_below : ∀ (us : List Value) {B : Nat} {a w : World} (b o : Nat), Below B a w → B ≤ b → Below B a (putCells w b o us)
  | [], B, a, w, b, o, h, _ => h
  | u :: us, B, a, w, b, o, h, hb => putCells_below us b (o + 1) (h.setCell hb u) hb
section
variable {α : Type} {d : Dt α} {e : TypeId} {w w' : World} {b cap : Nat} {cur : Array Value} {css : List (List Value)} {Fs : List (List Nat)} {xs : List α}
theorem segSet_take : ∀ (us : List Value) (l : List Value) (o : Nat), o + us.length ≤ l.length → (segSet l o us).take (o + us.length) = l.take o ++ us := by
  intro us l o h
  apply List.ext_getElem?
  intro i
  rw [List.getElem?_take, segSet_get us l o i h]
  by_cases h1 : i < o
  · rw [if_pos (by omega), if_neg (by omega), List.getElem?_append_left (by simp; omega), List.getElem?_take, if_pos h1]
  · by_cases h2 : i < o + us.length
    · rw [if_pos h2, if_pos ⟨by omega, h2⟩, List.getElem?_append_right (by simp; omega)]
      congr 1
      simp; omega
    · rw [if_neg h2, List.getElem?_eq_none (by simp; omega)]
theorem Row.snoc (h : Row d e w b cap cur css Fs xs) {x : α} {cs : List Value} {G : List Nat} {cur' : Array Value} (hl : xs.length < cap) (hm : d.M w' x cs G)
    (hb : w'.heap[b]? = some (.cells cur' e (0, 0))) (hc : cur'.toList = segSet cur.toList (xs.length * d.sz) cs) (ho : ∀ k ∈ Fs.flatten, w'.heap[k]? = w.heap[k]?) :
    Row d e w' b cap cur' (css ++ [cs]) (Fs ++ [G]) (xs ++ [x]) := by
  have hcl := d.K_len (d.M_K hm)
  have h1 : (xs.length + 1) * d.sz ≤ cap * d.sz := Nat.mul_le_mul_right _ hl
  rw [Nat.add_mul] at h1
  have hsz := h.size
  refine ⟨by simp; omega, h.max, hb, ?_, ?_, ?_⟩
  · have h2 := congrArg List.length hc
    rw [segSet_len] at h2
    simpa using h2.trans (by simpa using hsz)
  · rw [List.length_append, List.length_singleton, Nat.add_mul, Nat.one_mul, ← hcl, hc, hcl]
    have h4 : cur.toList.length = cur.size := Array.length_toList
    have h3 := segSet_take cs cur.toList (xs.length * d.sz) (by rw [hcl, h4]; have : xs.length = xs.toArray.size := rfl; omega)
    rw [hcl] at h3
    rw [h3, h.seg]; simp
  · exact (h.all.imp fun x y z hz hx => d.M_move (fun k hk => ho k (List.mem_flatten.2 ⟨z, hz, hk⟩)) hx).snoc hm
theorem Row.start {z : Value} {n : Nat} (hn : n ≤ 9223372036854775807) : Row d e (w.alloc (.cells (mkRow z (n * d.sz)) e)) w.heap.size n (mkRow z (n * d.sz)) [] [] [] :=
  ⟨Nat.zero_le _, hn, alloc_new w _, size_mkRow _ _, by simp, .nil⟩
end
theorem nodup_app {F G : List Nat} {m : Nat} (hF : F.Nodup) (hG : G.Nodup) (h1 : ∀ b ∈ F, b < m) (h2 : ∀ b ∈ G, m ≤ b) : (F ++ G).Nodup := by
  rw [List.nodup_append]
  exact ⟨hF, hG, fun a ha b hb hab => by have := h1 a ha; have := h2 b hb; omega⟩

/-! ### marks, element by element -/
def cntAll {α : Type} (cnt : α → Nat) : List α → Nat
  | [] => 0
  | x :: xs => cnt x + cntAll cnt xs
def markAll {α : Type} (cnt : α → Nat) (mk : Int → α → α) : Int → List α → List α
  | _, [] => []
  | k, x :: xs => mk k x :: markAll cnt mk (k + cnt x) xs
section
variable {α : Type} {cnt : α → Nat} {mk : Int → α → α}
theorem cntAll_take : ∀ (xs : List α) (i : Nat) (x : α), xs[i]? = some x → cntAll cnt (xs.take (i + 1)) = cntAll cnt (xs.take i) + cnt x
  | [], i, x, h => by simp at h
  | y :: xs, 0, x, h => by simp at h; subst h; simp [cntAll]
  | y :: xs, i + 1, x, h => by
    have := cntAll_take xs i x (by simpa using h)
    simp only [List.take_succ_cons, cntAll, this]; omega
theorem cntAll_le : ∀ (xs : List α) (i : Nat), cntAll cnt (xs.take i) ≤ cntAll cnt xs
  | [], i => by simp
  | y :: xs, 0 => by simp [cntAll]
  | y :: xs, i + 1 => by have := cntAll_le xs i; simp only [List.take_succ_cons, cntAll]; omega
theorem markAll_len : ∀ (xs : List α) (k : Int), (markAll cnt mk k xs).length = xs.length
  | [], k => rfl
  | x :: xs, k => by simp [markAll, markAll_len xs]
theorem markAll_get : ∀ (xs : List α) (k : Int) (i : Nat) (x : α), xs[i]? = some x → (markAll cnt mk k xs)[i]? = some (mk (k + cntAll cnt (xs.take i)) x)
  | [], k, i, x, h => by simp at h
  | y :: xs, k, 0, x, h => by simp at h; subst h; simp [markAll, cntAll]
  | y :: xs, k, i + 1, x, h => by
    have := markAll_get xs (k + cnt y) i x (by simpa using h)
    simp only [markAll, List.getElem?_cons_succ, this, List.take_succ_cons, cntAll]
    congr 2; omega
theorem cntAll_mark (h : ∀ k x, cnt (mk k x) = cnt x) : ∀ (xs : List α) (k : Int), cntAll cnt (markAll cnt mk k xs) = cntAll cnt xs
  | [], k => rfl
  | x :: xs, k => by simp only [markAll, cntAll, h, cntAll_mark h xs]
theorem markAll_mark (h : ∀ k x, cnt (mk k x) = cnt x) (h2 : ∀ k x, mk k (mk k x) = mk k x) : ∀ (xs : List α) (k : Int), markAll cnt mk k (markAll cnt mk k xs) = markAll cnt mk k xs
  | [], k => rfl
  | x :: xs, k => by simp only [markAll, h, h2, markAll_mark h h2 xs]
/-- A list of which the first i have been marked. -/
def mixed (cnt : α → Nat) (mk : Int → α → α) (k : Int) (xs : List α) (i : Nat) : List α := (markAll cnt mk k xs).take i ++ xs.drop i
theorem mixed_zero (k : Int) (xs : List α) : mixed cnt mk k xs 0 = xs := by simp [mixed]
theorem mixed_all (k : Int) (xs : List α) : mixed cnt mk k xs xs.length = markAll cnt mk k xs := by simp [mixed, List.take_of_length_le, markAll_len]
theorem mixed_len (k : Int) (xs : List α) (i : Nat) : (mixed cnt mk k xs i).length = xs.length := by simp [mixed, markAll_len]; omega
theorem mixed_get (k : Int) (xs : List α) (i : Nat) {x : α} (h : xs[i]? = some x) : (mixed cnt mk k xs i)[i]? = some x := by
  have hi := (List.getElem?_eq_some_iff.1 h).1
  unfold mixed
  rw [List.getElem?_append_right (by simp; omega), List.length_take, markAll_len, Nat.min_eq_left (by omega), Nat.sub_self, List.getElem?_drop]
  exact h
theorem mixed_set (k : Int) (xs : List α) (i : Nat) {x : α} (h : xs[i]? = some x) : (mixed cnt mk k xs i).set i (mk (k + cntAll cnt (xs.take i)) x) = mixed cnt mk k xs (i + 1) := by
  have hi := (List.getElem?_eq_some_iff.1 h).1
  unfold mixed
  rw [List.take_add_one, markAll_get xs k i x h, List.set_append_right _ _ (by simp; omega), List.length_take, markAll_len, Nat.min_eq_left (by omega), Nat.sub_self, List.drop_eq_getElem_cons hi, List.set_cons_zero]
  simp
/-- What is told behind marks from k on. -/
def heldAll [DecidableEq α] (cnt : α → Nat) (mk : Int → α → α) (k : Int) (xs : List α) : Int := if xs = markAll cnt mk k xs then k + cntAll cnt xs else -1
theorem heldAll_neg [DecidableEq α] {k : Int} {xs : List α} {i : Nat} {x : α} (hx : xs[i]? = some x) (hne : x ≠ mk (k + cntAll cnt (xs.take i)) x) : heldAll cnt mk k xs = -1 := by
  refine if_neg fun h => hne ?_
  have h2 := markAll_get (cnt := cnt) (mk := mk) xs k i x hx
  rw [← h, hx] at h2
  exact Option.some.inj h2
theorem heldAll_pos [DecidableEq α] {k : Int} {xs : List α} (h : xs.take xs.length = (markAll cnt mk k xs).take xs.length) : heldAll cnt mk k xs = k + cntAll cnt xs := by
  refine if_pos ?_
  rwa [List.take_length, List.take_of_length_le (by rw [markAll_len]; exact Nat.le_refl _)] at h
theorem heldAll_mark [DecidableEq α] (h : ∀ k x, cnt (mk k x) = cnt x) (h2 : ∀ k x, mk k (mk k x) = mk k x) (k : Int) (xs : List α) : heldAll cnt mk k (markAll cnt mk k xs) = k + cntAll cnt xs := by
  unfold heldAll
  rw [if_pos (markAll_mark h h2 xs k).symm, cntAll_mark h]
end

/-! ### one element of an owned row, while it is being written -/
/-- The row, and its element i. -/
def RowE {α : Type} (d : Dt α) (e : TypeId) (w : World) (b cap : Nat) (Fs : List (List Nat)) (xs : List α) (i : Nat) (x : α) (cs : List Value) (G : List Nat) : Prop :=
  ∃ cur css, Row d e w b cap cur css Fs xs ∧ xs[i]? = some x ∧ css[i]? = some cs ∧ Fs[i]? = some G
section
variable {α : Type} {d : Dt α} {e : TypeId} {w w' : World} {b cap : Nat} {Fs : List (List Nat)} {xs : List α} {i : Nat} {x : α} {cs : List Value} {G : List Nat}
theorem RowE.M (h : RowE d e w b cap Fs xs i x cs G) : d.M w x cs G := by
  obtain ⟨cur, css, hr, hx, hc, hG⟩ := h
  exact hr.all.get3 i x cs G hx hc hG
theorem RowE.cell (h : RowE d e w b cap Fs xs i x cs G) : ∀ j u, cs[j]? = some u → w.cell? ⟨b, i * d.sz + j, none⟩ = some u := by
  obtain ⟨cur, css, hr, hx, hc, hG⟩ := h
  obtain ⟨cs', G', hc', _, _, hcell⟩ := hr.elem hx
  rw [hc] at hc'; cases hc'
  exact hcell
theorem RowE.frozen (h : RowE d e w b cap Fs xs i x cs G) (o : Nat) : w.frozen? ⟨b, o, none⟩ = false := by
  obtain ⟨cur, css, hr, _⟩ := h; exact hr.frozen o
theorem RowE.blt (h : RowE d e w b cap Fs xs i x cs G) : b < w.heap.size := by
  obtain ⟨cur, css, hr, _⟩ := h; exact block_lt hr.blk
theorem RowE.sub (h : RowE d e w b cap Fs xs i x cs G) : ∀ k ∈ G, k ∈ Fs.flatten := by
  obtain ⟨cur, css, hr, _, _, hG⟩ := h; exact fun k hk => mem_flatten_of hG hk
theorem RowE.lt (h : RowE d e w b cap Fs xs i x cs G) : ∀ k ∈ b :: Fs.flatten, k < w.heap.size := by
  obtain ⟨cur, css, hr, _⟩ := h; exact hr.lt
theorem nodup_sub : ∀ {Fs : List (List Nat)} {i : Nat} {G : List Nat}, Fs.flatten.Nodup → Fs[i]? = some G → G.Nodup
  | [], i, G, _, h => by simp at h
  | F0 :: Fs, 0, G, hn, h => by
    simp at h; subst h
    rw [List.flatten_cons, List.nodup_append] at hn; exact hn.1
  | F0 :: Fs, i + 1, G, hn, h => by
    rw [List.flatten_cons, List.nodup_append] at hn
    exact nodup_sub hn.2.1 (by simpa using h)
theorem RowE.nodup (h : RowE d e w b cap Fs xs i x cs G) (hn : (b :: Fs.flatten).Nodup) : G.Nodup ∧ b ∉ G := by
  have hs := h.sub
  obtain ⟨cur, css, hr, _, _, hG⟩ := h
  exact ⟨nodup_sub (List.nodup_cons.1 hn).2 hG, fun hb => (List.nodup_cons.1 hn).1 (hs b hb)⟩
theorem RowE.below (h : RowE d e w b cap Fs xs i x cs G) (hb : Below w.heap.size w w') : RowE d e w' b cap Fs xs i x cs G := by
  obtain ⟨cur, css, hr, h2⟩ := h
  exact ⟨cur, css, hr.move fun k hk => hb.block k (hr.lt k hk), h2⟩
/-- One cell of the element has been written. -/
theorem RowE.put (h : RowE d e w b cap Fs xs i x cs G) (hn : (b :: Fs.flatten).Nodup) (j : Nat) (u : Value) (x' : α) (hj : j < d.sz) (hm : d.M w x cs G → d.M w x' (cs.set j u) G) :
    RowE d e (w.setCell ⟨b, i * d.sz + j, none⟩ u) b cap Fs (xs.set i x') i x' (cs.set j u) G := by
  have hM := hm h.M
  have hbF := (List.nodup_cons.1 hn).1
  have hne : ∀ k ∈ Fs.flatten, k ≠ b := fun k hk e => hbF (e ▸ hk)
  have hcell := h.cell
  obtain ⟨cur, css, hr, hx, hc, hG⟩ := h
  have hcl := d.K_len (d.M_K (hr.all.get3 i x cs G hx hc hG))
  have hil := (List.getElem?_eq_some_iff.1 hx).1
  obtain ⟨hl1, hl2⟩ := hr.lens
  have hfit := hr.fits hil
  have hMv : d.M (w.setCell ⟨b, i * d.sz + j, none⟩ u) x' (cs.set j u) G :=
    d.M_move (fun k hk => Below.heap_setCell w _ u k (hne k (mem_flatten_of hG hk))) hM
  have hr' := hr.upd (w' := w.setCell ⟨b, i * d.sz + j, none⟩ u) (cur' := cur.setIfInBounds (i * d.sz + j) u) (List.nodup_cons.1 hn).2 hx hG hMv (setCell_block w b _ u hr.blk) (by
    rw [Array.toList_setIfInBounds]
    apply List.ext_getElem?
    intro k
    rw [segSet_get _ _ _ _ (by rw [List.length_set, hcl, Array.length_toList]; exact hfit), List.length_set, hcl]
    by_cases hk : i * d.sz ≤ k ∧ k < i * d.sz + d.sz
    · rw [if_pos hk]
      by_cases hkj : i * d.sz + j = k
      · subst hkj
        rw [List.getElem?_set_self (by rw [Array.length_toList]; omega), show i * d.sz + j - i * d.sz = j by omega, List.getElem?_set_self (by omega)]
      · rw [List.getElem?_set_ne hkj, List.getElem?_set_ne (by omega)]
        have hkc : k - i * d.sz < cs.length := by omega
        have h3 := hcell (k - i * d.sz) _ (List.getElem?_eq_getElem hkc)
        rw [cell_block hr.blk, show i * d.sz + (k - i * d.sz) = k by omega] at h3
        rw [List.getElem?_eq_getElem hkc, Array.getElem?_toList, h3]
    · rw [if_neg hk, List.getElem?_set_ne (by omega)]) (fun k hk _ => Below.heap_setCell w _ u k (hne k hk))
  rw [set_same hG] at hr'
  exact ⟨_, _, hr', List.getElem?_set_self hil, List.getElem?_set_self (by omega), hG⟩
/-- The element's own blocks have turned. -/
theorem RowE.inner (h : RowE d e w b cap Fs xs i x cs G) (hn : (b :: Fs.flatten).Nodup) (x' : α) (hc : Chg G w w') (hm : d.M w' x' cs G) : RowE d e w' b cap Fs (xs.set i x') i x' cs G := by
  have hnG := (h.nodup hn).2
  obtain ⟨cur, css, hr, hx, hcs, hG⟩ := h
  have hil := (List.getElem?_eq_some_iff.1 hx).1
  have hr' := hr.upd (w' := w') (cur' := cur) (cs' := cs) (List.nodup_cons.1 hn).2 hx hG hm ((hc.block b (block_lt hr.blk) hnG).trans hr.blk) (by
    obtain ⟨cs', G', hc', _, _, hcell⟩ := hr.elem hx
    rw [hcs] at hc'; cases hc'
    have hcl := d.K_len (d.M_K hm)
    have hfit := hr.fits hil
    apply List.ext_getElem?
    intro k
    rw [segSet_get _ _ _ _ (by rw [hcl, Array.length_toList]; exact hfit), hcl]
    by_cases hk : i * d.sz ≤ k ∧ k < i * d.sz + d.sz
    · rw [if_pos hk]
      have hkc : k - i * d.sz < cs.length := by omega
      have h3 := hcell (k - i * d.sz) _ (List.getElem?_eq_getElem hkc)
      rw [cell_block hr.blk, show i * d.sz + (k - i * d.sz) = k by omega] at h3
      rw [List.getElem?_eq_getElem hkc, Array.getElem?_toList, h3]
    · rw [if_neg hk]) (fun k hk hkG => hc.block k (hr.lt k (List.mem_cons_of_mem _ hk)) hkG)
  rw [set_same hG, set_same hcs] at hr'
  exact ⟨_, _, hr', List.getElem?_set_self hil, hcs, hG⟩
theorem RowE.ofRow {cur : Array Value} {css : List (List Value)} (h : Row d e w b cap cur css Fs xs) (hx : xs[i]? = some x) : ∃ cs G, RowE d e w b cap Fs xs i x cs G := by
  obtain ⟨cs, G, hc, hG, _, _⟩ := h.elem hx
  exact ⟨cs, G, cur, css, h, hx, hc, hG⟩
theorem RowE.row (h : RowE d e w b cap Fs xs i x cs G) : ∃ cur css, Row d e w b cap cur css Fs xs := by
  obtain ⟨cur, css, hr, _⟩ := h; exact ⟨cur, css, hr⟩
end
theorem heldAll_nn {α : Type} [DecidableEq α] {cnt : α → Nat} {mk : Int → α → α} {k : Int} (h : 0 ≤ k) (xs : List α) : heldAll cnt mk k xs < 0 ↔ ¬ xs = markAll cnt mk k xs := by
  unfold heldAll; split
  · rename_i h1; constructor
    · intro h2; omega
    · intro h2; exact absurd h1 h2
  · rename_i h1; exact ⟨fun _ => h1, fun _ => by omega⟩
/-- A call that marks a row: the last mark, and where it may have written. -/
def RetMarkA {α : Type} (d : Dt α) (e : TypeId) (cnt : α → Nat) (mk : Int → α → α) (w : World) (v : Value) (xs : List α) (F : List Nat) (k : Int) (r : Ending) (w' : World) : Prop :=
  r = .returned (.int .i64 (k + cntAll cnt xs)) ∧ SliceM d e w' v (markAll cnt mk k xs) F ∧ Chg F w w'
/-- A call that marks what a struct holds. -/
def RetMarkT {α : Type} (d : Dt α) (w : World) (cnt : Nat) (x' : α) (cs : List Value) (F : List Nat) (k : Int) (r : Ending) (w' : World) : Prop :=
  r = .returned (.int .i64 (k + cnt)) ∧ d.M w' x' cs F ∧ Chg F w w'
theorem int_congr {a b : Int} (h : a = b) : Value.int .i64 a = .int .i64 b := by rw [h]
theorem ret_int {k : IntKind} {a b : Int} (h : a = b) : Ending.returned (.int k a) = .returned (.int k b) := by rw [h]
theorem ret_bool {a b : Bool} (h : a = b) : Ending.returned (.bool a) = .returned (.bool b) := by rw [h]
theorem heldAll_spec {α : Type} [DecidableEq α] {cnt : α → Nat} {mk : Int → α → α} {k r : Int} {xs : List α} (h : r = heldAll cnt mk k xs) (h0 : 0 ≤ k) :
    (r = k + cntAll cnt xs ∧ xs = markAll cnt mk k xs) ∨ (r = -1 ∧ ¬ xs = markAll cnt mk k xs) := by
  subst h; unfold heldAll; split
  · rename_i h1; exact .inl ⟨rfl, h1⟩
  · rename_i h1; exact .inr ⟨rfl, h1⟩
end Go.Proofs.Ytccgjnanphonnaa
