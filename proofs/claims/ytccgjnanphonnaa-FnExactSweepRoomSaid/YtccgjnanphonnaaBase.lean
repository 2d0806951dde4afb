/- Words for how data lie in memory, over any program: readable rows, owned rows, what a call may turn. -/
import Derived.WalkKit
import Derived.KernelRfl
import Derived.Below
import Derived.Deep.QuietTactic
import Derived.BigQuiet
import Derived.Deep.LoopGhost
import Derived.OwnWalk
import Derived.Laws.AppendOwn
import Derived.Laws.Slices
import Derived.Laws.Cells
import Derived.Laws.MakeOwn
namespace Go.Proofs.Ytccgjnanphonnaa
open Go Go.RowKit
set_option linter.unusedVariables false

theorem hide {p : Prop} (h : p) : Hid p := h

/-- The blocks of F may have turned; all else of w lies as it was. -/
structure Chg (F : List Nat) (w w' : World) : Prop where
  os : w'.os = w.os
  tape : w'.tape = w.tape
  output : w'.output = w.output
  size : w.heap.size ≤ w'.heap.size
  block : ∀ k, k < w.heap.size → k ∉ F → w'.heap[k]? = w.heap[k]?

theorem Chg.below {F : List Nat} {w w' : World} (h : Chg F w w') {B : Nat} (hB : B ≤ w.heap.size) (hF : ∀ k ∈ F, B ≤ k) : Below B w w' :=
  ⟨h.os, h.tape, h.output, h.size, fun k hk => h.block k (by omega) (fun hm => by have := hF k hm; omega)⟩
theorem Chg.of_below {w w' : World} (h : Below w.heap.size w w') (F : List Nat) : Chg F w w' := ⟨h.os, h.tape, h.output, h.size, fun k hk _ => h.block k hk⟩
theorem Chg.refl (F : List Nat) (w : World) : Chg F w w := .of_below (.refl _ _) F
theorem Chg.trans {F : List Nat} {a b c : World} (h : Chg F a b) (k : Chg F b c) : Chg F a c :=
  ⟨k.os.trans h.os, k.tape.trans h.tape, k.output.trans h.output, Nat.le_trans h.size k.size, fun i hi hn => (k.block i (Nat.lt_of_lt_of_le hi h.size) hn).trans (h.block i hi hn)⟩
theorem Chg.mono {F G : List Nat} {w w' : World} (h : Chg F w w') (hs : ∀ k ∈ F, k ∈ G ∨ w.heap.size ≤ k) : Chg G w w' :=
  ⟨h.os, h.tape, h.output, h.size, fun k hk hn => h.block k hk (fun hm => by rcases hs k hm with h1 | h1; exact hn h1; omega)⟩
theorem Chg.alloc {F : List Nat} {a w : World} (h : Chg F a w) (o : Obj) : Chg F a (w.alloc o) :=
  h.trans (.of_below ((Below.refl _ _).alloc (Nat.le_refl _) o) F)
theorem Chg.drew {F : List Nat} {a w : World} (h : Chg F a w) : Chg F a w.drew := ⟨h.os, h.tape, h.output, h.size, h.block⟩
theorem Chg.drewN {F : List Nat} {a w : World} (h : Chg F a w) (n : Nat) : Chg F a (w.drewN n) := ⟨h.os, h.tape, h.output, h.size, h.block⟩
theorem Chg.setCell {F : List Nat} {a w : World} (h : Chg F a w) {p : Addr} (hp : p.block ∈ F ∨ a.heap.size ≤ p.block) (u : Value) : Chg F a (w.setCell p u) :=
  ⟨h.os, h.tape, h.output, by simpa using h.size, fun k hk hn => (Below.heap_setCell w p u k (by
    rintro rfl
    rcases hp with hp | hp
    · exact hn hp
    · omega)).trans (h.block k hk hn)⟩
theorem Chg.then {F : List Nat} {a b c : World} (h : Chg F a b) (k : Below b.heap.size b c) : Chg F a c := h.trans (.of_below k F)
theorem Chg.grown {F : List Nat} {a b c : World} (h : Chg F a b) {row : Option Nat} (k : b.grownBy c row) (hr : ∀ x, row = some x → x ∈ F ∨ a.heap.size ≤ x) : Chg F a c :=
  ⟨k.os.trans h.os, k.tape.trans h.tape, k.output.trans h.output, Nat.le_trans h.size k.size, fun i hi hn => (k.block i (Nat.lt_of_lt_of_le hi h.size) (by
    intro e
    rcases hr i e.symm with h1 | h1
    · exact hn h1
    · omega)).trans (h.block i hi hn)⟩

theorem below_drewN {B : Nat} {a w : World} (h : Below B a w) (n : Nat) : Below B a (w.drewN n) := ⟨h.os, h.tape, h.output, h.size, h.block⟩
theorem below_step {w w1 w2 : World} (h : Below w.heap.size w w1) (k : Below w1.heap.size w1 w2) : Below w.heap.size w w2 := h.trans (k.mono h.size)
/-- The rules that a walk takes behind a call that leaves what was there. -/
theorem bcell {W w1 : World} (hb : Below W.heap.size W w1) :
    (∀ b o, b < W.heap.size → w1.cell? ⟨b, o, none⟩ = W.cell? ⟨b, o, none⟩) ∧ (∀ b o, b < W.heap.size → w1.frozen? ⟨b, o, none⟩ = W.frozen? ⟨b, o, none⟩) ∧ W.heap.size ≤ w1.heap.size :=
  ⟨fun b o h => hb.cell (p := ⟨b, o, none⟩) h, fun b o h => hb.frozen (p := ⟨b, o, none⟩) h, hb.size⟩
theorem cell_below {w w1 : World} (h : Below w.heap.size w w1) {a : Addr} {v : Value} (hc : w.cell? a = some v) : w1.cell? a = some v :=
  (h.cell (World.block_lt_of_cell? w _ hc)).trans hc

/-! ### three lists side by side -/
inductive All3 {α β γ : Type} (R : α → β → γ → Prop) : List α → List β → List γ → Prop
  | nil : All3 R [] [] []
  | cons {x : α} {y : β} {z : γ} {xs : List α} {ys : List β} {zs : List γ} (h : R x y z) (t : All3 R xs ys zs) : All3 R (x :: xs) (y :: ys) (z :: zs)

section
variable {α β γ : Type} {R R' : α → β → γ → Prop} {xs : List α} {ys : List β} {zs : List γ}
theorem All3.len (h : All3 R xs ys zs) : ys.length = xs.length ∧ zs.length = xs.length := by
  induction h with
  | nil => exact ⟨rfl, rfl⟩
  | cons _ _ ih => exact ⟨by simp [ih.1], by simp [ih.2]⟩
theorem All3.imp (h : All3 R xs ys zs) (f : ∀ x y z, z ∈ zs → R x y z → R' x y z) : All3 R' xs ys zs := by
  induction h with
  | nil => exact .nil
  | cons h t ih => exact .cons (f _ _ _ List.mem_cons_self h) (ih fun x y z hz => f x y z (List.mem_cons_of_mem _ hz))
theorem All3.get (h : All3 R xs ys zs) : ∀ (j : Nat) (x : α), xs[j]? = some x → ∃ y z, ys[j]? = some y ∧ zs[j]? = some z ∧ R x y z := by
  induction h with
  | nil => intro j x hj; simp at hj
  | cons h t ih =>
    intro j x hj
    cases j with
    | zero => simp at hj; subst hj; exact ⟨_, _, rfl, rfl, h⟩
    | succ j => simpa using ih j x (by simpa using hj)
theorem All3.snoc (h : All3 R xs ys zs) {x : α} {y : β} {z : γ} (hr : R x y z) : All3 R (xs ++ [x]) (ys ++ [y]) (zs ++ [z]) := by
  induction h with
  | nil => exact .cons hr .nil
  | cons h t ih => exact .cons h ih
theorem All3.append (h : All3 R xs ys zs) {xs' : List α} {ys' : List β} {zs' : List γ} (h' : All3 R xs' ys' zs') : All3 R (xs ++ xs') (ys ++ ys') (zs ++ zs') := by
  induction h with
  | nil => exact h'
  | cons h t ih => exact .cons h ih
theorem All3.take (h : All3 R xs ys zs) (n : Nat) : All3 R (xs.take n) (ys.take n) (zs.take n) := by
  induction h generalizing n with
  | nil => simpa using All3.nil
  | cons h t ih =>
    cases n with
    | zero => exact .nil
    | succ n => exact .cons h (ih n)
theorem All3.drop (h : All3 R xs ys zs) (n : Nat) : All3 R (xs.drop n) (ys.drop n) (zs.drop n) := by
  induction h generalizing n with
  | nil => simpa using All3.nil
  | cons h t ih =>
    cases n with
    | zero => exact .cons h t
    | succ n => exact ih n
theorem All3.set (h : All3 R xs ys zs) {j : Nat} {x : α} {y : β} {z : γ} (hr : R x y z) : All3 R (xs.set j x) (ys.set j y) (zs.set j z) := by
  induction h generalizing j with
  | nil => exact .nil
  | cons h t ih =>
    cases j with
    | zero => exact .cons hr t
    | succ j => exact .cons h ih
end

/-! ### kinds -/
/-- How an α lies in cells: K: to be read; M: owned, with the list of its blocks. -/
structure Dt (α : Type) where
  sz : Nat
  K : World → α → List Value → Prop
  M : World → α → List Value → List Nat → Prop
  K_len : ∀ {w x cs}, K w x cs → cs.length = sz
  K_one : ∀ {w x cs}, K w x cs → ∀ u ∈ cs, u.oneCell' = true
  K_below : ∀ {w w' : World} {x cs}, Below w.heap.size w w' → K w x cs → K w' x cs
  M_K : ∀ {w x cs F}, M w x cs F → K w x cs
  M_lt : ∀ {w x cs F}, M w x cs F → ∀ b ∈ F, b < w.heap.size
  M_move : ∀ {w w' : World} {x cs F}, (∀ b ∈ F, w'.heap[b]? = w.heap[b]?) → M w x cs F → M w' x cs F

/-- A row of elements that is read: from offset o of block b on. -/
def RowAt {α : Type} (d : Dt α) (w : World) (b o : Nat) (xs : List α) : Prop :=
  ∀ j x, xs[j]? = some x → ∃ cs, d.K w x cs ∧ ∀ i u, cs[i]? = some u → w.cell? ⟨b, o + j * d.sz + i, none⟩ = some u

def SliceK {α : Type} (d : Dt α) (w : World) (v : Value) (xs : List α) : Prop :=
  ∃ A c, v = .slice A xs.length c ∧ xs.length ≤ c ∧ c ≤ 9223372036854775807 ∧ (xs = [] ∨ ∃ b o, A = some ⟨b, o, none⟩ ∧ RowAt d w b o xs)

def SliceM {α : Type} (d : Dt α) (e : TypeId) (w : World) (v : Value) (xs : List α) (F : List Nat) : Prop :=
  (v = .slice none 0 0 ∧ xs = [] ∧ F = []) ∨
  ∃ b cap cur css Fs, v = .slice (some ⟨b, 0, none⟩) xs.length cap ∧ xs.length ≤ cap ∧ cap ≤ 9223372036854775807 ∧ w.heap[b]? = some (.cells cur e (0, 0)) ∧
    cur.size = cap * d.sz ∧ cur.toList.take (xs.length * d.sz) = css.flatten ∧ All3 (d.M w) xs css Fs ∧ F = b :: Fs.flatten

section
variable {α : Type} {d : Dt α} {w w' : World}
theorem RowAt.below {b o : Nat} {xs : List α} (h : RowAt d w b o xs) (hb : Below w.heap.size w w') : RowAt d w' b o xs := by
  intro j x hj
  obtain ⟨cs, hk, hc⟩ := h j x hj
  exact ⟨cs, d.K_below hb hk, fun i u hi => cell_below hb (hc i u hi)⟩
theorem RowAt.drop {b o : Nat} {xs : List α} (h : RowAt d w b o xs) (n : Nat) : RowAt d w b (o + n * d.sz) (xs.drop n) := by
  intro j x hj
  rw [List.getElem?_drop] at hj
  obtain ⟨cs, hk, hc⟩ := h (n + j) x hj
  refine ⟨cs, hk, fun i u hi => ?_⟩
  rw [← hc i u hi, Nat.add_mul, Nat.add_assoc o]
theorem RowAt.take {b o : Nat} {xs : List α} (h : RowAt d w b o xs) (n : Nat) : RowAt d w b o (xs.take n) := by
  intro j x hj
  refine h j x ?_
  rw [List.getElem?_take] at hj
  split at hj
  · exact hj
  · cases hj
theorem SliceK.below {v : Value} {xs : List α} (hb : Below w.heap.size w w') (h : SliceK d w v xs) : SliceK d w' v xs := by
  obtain ⟨A, c, hv, hl, hm, h⟩ := h
  refine ⟨A, c, hv, hl, hm, ?_⟩
  rcases h with h | ⟨b, o, hA, h⟩
  · exact .inl h
  · exact .inr ⟨b, o, hA, h.below hb⟩
theorem SliceK.nil (d : Dt α) (w : World) : SliceK d w (.slice none 0 0) [] := ⟨none, 0, rfl, Nat.le_refl _, by decide, .inl rfl⟩
theorem SliceK.len {v : Value} {xs : List α} (h : SliceK d w v xs) : xs.length ≤ 9223372036854775807 := by
  obtain ⟨A, c, _, hl, hm, _⟩ := h; omega
theorem SliceM.lt {e : TypeId} {v : Value} {xs : List α} {F : List Nat} (h : SliceM d e w v xs F) : ∀ b ∈ F, b < w.heap.size := by
  rcases h with ⟨_, _, rfl⟩ | ⟨b, cap, cur, css, Fs, _, _, _, hh, _, _, ha, rfl⟩
  · simp
  · intro k hk
    rcases List.mem_cons.1 hk with rfl | hk
    · exact (Array.getElem?_eq_some_iff.1 hh).1
    · obtain ⟨G, hG, hkG⟩ := List.mem_flatten.1 hk
      obtain ⟨j, hj⟩ := List.getElem?_of_mem hG
      have hl := ha.len
      have hjl : j < xs.length := by have := (List.getElem?_eq_some_iff.1 hj).1; omega
      obtain ⟨y, z, _, hz, hm⟩ := ha.get j xs[j] (List.getElem?_eq_getElem hjl)
      rw [hj] at hz
      cases hz
      exact d.M_lt hm k hkG
theorem SliceM.move {e : TypeId} {v : Value} {xs : List α} {F : List Nat} (hm : ∀ b ∈ F, w'.heap[b]? = w.heap[b]?) (h : SliceM d e w v xs F) : SliceM d e w' v xs F := by
  rcases h with h | ⟨b, cap, cur, css, Fs, hv, h1, h2, hh, h3, h4, ha, rfl⟩
  · exact .inl h
  · refine .inr ⟨b, cap, cur, css, Fs, hv, h1, h2, ?_, h3, h4, ?_, rfl⟩
    · rw [hm b List.mem_cons_self, hh]
    · exact ha.imp fun x y z hz hx => d.M_move (fun k hk => hm k (List.mem_cons_of_mem _ (List.mem_flatten.2 ⟨z, hz, hk⟩))) hx
theorem flatten_get {n : Nat} : ∀ (css : List (List Value)), (∀ c ∈ css, c.length = n) → ∀ (j : Nat) (cs : List Value), css[j]? = some cs → ∀ (i : Nat) (u : Value), cs[i]? = some u → css.flatten[j * n + i]? = some u
  | [], _, j, cs, hj, _, _, _ => by simp at hj
  | c :: css, hl, j, cs, hj, i, u, hi => by
    have hc : c.length = n := hl c List.mem_cons_self
    cases j with
    | zero =>
      simp at hj; subst hj
      rw [List.flatten_cons, Nat.zero_mul, Nat.zero_add, List.getElem?_append_left (List.getElem?_eq_some_iff.1 hi).1]
      exact hi
    | succ j =>
      have := flatten_get css (fun c hc => hl c (List.mem_cons_of_mem _ hc)) j cs (by simpa using hj) i u hi
      rw [List.flatten_cons, List.getElem?_append_right (by rw [hc, Nat.add_mul]; omega), hc]
      rw [← this]
      congr 1
      rw [Nat.add_mul]; omega
theorem All3.lens {xs : List α} {css : List (List Value)} {Fs : List (List Nat)} (ha : All3 (d.M w) xs css Fs) : ∀ c ∈ css, c.length = d.sz := by
  induction ha with
  | nil => simp
  | cons h t ih =>
    intro c hc
    rcases List.mem_cons.1 hc with rfl | hc
    · exact d.K_len (d.M_K h)
    · exact ih c hc
theorem flat_len {n : Nat} : ∀ (css : List (List Value)), (∀ c ∈ css, c.length = n) → css.flatten.length = css.length * n
  | [], _ => by simp
  | c :: css, h => by
    rw [List.flatten_cons, List.length_append, h c List.mem_cons_self, flat_len css (fun x hx => h x (List.mem_cons_of_mem _ hx)), List.length_cons, Nat.add_mul]; omega
theorem SliceM.toK {e : TypeId} {v : Value} {xs : List α} {F : List Nat} (h : SliceM d e w v xs F) : SliceK d w v xs := by
  rcases h with ⟨rfl, rfl, _⟩ | ⟨b, cap, cur, css, Fs, hv, h1, h2, hh, h3, h4, ha, _⟩
  · exact SliceK.nil d w
  · refine ⟨_, _, hv, h1, h2, .inr ⟨b, 0, rfl, fun j x hj => ?_⟩⟩
    obtain ⟨cs, F, hcs, _, hm⟩ := ha.get j x hj
    refine ⟨cs, d.M_K hm, fun i u hi => ?_⟩
    have hf := flatten_get css ha.lens j cs hcs i u hi
    rw [← h4, List.getElem?_take] at hf
    split at hf
    · have : w.cell? ⟨b, 0 + j * d.sz + i, none⟩ = cur[0 + j * d.sz + i]? := by
        simp [World.cell?, hh]
      rw [this, Nat.zero_add, ← Array.getElem?_toList]
      exact hf
    · cases hf
end

/-- A value of fixed cells. -/
def Dt.flat {α : Type} (n : Nat) (enc : α → List Value) (hl : ∀ x, (enc x).length = n) (h1 : ∀ x, ∀ u ∈ enc x, u.oneCell' = true) : Dt α where
  sz := n
  K := fun _ x cs => cs = enc x
  M := fun _ x cs F => cs = enc x ∧ F = []
  K_len := by rintro w x cs rfl; exact hl x
  K_one := by rintro w x cs rfl; exact h1 x
  K_below := by rintro w w' x cs _ h; exact h
  M_K := by rintro w x cs F ⟨h, _⟩; exact h
  M_lt := by rintro w x cs F ⟨_, rfl⟩; simp
  M_move := by rintro w w' x cs F _ h; exact h
def Dt.slice {α : Type} (e : TypeId) (d : Dt α) : Dt (List α) where
  sz := 1
  K := fun w xs cs => ∃ v, cs = [v] ∧ SliceK d w v xs
  M := fun w xs cs F => ∃ v, cs = [v] ∧ SliceM d e w v xs F
  K_len := by rintro w x cs ⟨v, rfl, _⟩; rfl
  K_one := by
    rintro w x cs ⟨v, rfl, A, c, rfl, _⟩ u hu
    rw [List.mem_singleton.1 hu]; rfl
  K_below := by rintro w w' x cs hb ⟨v, rfl, h⟩; exact ⟨v, rfl, h.below hb⟩
  M_K := by rintro w x cs F ⟨v, rfl, h⟩; exact ⟨v, rfl, h.toK⟩
  M_lt := by rintro w x cs F ⟨v, rfl, h⟩; exact h.lt
  M_move := by rintro w w' x cs F hm ⟨v, rfl, h⟩; exact ⟨v, rfl, h.move hm⟩
def Dt.pair {α β : Type} (a : Dt α) (b : Dt β) : Dt (α × β) where
  sz := a.sz + b.sz
  K := fun w x cs => ∃ c0 c1, cs = c0 ++ c1 ∧ a.K w x.1 c0 ∧ b.K w x.2 c1
  M := fun w x cs F => ∃ c0 c1 F0 F1, cs = c0 ++ c1 ∧ F = F0 ++ F1 ∧ a.M w x.1 c0 F0 ∧ b.M w x.2 c1 F1
  K_len := by rintro w x cs ⟨c0, c1, rfl, h0, h1⟩; simp [a.K_len h0, b.K_len h1]
  K_one := by
    rintro w x cs ⟨c0, c1, rfl, h0, h1⟩ u hu
    rcases List.mem_append.1 hu with hu | hu
    · exact a.K_one h0 u hu
    · exact b.K_one h1 u hu
  K_below := by rintro w w' x cs hb ⟨c0, c1, rfl, h0, h1⟩; exact ⟨c0, c1, rfl, a.K_below hb h0, b.K_below hb h1⟩
  M_K := by rintro w x cs F ⟨c0, c1, F0, F1, rfl, rfl, h0, h1⟩; exact ⟨c0, c1, rfl, a.M_K h0, b.M_K h1⟩
  M_lt := by
    rintro w x cs F ⟨c0, c1, F0, F1, rfl, rfl, h0, h1⟩ k hk
    rcases List.mem_append.1 hk with hk | hk
    · exact a.M_lt h0 k hk
    · exact b.M_lt h1 k hk
  M_move := by
    rintro w w' x cs F hm ⟨c0, c1, F0, F1, rfl, rfl, h0, h1⟩
    exact ⟨c0, c1, F0, F1, rfl, rfl, a.M_move (fun k hk => hm k (List.mem_append.2 (.inl hk))) h0, b.M_move (fun k hk => hm k (List.mem_append.2 (.inr hk))) h1⟩
/-- Two runs of cells of one value. -/
def Dt.cat {α : Type} (a b : Dt α) : Dt α where
  sz := a.sz + b.sz
  K := fun w x cs => ∃ c0 c1, cs = c0 ++ c1 ∧ a.K w x c0 ∧ b.K w x c1
  M := fun w x cs F => ∃ c0 c1 F0 F1, cs = c0 ++ c1 ∧ F = F0 ++ F1 ∧ a.M w x c0 F0 ∧ b.M w x c1 F1
  K_len := by rintro w x cs ⟨c0, c1, rfl, h0, h1⟩; simp [a.K_len h0, b.K_len h1]
  K_one := by
    rintro w x cs ⟨c0, c1, rfl, h0, h1⟩ u hu
    rcases List.mem_append.1 hu with hu | hu
    · exact a.K_one h0 u hu
    · exact b.K_one h1 u hu
  K_below := by rintro w w' x cs hb ⟨c0, c1, rfl, h0, h1⟩; exact ⟨c0, c1, rfl, a.K_below hb h0, b.K_below hb h1⟩
  M_K := by rintro w x cs F ⟨c0, c1, F0, F1, rfl, rfl, h0, h1⟩; exact ⟨c0, c1, rfl, a.M_K h0, b.M_K h1⟩
  M_lt := by
    rintro w x cs F ⟨c0, c1, F0, F1, rfl, rfl, h0, h1⟩ k hk
    rcases List.mem_append.1 hk with hk | hk
    · exact a.M_lt h0 k hk
    · exact b.M_lt h1 k hk
  M_move := by
    rintro w w' x cs F hm ⟨c0, c1, F0, F1, rfl, rfl, h0, h1⟩
    exact ⟨c0, c1, F0, F1, rfl, rfl, a.M_move (fun k hk => hm k (List.mem_append.2 (.inl hk))) h0, b.M_move (fun k hk => hm k (List.mem_append.2 (.inr hk))) h1⟩
def Dt.iso {α β : Type} (d : Dt α) (f : β → α) : Dt β where
  sz := d.sz
  K := fun w x cs => d.K w (f x) cs
  M := fun w x cs F => d.M w (f x) cs F
  K_len := d.K_len
  K_one := d.K_one
  K_below := d.K_below
  M_K := d.M_K
  M_lt := d.M_lt
  M_move := d.M_move
/-- A whole number, a string. -/
def intD : Dt Int := Dt.flat 1 (fun x : Int => [.int .i64 x]) (fun _ => rfl) (fun x u hu => by simp at hu; subst hu; rfl)
def strD : Dt ByteArray := Dt.flat 1 (fun x : ByteArray => [.string x]) (fun _ => rfl) (fun x u hu => by simp at hu; subst hu; rfl)
theorem int_at {w W : World} {b o j : Nat} {xs : List Int} {x : Int} (h : RowAt intD w b o xs) (hb : Below w.heap.size w W) (hj : xs[j]? = some x) : b < W.heap.size ∧ W.cell? ⟨b, o + j, none⟩ = some (.int .i64 x) := by
  obtain ⟨cs, hk, hc⟩ := (h.below hb) j x hj
  obtain rfl : cs = [.int .i64 x] := hk
  have hc : ∀ i u, ([.int .i64 x] : List Value)[i]? = some u → W.cell? ⟨b, o + j * 1 + i, none⟩ = some u := hc
  exact ⟨World.block_lt_of_cell? W _ (hc 0 _ rfl), by have := hc 0 _ rfl; rwa [Nat.mul_one, Nat.add_zero] at this⟩
theorem str_at {w W : World} {b o j : Nat} {xs : List ByteArray} {x : ByteArray} (h : RowAt strD w b o xs) (hb : Below w.heap.size w W) (hj : xs[j]? = some x) : b < W.heap.size ∧ W.cell? ⟨b, o + j, none⟩ = some (.string x) := by
  obtain ⟨cs, hk, hc⟩ := (h.below hb) j x hj
  obtain rfl : cs = [.string x] := hk
  have hc : ∀ i u, ([.string x] : List Value)[i]? = some u → W.cell? ⟨b, o + j * 1 + i, none⟩ = some u := hc
  exact ⟨World.block_lt_of_cell? W _ (hc 0 _ rfl), by have := hc 0 _ rfl; rwa [Nat.mul_one, Nat.add_zero] at this⟩

/-! ### rows of flat values -/
section
variable {α : Type} {n : Nat} {enc : α → List Value} {hl : ∀ x, (enc x).length = n} {h1 : ∀ x, ∀ u ∈ enc x, u.oneCell' = true} {w w' : World}
theorem All3.flat : ∀ (xs : List α), All3 ((Dt.flat n enc hl h1).M w) xs (xs.map enc) (xs.map fun _ => [])
  | [] => .nil
  | x :: xs => .cons ⟨rfl, rfl⟩ (All3.flat xs)
theorem All3.of_flat {xs : List α} {css : List (List Value)} {Fs : List (List Nat)} (h : All3 ((Dt.flat n enc hl h1).M w) xs css Fs) : css = xs.map enc ∧ Fs.flatten = [] := by
  induction h with
  | nil => exact ⟨rfl, rfl⟩
  | cons h t ih => obtain ⟨rfl, rfl⟩ := h; exact ⟨by simp [ih.1], by simp [ih.2]⟩
theorem flatten_nils : ∀ (xs : List α), (xs.map fun _ => ([] : List Nat)).flatten = []
  | [] => rfl
  | _ :: xs => by rw [List.map_cons, List.flatten_cons, flatten_nils xs]; rfl
/-- An owned row of flat values, opened: nil, or one block. -/
theorem flat_M {e : TypeId} {v : Value} {xs : List α} {F : List Nat} (h : SliceM (Dt.flat n enc hl h1) e w v xs F) :
    (v = .slice none 0 0 ∧ xs = [] ∧ F = []) ∨ ∃ b cap cur, v = .slice (some ⟨b, 0, none⟩) xs.length cap ∧ xs.length ≤ cap ∧ cap ≤ 9223372036854775807 ∧
      w.heap[b]? = some (.cells cur e (0, 0)) ∧ cur.size = cap * n ∧ cur.toList.take (xs.length * n) = (xs.map enc).flatten ∧ F = [b] := by
  rcases h with h | ⟨b, cap, cur, css, Fs, hv, h2, h3, hh, h4, h5, ha, rfl⟩
  · exact .inl h
  · obtain ⟨rfl, h6⟩ := All3.of_flat ha
    exact .inr ⟨b, cap, cur, hv, h2, h3, hh, h4, h5, by rw [h6]⟩
theorem flat_M_mk {e : TypeId} {xs : List α} {b cap : Nat} {cur : Array Value} (h2 : xs.length ≤ cap) (h3 : cap ≤ 9223372036854775807) (hh : w.heap[b]? = some (.cells cur e (0, 0)))
    (h4 : cur.size = cap * n) (h5 : cur.toList.take (xs.length * n) = (xs.map enc).flatten) : SliceM (Dt.flat n enc hl h1) e w (.slice (some ⟨b, 0, none⟩) xs.length cap) xs [b] :=
  .inr ⟨b, cap, cur, _, _, rfl, h2, h3, hh, h4, h5, All3.flat xs, by rw [flatten_nils]⟩
end
theorem setCell_block (w : World) (b o : Nat) (u : Value) {cur : Array Value} {e : TypeId} (hh : w.heap[b]? = some (.cells cur e (0, 0))) :
    (w.setCell ⟨b, o, none⟩ u).heap[b]? = some (.cells (cur.setIfInBounds o u) e (0, 0)) := by
  simp [World.setCell, Array.getElem?_modify, hh]
theorem alloc_new (w : World) (o : Obj) : (w.alloc o).heap[w.heap.size]? = some o := by unfold World.alloc; simp
theorem alloc_old (w : World) (o : Obj) {b : Nat} (h : b < w.heap.size) : (w.alloc o).heap[b]? = w.heap[b]? := Below.heap_alloc w o b h
theorem block_lt {w : World} {b : Nat} {o : Obj} (h : w.heap[b]? = some o) : b < w.heap.size := (Array.getElem?_eq_some_iff.1 h).1
theorem cell_block {w : World} {b o : Nat} {cur : Array Value} {e : TypeId} {fz : Nat × Nat} (hh : w.heap[b]? = some (.cells cur e fz)) : w.cell? ⟨b, o, none⟩ = cur[o]? := by simp [World.cell?, hh]
theorem frozen_block {w : World} {b o : Nat} {cur : Array Value} {e : TypeId} (hh : w.heap[b]? = some (.cells cur e (0, 0))) : w.frozen? ⟨b, o, none⟩ = false := by simp [World.frozen?, hh]
/-- What was made behind w. -/
def Made {α : Type} (d : Dt α) (e : TypeId) (w w' : World) (v : Value) (xs : List α) : Prop := ∃ F, SliceM d e w' v xs F ∧ F.Nodup ∧ ∀ b ∈ F, w.heap.size ≤ b
/-- A returned row that was made behind w; nothing else has turned. -/
def RetMade {α : Type} (d : Dt α) (e : TypeId) (w : World) (xs : List α) (r : Ending) (w' : World) : Prop := ∃ v, r = .returned v ∧ Made d e w w' v xs ∧ Below w.heap.size w w'

/-! ### make -/
/-- n cells of zero values. -/
def mkRow (z : Value) (n : Nat) : Array Value := madeCells z.cells n
theorem size_mkRow (z : Value) (n : Nat) : (mkRow z n).size = n := size_madeCells _ _
theorem run_mk {P : Program} (t e : TypeId) (z : Value) (sz bytes : Nat) (ht : P.underlying t = some (.slice e)) (hinfo : (P.info? e).map (fun i => (i.zero, i.size, i.bytes)) = some (some z, sz, bytes))
    (n : Nat) (h : bytes * n ≤ 281474976710656) (h63 : n ≤ 9223372036854775807) (W : World) :
    (Instr.makeSlice t (.int .i64 (n : Int)) (.int .i64 (n : Int))).run P W = .ok (.slice (some ⟨W.heap.size, 0, none⟩) n n) (W.alloc (.cells (mkRow z (n * sz)) e)) := by
  obtain ⟨i, hi, hz, hs, hb⟩ := info_parts hinfo
  have hb' : (i.bytes : Int) * (n : Int) ≤ 281474976710656 := by
    have h2 : ((i.bytes * n : Nat) : Int) ≤ 281474976710656 := by rw [hb]; omega
    rwa [Int.natCast_mul] at h2
  have hr := run_make (P := P) W t e i z ht hi hz .i64 .i64 n n (by omega) (by omega) hb' (by omega)
  simp only [Int.toNat_natCast, hs] at hr
  exact hr
theorem SliceK.shape {α : Type} {d : Dt α} {w : World} {v : Value} {xs : List α} (h : SliceK d w v xs) : ∃ A c, v = .slice A xs.length c := by
  obtain ⟨A, c, rfl, _⟩ := h; exact ⟨A, c, rfl⟩
theorem Made.shape {α : Type} {d : Dt α} {e : TypeId} {w w' : World} {v : Value} {xs : List α} (h : Made d e w w' v xs) : ∃ A c, v = .slice A xs.length c := by
  obtain ⟨F, h, _⟩ := h; exact h.toK.shape
/-- A returned struct that was made behind w; nothing else has turned. -/
def RetElem {α : Type} (d : Dt α) (w : World) (x : α) (r : Ending) (w' : World) : Prop :=
  ∃ cs F, r = .returned (.agg cs.toArray) ∧ d.M w' x cs F ∧ F.Nodup ∧ (∀ b ∈ F, w.heap.size ≤ b) ∧ Below w.heap.size w w'
theorem Made.keep {α : Type} {d : Dt α} {e : TypeId} {W w1 w2 : World} {v : Value} {xs : List α} {G : List Nat} (h : Made d e W w1 v xs) (hc : Chg G w1 w2) (hG : ∀ g ∈ G, g < W.heap.size) : Made d e W w2 v xs := by
  obtain ⟨F, hm, hn, hF⟩ := h
  refine ⟨F, hm.move fun b hb => hc.block b (hm.lt b hb) fun hg => ?_, hn, hF⟩
  have := hG b hg; have := hF b hb; omega
theorem Made.lower {α : Type} {d : Dt α} {e : TypeId} {W W0 w1 : World} {v : Value} {xs : List α} (h : Made d e W w1 v xs) (hs : W0.heap.size ≤ W.heap.size) : Made d e W0 w1 v xs := by
  obtain ⟨F, hm, hn, hF⟩ := h
  exact ⟨F, hm, hn, fun b hb => Nat.le_trans hs (hF b hb)⟩

/-! ### quiet calls -/
theorem quiet_left {P : Program} {f : FuncId} {args : Array Value} {w : World} {n : Nat} {v : Value}
    (h : Calls P f args (w.drewN n) fun e w' => e = .returned v ∧ w.drewN n = w') : Calls P f args (w.drewN n) fun e w'' => e = .returned v ∧ ∃ m, w'' = w.drewN m :=
  h.mono fun _ _ ⟨he, hm⟩ => ⟨he, n, hm.symm⟩
theorem quiet_add_left {P : Program} {f : FuncId} {args : Array Value} {w : World} {a n : Nat} {v : Value}
    (h : Calls P f args (w.drewN (a + n)) fun e w' => e = .returned v ∧ w.drewN (a + n) = w') :
    Calls P f args (w.drewN (a + n)) fun e w'' => e = .returned v ∧ ∃ m, w'' = w.drewN (a + m) :=
  h.mono fun _ _ ⟨he, hm⟩ => ⟨he, n, hm.symm⟩
end Go.Proofs.Ytccgjnanphonnaa
