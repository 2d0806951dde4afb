/- Words for how data lie in memory, over any program: readable rows, owned rows, what a call may turn. Owned rows, element by element: what an element's cells are, and the row behind a change of one element. The laws' own helpers on lists of whole numbers: size, copy, equality, marks. The laws' own helper markText: the letter m and a number's digits. Numbers, texts and sets: the smallest functions of the program and of the reference. Regions that draw their order, read what was there, and call what only allocates: one walk serves every order. Sets: rising numbers. A struct behind a pointer: a row of one. append, onto a row that a call owns. The first place where something holds. One element of an owned row is changed. Rows of numbers of a call's own. Rows of flat structs: a whole row is appended. What comes from without, read as plain data. Words for the walks of the laws: boxes, and data that keep through a step. A struct in a box of a call's own, and what a function value does with it; a copy of a row of flat structs. What is known of the memory behind a world: pieces that lie apart. append, told by what is known of the memory. One element of an owned row of flat structs is read or changed. What slices.DeleteFunc does, in plain lists; a returned row. -/
import Derived.WalkKit
import Derived.KernelRfl
import Derived.Below
import Derived.Deep.QuietTactic
import Derived.BigQuiet
import Derived.Deep.LoopGhost
import Derived.OwnWalk
import Derived.Laws.AppendOwn
import Derived.Laws.Slices
import Derived.Laws.Cells
import Derived.Laws.MakeOwn
import Derived.Test.YtglhepbcbildpaaProg
import Derived.Laws.IdiomStrings
import Derived.Shelf.Abstract
import Derived.Deep.AppendLies
import Derived.Lib.SliceRun
import Derived.Deep.Slices
import Derived.Deep.Fields
import Derived.ChangeSame
import Derived.Deep.RegionWith
namespace Go.Proofs.Ytglhepbcbildpaa
open Go Go.RowKit
set_option linter.unusedVariables false

theorem hide {p : Prop} (h : p) : Hid p := h

/-- The blocks of F may have turned; all else of w lies as it was. -/
structure Chg (F : List Nat) (w w' : World) : Prop where
  os : w'.os = w.os
  tape : w'.tape = w.tape
  output : w'.output = w.output
  size : w.heap.size ≤ w'.heap.size
  block : ∀ k, k < w.heap.size → k ∉ F → w'.heap[k]? = w.heap[k]?

theorem Chg.below {F : List Nat} {w w' : World} (h : Chg F w w') {B : Nat} (hB : B ≤ w.heap.size) (hF : ∀ k ∈ F, B ≤ k) : Below B w w' :=
  ⟨h.os, h.tape, h.output, h.size, fun k hk => h.block k (by omega) (fun hm => by have := hF k hm; omega)⟩
theorem Chg.of_below {w w' : World} (h : Below w.heap.size w w') (F : List Nat) : Chg F w w' := ⟨h.os, h.tape, h.output, h.size, fun k hk _ => h.block k hk⟩
theorem Chg.refl (F : List Nat) (w : World) : Chg F w w := .of_below (.refl _ _) F
theorem Chg.trans {F : List Nat} {a b c : World} (h : Chg F a b) (k : Chg F b c) : Chg F a c :=
  ⟨k.os.trans h.os, k.tape.trans h.tape, k.output.trans h.output, Nat.le_trans h.size k.size, fun i hi hn => (k.block i (Nat.lt_of_lt_of_le hi h.size) hn).trans (h.block i hi hn)⟩
theorem Chg.mono {F G : List Nat} {w w' : World} (h : Chg F w w') (hs : ∀ k ∈ F, k ∈ G ∨ w.heap.size ≤ k) : Chg G w w' :=
  ⟨h.os, h.tape, h.output, h.size, fun k hk hn => h.block k hk (fun hm => by rcases hs k hm with h1 | h1; exact hn h1; omega)⟩
theorem Chg.alloc {F : List Nat} {a w : World} (h : Chg F a w) (o : Obj) : Chg F a (w.alloc o) :=
  h.trans (.of_below ((Below.refl _ _).alloc (Nat.le_refl _) o) F)
theorem Chg.drew {F : List Nat} {a w : World} (h : Chg F a w) : Chg F a w.drew := ⟨h.os, h.tape, h.output, h.size, h.block⟩
theorem Chg.drewN {F : List Nat} {a w : World} (h : Chg F a w) (n : Nat) : Chg F a (w.drewN n) := ⟨h.os, h.tape, h.output, h.size, h.block⟩
theorem Chg.setCell {F : List Nat} {a w : World} (h : Chg F a w) {p : Addr} (hp : p.block ∈ F ∨ a.heap.size ≤ p.block) (u : Value) : Chg F a (w.setCell p u) :=
  ⟨h.os, h.tape, h.output, by simpa using h.size, fun k hk hn => (Below.heap_setCell w p u k (by
    rintro rfl
    rcases hp with hp | hp
    · exact hn hp
    · omega)).trans (h.block k hk hn)⟩
theorem Chg.then {F : List Nat} {a b c : World} (h : Chg F a b) (k : Below b.heap.size b c) : Chg F a c := h.trans (.of_below k F)
theorem Chg.grown {F : List Nat} {a b c : World} (h : Chg F a b) {row : Option Nat} (k : b.grownBy c row) (hr : ∀ x, row = some x → x ∈ F ∨ a.heap.size ≤ x) : Chg F a c :=
  ⟨k.os.trans h.os, k.tape.trans h.tape, k.output.trans h.output, Nat.le_trans h.size k.size, fun i hi hn => (k.block i (Nat.lt_of_lt_of_le hi h.size) (by
    intro e
    rcases hr i e.symm with h1 | h1
    · exact hn h1
    · omega)).trans (h.block i hi hn)⟩

theorem below_drewN {B : Nat} {a w : World} (h : Below B a w) (n : Nat) : Below B a (w.drewN n) := ⟨h.os, h.tape, h.output, h.size, h.block⟩
theorem below_step {w w1 w2 : World} (h : Below w.heap.size w w1) (k : Below w1.heap.size w1 w2) : Below w.heap.size w w2 := h.trans (k.mono h.size)
/-- The rules that a walk takes behind a call that leaves what was there. -/
theorem bcell {W w1 : World} (hb : Below W.heap.size W w1) :
    (∀ b o, b < W.heap.size → w1.cell? ⟨b, o, none⟩ = W.cell? ⟨b, o, none⟩) ∧ (∀ b o, b < W.heap.size → w1.frozen? ⟨b, o, none⟩ = W.frozen? ⟨b, o, none⟩) ∧ W.heap.size ≤ w1.heap.size :=
  ⟨fun b o h => hb.cell (p := ⟨b, o, none⟩) h, fun b o h => hb.frozen (p := ⟨b, o, none⟩) h, hb.size⟩
theorem cell_below {w w1 : World} (h : Below w.heap.size w w1) {a : Addr} {v : Value} (hc : w.cell? a = some v) : w1.cell? a = some v :=
  (h.cell (World.block_lt_of_cell? w _ hc)).trans hc

/-! ### three lists side by side -/
inductive All3 {α β γ : Type} (R : α → β → γ → Prop) : List α → List β → List γ → Prop
  | nil : All3 R [] [] []
  | cons {x : α} {y : β} {z : γ} {xs : List α} {ys : List β} {zs : List γ} (h : R x y z) (t : All3 R xs ys zs) : All3 R (x :: xs) (y :: ys) (z :: zs)

section
variable {α β γ : Type} {R R' : α → β → γ → Prop} {xs : List α} {ys : List β} {zs : List γ}
theorem All3.len (h : All3 R xs ys zs) : ys.length = xs.length ∧ zs.length = xs.length := by
  induction h with
  | nil => exact ⟨rfl, rfl⟩
  | cons _ _ ih => exact ⟨by simp [ih.1], by simp [ih.2]⟩
theorem All3.imp (h : All3 R xs ys zs) (f : ∀ x y z, z ∈ zs → R x y z → R' x y z) : All3 R' xs ys zs := by
  induction h with
  | nil => exact .nil
  | cons h t ih => exact .cons (f _ _ _ List.mem_cons_self h) (ih fun x y z hz => f x y z (List.mem_cons_of_mem _ hz))
theorem All3.get (h : All3 R xs ys zs) : ∀ (j : Nat) (x : α), xs[j]? = some x → ∃ y z, ys[j]? = some y ∧ zs[j]? = some z ∧ R x y z := by
  induction h with
  | nil => intro j x hj; simp at hj
  | cons h t ih =>
    intro j x hj
    cases j with
    | zero => simp at hj; subst hj; exact ⟨_, _, rfl, rfl, h⟩
    | succ j => simpa using ih j x (by simpa using hj)
theorem All3.snoc (h : All3 R xs ys zs) {x : α} {y : β} {z : γ} (hr : R x y z) : All3 R (xs ++ [x]) (ys ++ [y]) (zs ++ [z]) := by
  induction h with
  | nil => exact .cons hr .nil
  | cons h t ih => exact .cons h ih
theorem All3.append (h : All3 R xs ys zs) {xs' : List α} {ys' : List β} {zs' : List γ} (h' : All3 R xs' ys' zs') : All3 R (xs ++ xs') (ys ++ ys') (zs ++ zs') := by
  induction h with
  | nil => exact h'
  | cons h t ih => exact .cons h ih
theorem All3.take (h : All3 R xs ys zs) (n : Nat) : All3 R (xs.take n) (ys.take n) (zs.take n) := by
  induction h generalizing n with
  | nil => simpa using All3.nil
  | cons h t ih =>
    cases n with
    | zero => exact .nil
    | succ n => exact .cons h (ih n)
theorem All3.drop (h : All3 R xs ys zs) (n : Nat) : All3 R (xs.drop n) (ys.drop n) (zs.drop n) := by
  induction h generalizing n with
  | nil => simpa using All3.nil
  | cons h t ih =>
    cases n with
    | zero => exact .cons h t
    | succ n => exact ih n
theorem All3.set (h : All3 R xs ys zs) {j : Nat} {x : α} {y : β} {z : γ} (hr : R x y z) : All3 R (xs.set j x) (ys.set j y) (zs.set j z) := by
  induction h generalizing j with
  | nil => exact .nil
  | cons h t ih =>
    cases j with
    | zero => exact .cons hr t
    | succ j => exact .cons h ih
end

/-! ### kinds -/
/-- How an α lies in cells: K: to be read; M: owned, with the list of its blocks. -/
structure Dt (α : Type) where
  sz : Nat
  K : World → α → List Value → Prop
  M : World → α → List Value → List Nat → Prop
  K_len : ∀ {w x cs}, K w x cs → cs.length = sz
  K_one : ∀ {w x cs}, K w x cs → ∀ u ∈ cs, u.oneCell' = true
  K_below : ∀ {w w' : World} {x cs}, Below w.heap.size w w' → K w x cs → K w' x cs
  M_K : ∀ {w x cs F}, M w x cs F → K w x cs
  M_lt : ∀ {w x cs F}, M w x cs F → ∀ b ∈ F, b < w.heap.size
  M_move : ∀ {w w' : World} {x cs F}, (∀ b ∈ F, w'.heap[b]? = w.heap[b]?) → M w x cs F → M w' x cs F

/-- A row of elements that is read: from offset o of block b on. -/
def RowAt {α : Type} (d : Dt α) (w : World) (b o : Nat) (xs : List α) : Prop :=
  ∀ j x, xs[j]? = some x → ∃ cs, d.K w x cs ∧ ∀ i u, cs[i]? = some u → w.cell? ⟨b, o + j * d.sz + i, none⟩ = some u

def SliceK {α : Type} (d : Dt α) (w : World) (v : Value) (xs : List α) : Prop :=
  ∃ A c, v = .slice A xs.length c ∧ xs.length ≤ c ∧ c ≤ 9223372036854775807 ∧ (xs = [] ∨ ∃ b o, A = some ⟨b, o, none⟩ ∧ RowAt d w b o xs)

def SliceM {α : Type} (d : Dt α) (e : TypeId) (w : World) (v : Value) (xs : List α) (F : List Nat) : Prop :=
  (v = .slice none 0 0 ∧ xs = [] ∧ F = []) ∨
  ∃ b cap cur css Fs, v = .slice (some ⟨b, 0, none⟩) xs.length cap ∧ xs.length ≤ cap ∧ cap ≤ 9223372036854775807 ∧ w.heap[b]? = some (.cells cur e (0, 0)) ∧
    cur.size = cap * d.sz ∧ cur.toList.take (xs.length * d.sz) = css.flatten ∧ All3 (d.M w) xs css Fs ∧ F = b :: Fs.flatten

section
variable {α : Type} {d : Dt α} {w w' : World}
theorem RowAt.below {b o : Nat} {xs : List α} (h : RowAt d w b o xs) (hb : Below w.heap.size w w') : RowAt d w' b o xs := by
  intro j x hj
  obtain ⟨cs, hk, hc⟩ := h j x hj
  exact ⟨cs, d.K_below hb hk, fun i u hi => cell_below hb (hc i u hi)⟩
theorem RowAt.drop {b o : Nat} {xs : List α} (h : RowAt d w b o xs) (n : Nat) : RowAt d w b (o + n * d.sz) (xs.drop n) := by
  intro j x hj
  rw [List.getElem?_drop] at hj
  obtain ⟨cs, hk, hc⟩ := h (n + j) x hj
  refine ⟨cs, hk, fun i u hi => ?_⟩
  rw [← hc i u hi, Nat.add_mul, Nat.add_assoc o]
theorem RowAt.take {b o : Nat} {xs : List α} (h : RowAt d w b o xs) (n : Nat) : RowAt d w b o (xs.take n) := by
  intro j x hj
  refine h j x ?_
  rw [List.getElem?_take] at hj
  split at hj
  · exact hj
  · cases hj
theorem SliceK.below {v : Value} {xs : List α} (hb : Below w.heap.size w w') (h : SliceK d w v xs) : SliceK d w' v xs := by
  obtain ⟨A, c, hv, hl, hm, h⟩ := h
  refine ⟨A, c, hv, hl, hm, ?_⟩
  rcases h with h | ⟨b, o, hA, h⟩
  · exact .inl h
  · exact .inr ⟨b, o, hA, h.below hb⟩
theorem SliceK.nil (d : Dt α) (w : World) : SliceK d w (.slice none 0 0) [] := ⟨none, 0, rfl, Nat.le_refl _, by decide, .inl rfl⟩
theorem SliceK.len {v : Value} {xs : List α} (h : SliceK d w v xs) : xs.length ≤ 9223372036854775807 := by
  obtain ⟨A, c, _, hl, hm, _⟩ := h; omega
theorem SliceM.lt {e : TypeId} {v : Value} {xs : List α} {F : List Nat} (h : SliceM d e w v xs F) : ∀ b ∈ F, b < w.heap.size := by
  rcases h with ⟨_, _, rfl⟩ | ⟨b, cap, cur, css, Fs, _, _, _, hh, _, _, ha, rfl⟩
  · simp
  · intro k hk
    rcases List.mem_cons.1 hk with rfl | hk
    · exact (Array.getElem?_eq_some_iff.1 hh).1
    · obtain ⟨G, hG, hkG⟩ := List.mem_flatten.1 hk
      obtain ⟨j, hj⟩ := List.getElem?_of_mem hG
      have hl := ha.len
      have hjl : j < xs.length := by have := (List.getElem?_eq_some_iff.1 hj).1; omega
      obtain ⟨y, z, _, hz, hm⟩ := ha.get j xs[j] (List.getElem?_eq_getElem hjl)
      rw [hj] at hz
      cases hz
      exact d.M_lt hm k hkG
theorem SliceM.move {e : TypeId} {v : Value} {xs : List α} {F : List Nat} (hm : ∀ b ∈ F, w'.heap[b]? = w.heap[b]?) (h : SliceM d e w v xs F) : SliceM d e w' v xs F := by
  rcases h with h | ⟨b, cap, cur, css, Fs, hv, h1, h2, hh, h3, h4, ha, rfl⟩
  · exact .inl h
  · refine .inr ⟨b, cap, cur, css, Fs, hv, h1, h2, ?_, h3, h4, ?_, rfl⟩
    · rw [hm b List.mem_cons_self, hh]
    · exact ha.imp fun x y z hz hx => d.M_move (fun k hk => hm k (List.mem_cons_of_mem _ (List.mem_flatten.2 ⟨z, hz, hk⟩))) hx
theorem flatten_get {n : Nat} : ∀ (css : List (List Value)), (∀ c ∈ css, c.length = n) → ∀ (j : Nat) (cs : List Value), css[j]? = some cs → ∀ (i : Nat) (u : Value), cs[i]? = some u → css.flatten[j * n + i]? = some u
  | [], _, j, cs, hj, _, _, _ => by simp at hj
  | c :: css, hl, j, cs, hj, i, u, hi => by
    have hc : c.length = n := hl c List.mem_cons_self
    cases j with
    | zero =>
      simp at hj; subst hj
      rw [List.flatten_cons, Nat.zero_mul, Nat.zero_add, List.getElem?_append_left (List.getElem?_eq_some_iff.1 hi).1]
      exact hi
    | succ j =>
      have := flatten_get css (fun c hc => hl c (List.mem_cons_of_mem _ hc)) j cs (by simpa using hj) i u hi
      rw [List.flatten_cons, List.getElem?_append_right (by rw [hc, Nat.add_mul]; omega), hc]
      rw [← this]
      congr 1
      rw [Nat.add_mul]; omega
theorem All3.lens {xs : List α} {css : List (List Value)} {Fs : List (List Nat)} (ha : All3 (d.M w) xs css Fs) : ∀ c ∈ css, c.length = d.sz := by
  induction ha with
  | nil => simp
  | cons h t ih =>
    intro c hc
    rcases List.mem_cons.1 hc with rfl | hc
    · exact d.K_len (d.M_K h)
    · exact ih c hc
theorem flat_len {n : Nat} : ∀ (css : List (List Value)), (∀ c ∈ css, c.length = n) → css.flatten.length = css.length * n
  | [], _ => by simp
  | c :: css, h => by
    rw [List.flatten_cons, List.length_append, h c List.mem_cons_self, flat_len css (fun x hx => h x (List.mem_cons_of_mem _ hx)), List.length_cons, Nat.add_mul]; omega
theorem SliceM.toK {e : TypeId} {v : Value} {xs : List α} {F : List Nat} (h : SliceM d e w v xs F) : SliceK d w v xs := by
  rcases h with ⟨rfl, rfl, _⟩ | ⟨b, cap, cur, css, Fs, hv, h1, h2, hh, h3, h4, ha, _⟩
  · exact SliceK.nil d w
  · refine ⟨_, _, hv, h1, h2, .inr ⟨b, 0, rfl, fun j x hj => ?_⟩⟩
    obtain ⟨cs, F, hcs, _, hm⟩ := ha.get j x hj
    refine ⟨cs, d.M_K hm, fun i u hi => ?_⟩
    have hf := flatten_get css ha.lens j cs hcs i u hi
    rw [← h4, List.getElem?_take] at hf
    split at hf
    · have : w.cell? ⟨b, 0 + j * d.sz + i, none⟩ = cur[0 + j * d.sz + i]? := by
        simp [World.cell?, hh]
      rw [this, Nat.zero_add, ← Array.getElem?_toList]
      exact hf
    · cases hf
end

/-- A value of fixed cells. -/
def Dt.flat {α : Type} (n : Nat) (enc : α → List Value) (hl : ∀ x, (enc x).length = n) (h1 : ∀ x, ∀ u ∈ enc x, u.oneCell' = true) : Dt α where
  sz := n
  K := fun _ x cs => cs = enc x
  M := fun _ x cs F => cs = enc x ∧ F = []
  K_len := by rintro w x cs rfl; exact hl x
  K_one := by rintro w x cs rfl; exact h1 x
  K_below := by rintro w w' x cs _ h; exact h
  M_K := by rintro w x cs F ⟨h, _⟩; exact h
  M_lt := by rintro w x cs F ⟨_, rfl⟩; simp
  M_move := by rintro w w' x cs F _ h; exact h
def Dt.slice {α : Type} (e : TypeId) (d : Dt α) : Dt (List α) where
  sz := 1
  K := fun w xs cs => ∃ v, cs = [v] ∧ SliceK d w v xs
  M := fun w xs cs F => ∃ v, cs = [v] ∧ SliceM d e w v xs F
  K_len := by rintro w x cs ⟨v, rfl, _⟩; rfl
  K_one := by
    rintro w x cs ⟨v, rfl, A, c, rfl, _⟩ u hu
    rw [List.mem_singleton.1 hu]; rfl
  K_below := by rintro w w' x cs hb ⟨v, rfl, h⟩; exact ⟨v, rfl, h.below hb⟩
  M_K := by rintro w x cs F ⟨v, rfl, h⟩; exact ⟨v, rfl, h.toK⟩
  M_lt := by rintro w x cs F ⟨v, rfl, h⟩; exact h.lt
  M_move := by rintro w w' x cs F hm ⟨v, rfl, h⟩; exact ⟨v, rfl, h.move hm⟩
def Dt.pair {α β : Type} (a : Dt α) (b : Dt β) : Dt (α × β) where
  sz := a.sz + b.sz
  K := fun w x cs => ∃ c0 c1, cs = c0 ++ c1 ∧ a.K w x.1 c0 ∧ b.K w x.2 c1
  M := fun w x cs F => ∃ c0 c1 F0 F1, cs = c0 ++ c1 ∧ F = F0 ++ F1 ∧ a.M w x.1 c0 F0 ∧ b.M w x.2 c1 F1
  K_len := by rintro w x cs ⟨c0, c1, rfl, h0, h1⟩; simp [a.K_len h0, b.K_len h1]
  K_one := by
    rintro w x cs ⟨c0, c1, rfl, h0, h1⟩ u hu
    rcases List.mem_append.1 hu with hu | hu
    · exact a.K_one h0 u hu
    · exact b.K_one h1 u hu
  K_below := by rintro w w' x cs hb ⟨c0, c1, rfl, h0, h1⟩; exact ⟨c0, c1, rfl, a.K_below hb h0, b.K_below hb h1⟩
  M_K := by rintro w x cs F ⟨c0, c1, F0, F1, rfl, rfl, h0, h1⟩; exact ⟨c0, c1, rfl, a.M_K h0, b.M_K h1⟩
  M_lt := by
    rintro w x cs F ⟨c0, c1, F0, F1, rfl, rfl, h0, h1⟩ k hk
    rcases List.mem_append.1 hk with hk | hk
    · exact a.M_lt h0 k hk
    · exact b.M_lt h1 k hk
  M_move := by
    rintro w w' x cs F hm ⟨c0, c1, F0, F1, rfl, rfl, h0, h1⟩
    exact ⟨c0, c1, F0, F1, rfl, rfl, a.M_move (fun k hk => hm k (List.mem_append.2 (.inl hk))) h0, b.M_move (fun k hk => hm k (List.mem_append.2 (.inr hk))) h1⟩
/-- Two runs of cells of one value. -/
def Dt.cat {α : Type} (a b : Dt α) : Dt α where
  sz := a.sz + b.sz
  K := fun w x cs => ∃ c0 c1, cs = c0 ++ c1 ∧ a.K w x c0 ∧ b.K w x c1
  M := fun w x cs F => ∃ c0 c1 F0 F1, cs = c0 ++ c1 ∧ F = F0 ++ F1 ∧ a.M w x c0 F0 ∧ b.M w x c1 F1
  K_len := by rintro w x cs ⟨c0, c1, rfl, h0, h1⟩; simp [a.K_len h0, b.K_len h1]
  K_one := by
    rintro w x cs ⟨c0, c1, rfl, h0, h1⟩ u hu
    rcases List.mem_append.1 hu with hu | hu
    · exact a.K_one h0 u hu
    · exact b.K_one h1 u hu
  K_below := by rintro w w' x cs hb ⟨c0, c1, rfl, h0, h1⟩; exact ⟨c0, c1, rfl, a.K_below hb h0, b.K_below hb h1⟩
  M_K := by rintro w x cs F ⟨c0, c1, F0, F1, rfl, rfl, h0, h1⟩; exact ⟨c0, c1, rfl, a.M_K h0, b.M_K h1⟩
  M_lt := by
    rintro w x cs F ⟨c0, c1, F0, F1, rfl, rfl, h0, h1⟩ k hk
    rcases List.mem_append.1 hk with hk | hk
    · exact a.M_lt h0 k hk
    · exact b.M_lt h1 k hk
  M_move := by
    rintro w w' x cs F hm ⟨c0, c1, F0, F1, rfl, rfl, h0, h1⟩
    exact ⟨c0, c1, F0, F1, rfl, rfl, a.M_move (fun k hk => hm k (List.mem_append.2 (.inl hk))) h0, b.M_move (fun k hk => hm k (List.mem_append.2 (.inr hk))) h1⟩
def Dt.iso {α β : Type} (d : Dt α) (f : β → α) : Dt β where
  sz := d.sz
  K := fun w x cs => d.K w (f x) cs
  M := fun w x cs F => d.M w (f x) cs F
  K_len := d.K_len
  K_one := d.K_one
  K_below := d.K_below
  M_K := d.M_K
  M_lt := d.M_lt
  M_move := d.M_move
/-- A whole number, a string. -/
def intD : Dt Int := Dt.flat 1 (fun x : Int => [.int .i64 x]) (fun _ => rfl) (fun x u hu => by simp at hu; subst hu; rfl)
def strD : Dt ByteArray := Dt.flat 1 (fun x : ByteArray => [.string x]) (fun _ => rfl) (fun x u hu => by simp at hu; subst hu; rfl)
theorem int_at {w W : World} {b o j : Nat} {xs : List Int} {x : Int} (h : RowAt intD w b o xs) (hb : Below w.heap.size w W) (hj : xs[j]? = some x) : b < W.heap.size ∧ W.cell? ⟨b, o + j, none⟩ = some (.int .i64 x) := by
  obtain ⟨cs, hk, hc⟩ := (h.below hb) j x hj
  obtain rfl : cs = [.int .i64 x] := hk
  have hc : ∀ i u, ([.int .i64 x] : List Value)[i]? = some u → W.cell? ⟨b, o + j * 1 + i, none⟩ = some u := hc
  exact ⟨World.block_lt_of_cell? W _ (hc 0 _ rfl), by have := hc 0 _ rfl; rwa [Nat.mul_one, Nat.add_zero] at this⟩
theorem str_at {w W : World} {b o j : Nat} {xs : List ByteArray} {x : ByteArray} (h : RowAt strD w b o xs) (hb : Below w.heap.size w W) (hj : xs[j]? = some x) : b < W.heap.size ∧ W.cell? ⟨b, o + j, none⟩ = some (.string x) := by
  obtain ⟨cs, hk, hc⟩ := (h.below hb) j x hj
  obtain rfl : cs = [.string x] := hk
  have hc : ∀ i u, ([.string x] : List Value)[i]? = some u → W.cell? ⟨b, o + j * 1 + i, none⟩ = some u := hc
  exact ⟨World.block_lt_of_cell? W _ (hc 0 _ rfl), by have := hc 0 _ rfl; rwa [Nat.mul_one, Nat.add_zero] at this⟩

/-! ### rows of flat values -/
section
variable {α : Type} {n : Nat} {enc : α → List Value} {hl : ∀ x, (enc x).length = n} {h1 : ∀ x, ∀ u ∈ enc x, u.oneCell' = true} {w w' : World}
theorem All3.flat : ∀ (xs : List α), All3 ((Dt.flat n enc hl h1).M w) xs (xs.map enc) (xs.map fun _ => [])
  | [] => .nil
  | x :: xs => .cons ⟨rfl, rfl⟩ (All3.flat xs)
theorem All3.of_flat {xs : List α} {css : List (List Value)} {Fs : List (List Nat)} (h : All3 ((Dt.flat n enc hl h1).M w) xs css Fs) : css = xs.map enc ∧ Fs.flatten = [] := by
  induction h with
  | nil => exact ⟨rfl, rfl⟩
  | cons h t ih => obtain ⟨rfl, rfl⟩ := h; exact ⟨by simp [ih.1], by simp [ih.2]⟩
theorem flatten_nils : ∀ (xs : List α), (xs.map fun _ => ([] : List Nat)).flatten = []
  | [] => rfl
  | _ :: xs => by rw [List.map_cons, List.flatten_cons, flatten_nils xs]; rfl
/-- An owned row of flat values, opened: nil, or one block. -/
theorem flat_M {e : TypeId} {v : Value} {xs : List α} {F : List Nat} (h : SliceM (Dt.flat n enc hl h1) e w v xs F) :
    (v = .slice none 0 0 ∧ xs = [] ∧ F = []) ∨ ∃ b cap cur, v = .slice (some ⟨b, 0, none⟩) xs.length cap ∧ xs.length ≤ cap ∧ cap ≤ 9223372036854775807 ∧
      w.heap[b]? = some (.cells cur e (0, 0)) ∧ cur.size = cap * n ∧ cur.toList.take (xs.length * n) = (xs.map enc).flatten ∧ F = [b] := by
  rcases h with h | ⟨b, cap, cur, css, Fs, hv, h2, h3, hh, h4, h5, ha, rfl⟩
  · exact .inl h
  · obtain ⟨rfl, h6⟩ := All3.of_flat ha
    exact .inr ⟨b, cap, cur, hv, h2, h3, hh, h4, h5, by rw [h6]⟩
theorem flat_M_mk {e : TypeId} {xs : List α} {b cap : Nat} {cur : Array Value} (h2 : xs.length ≤ cap) (h3 : cap ≤ 9223372036854775807) (hh : w.heap[b]? = some (.cells cur e (0, 0)))
    (h4 : cur.size = cap * n) (h5 : cur.toList.take (xs.length * n) = (xs.map enc).flatten) : SliceM (Dt.flat n enc hl h1) e w (.slice (some ⟨b, 0, none⟩) xs.length cap) xs [b] :=
  .inr ⟨b, cap, cur, _, _, rfl, h2, h3, hh, h4, h5, All3.flat xs, by rw [flatten_nils]⟩
end
theorem setCell_block (w : World) (b o : Nat) (u : Value) {cur : Array Value} {e : TypeId} (hh : w.heap[b]? = some (.cells cur e (0, 0))) :
    (w.setCell ⟨b, o, none⟩ u).heap[b]? = some (.cells (cur.setIfInBounds o u) e (0, 0)) := by
  simp [World.setCell, Array.getElem?_modify, hh]
theorem alloc_new (w : World) (o : Obj) : (w.alloc o).heap[w.heap.size]? = some o := by unfold World.alloc; simp
theorem alloc_old (w : World) (o : Obj) {b : Nat} (h : b < w.heap.size) : (w.alloc o).heap[b]? = w.heap[b]? := Below.heap_alloc w o b h
theorem block_lt {w : World} {b : Nat} {o : Obj} (h : w.heap[b]? = some o) : b < w.heap.size := (Array.getElem?_eq_some_iff.1 h).1
theorem cell_block {w : World} {b o : Nat} {cur : Array Value} {e : TypeId} {fz : Nat × Nat} (hh : w.heap[b]? = some (.cells cur e fz)) : w.cell? ⟨b, o, none⟩ = cur[o]? := by simp [World.cell?, hh]
theorem frozen_block {w : World} {b o : Nat} {cur : Array Value} {e : TypeId} (hh : w.heap[b]? = some (.cells cur e (0, 0))) : w.frozen? ⟨b, o, none⟩ = false := by simp [World.frozen?, hh]
/-- What was made behind w. -/
def Made {α : Type} (d : Dt α) (e : TypeId) (w w' : World) (v : Value) (xs : List α) : Prop := ∃ F, SliceM d e w' v xs F ∧ F.Nodup ∧ ∀ b ∈ F, w.heap.size ≤ b
/-- A returned row that was made behind w; nothing else has turned. -/
def RetMade {α : Type} (d : Dt α) (e : TypeId) (w : World) (xs : List α) (r : Ending) (w' : World) : Prop := ∃ v, r = .returned v ∧ Made d e w w' v xs ∧ Below w.heap.size w w'

/-! ### make -/
/-- n cells of zero values. -/
def mkRow (z : Value) (n : Nat) : Array Value := madeCells z.cells n
theorem size_mkRow (z : Value) (n : Nat) : (mkRow z n).size = n := size_madeCells _ _
theorem run_mk {P : Program} (t e : TypeId) (z : Value) (sz bytes : Nat) (ht : P.underlying t = some (.slice e)) (hinfo : (P.info? e).map (fun i => (i.zero, i.size, i.bytes)) = some (some z, sz, bytes))
    (n : Nat) (h : bytes * n ≤ 281474976710656) (h63 : n ≤ 9223372036854775807) (W : World) :
    (Instr.makeSlice t (.int .i64 (n : Int)) (.int .i64 (n : Int))).run P W = .ok (.slice (some ⟨W.heap.size, 0, none⟩) n n) (W.alloc (.cells (mkRow z (n * sz)) e)) := by
  obtain ⟨i, hi, hz, hs, hb⟩ := info_parts hinfo
  have hb' : (i.bytes : Int) * (n : Int) ≤ 281474976710656 := by
    have h2 : ((i.bytes * n : Nat) : Int) ≤ 281474976710656 := by rw [hb]; omega
    rwa [Int.natCast_mul] at h2
  have hr := run_make (P := P) W t e i z ht hi hz .i64 .i64 n n (by omega) (by omega) hb' (by omega)
  simp only [Int.toNat_natCast, hs] at hr
  exact hr
theorem SliceK.shape {α : Type} {d : Dt α} {w : World} {v : Value} {xs : List α} (h : SliceK d w v xs) : ∃ A c, v = .slice A xs.length c := by
  obtain ⟨A, c, rfl, _⟩ := h; exact ⟨A, c, rfl⟩
theorem Made.shape {α : Type} {d : Dt α} {e : TypeId} {w w' : World} {v : Value} {xs : List α} (h : Made d e w w' v xs) : ∃ A c, v = .slice A xs.length c := by
  obtain ⟨F, h, _⟩ := h; exact h.toK.shape
/-- A returned struct that was made behind w; nothing else has turned. -/
def RetElem {α : Type} (d : Dt α) (w : World) (x : α) (r : Ending) (w' : World) : Prop :=
  ∃ cs F, r = .returned (.agg cs.toArray) ∧ d.M w' x cs F ∧ F.Nodup ∧ (∀ b ∈ F, w.heap.size ≤ b) ∧ Below w.heap.size w w'
theorem Made.keep {α : Type} {d : Dt α} {e : TypeId} {W w1 w2 : World} {v : Value} {xs : List α} {G : List Nat} (h : Made d e W w1 v xs) (hc : Chg G w1 w2) (hG : ∀ g ∈ G, g < W.heap.size) : Made d e W w2 v xs := by
  obtain ⟨F, hm, hn, hF⟩ := h
  refine ⟨F, hm.move fun b hb => hc.block b (hm.lt b hb) fun hg => ?_, hn, hF⟩
  have := hG b hg; have := hF b hb; omega
theorem Made.lower {α : Type} {d : Dt α} {e : TypeId} {W W0 w1 : World} {v : Value} {xs : List α} (h : Made d e W w1 v xs) (hs : W0.heap.size ≤ W.heap.size) : Made d e W0 w1 v xs := by
  obtain ⟨F, hm, hn, hF⟩ := h
  exact ⟨F, hm, hn, fun b hb => Nat.le_trans hs (hF b hb)⟩

/-! ### quiet calls -/
theorem quiet_left {P : Program} {f : FuncId} {args : Array Value} {w : World} {n : Nat} {v : Value}
    (h : Calls P f args (w.drewN n) fun e w' => e = .returned v ∧ w.drewN n = w') : Calls P f args (w.drewN n) fun e w'' => e = .returned v ∧ ∃ m, w'' = w.drewN m :=
  h.mono fun _ _ ⟨he, hm⟩ => ⟨he, n, hm.symm⟩
theorem quiet_add_left {P : Program} {f : FuncId} {args : Array Value} {w : World} {a n : Nat} {v : Value}
    (h : Calls P f args (w.drewN (a + n)) fun e w' => e = .returned v ∧ w.drewN (a + n) = w') :
    Calls P f args (w.drewN (a + n)) fun e w'' => e = .returned v ∧ ∃ m, w'' = w.drewN (a + m) :=
  h.mono fun _ _ ⟨he, hm⟩ => ⟨he, n, hm.symm⟩
end Go.Proofs.Ytglhepbcbildpaa
namespace Go.Proofs.Ytglhepbcbildpaa
open Go Go.RowKit
set_option linter.unusedVariables false

/-- A list in which cells from place o on are others. -/
def segSet (l : List Value) (o : Nat) : List Value → List Value
  | [] => l
  | u :: us => segSet (l.set o u) (o + 1) us
theorem segSet_len : ∀ (us : List Value) (l : List Value) (o : Nat), (segSet l o us).length = l.length
  | [], l, o => rfl
  | u :: us, l, o => by rw [segSet, segSet_len us]; simp
theorem segSet_get : ∀ (us : List Value) (l : List Value) (o i : Nat), o + us.length ≤ l.length →
    (segSet l o us)[i]? = if o ≤ i ∧ i < o + us.length then us[i - o]? else l[i]?
  | [], l, o, i, h => by simp [segSet]; intro h1 h2; omega
  | u :: us, l, o, i, h => by
    simp only [List.length_cons] at h ⊢
    rw [segSet, segSet_get us (l.set o u) (o + 1) i (by simp; omega)]
    by_cases h1 : o + 1 ≤ i ∧ i < o + 1 + us.length
    · rw [if_pos h1, if_pos (by omega), show i - o = (i - (o + 1)) + 1 by omega, List.getElem?_cons_succ]
    · rw [if_neg h1]
      by_cases h2 : i = o
      · subst h2
        rw [if_pos (by omega), Nat.sub_self, List.getElem?_cons_zero, List.getElem?_set_self (by omega)]
      · rw [if_neg (by omega), List.getElem?_set_ne (by omega)]

/-- The parts of an owned row that isn't nil. -/
structure Row {α : Type} (d : Dt α) (e : TypeId) (w : World) (b cap : Nat) (cur : Array Value) (css : List (List Value)) (Fs : List (List Nat)) (xs : List α) : Prop where
  le : xs.length ≤ cap
  max : cap ≤ 9223372036854775807
  blk : w.heap[b]? = some (.cells cur e (0, 0))
  size : cur.size = cap * d.sz
  seg : cur.toList.take (xs.length * d.sz) = css.flatten
  all : All3 (d.M w) xs css Fs

section
variable {α : Type} {d : Dt α} {e : TypeId} {w w' : World} {b cap : Nat} {cur : Array Value} {css : List (List Value)} {Fs : List (List Nat)} {xs : List α}
theorem SliceM.row {v : Value} {F : List Nat} (h : SliceM d e w v xs F) :
    (v = .slice none 0 0 ∧ xs = [] ∧ F = []) ∨ ∃ b cap cur css Fs, v = .slice (some ⟨b, 0, none⟩) xs.length cap ∧ Row d e w b cap cur css Fs xs ∧ F = b :: Fs.flatten := by
  rcases h with h | ⟨b, cap, cur, css, Fs, hv, h1, h2, h3, h4, h5, h6, hF⟩
  · exact .inl h
  · exact .inr ⟨b, cap, cur, css, Fs, hv, ⟨h1, h2, h3, h4, h5, h6⟩, hF⟩
theorem Row.M (h : Row d e w b cap cur css Fs xs) : SliceM d e w (.slice (some ⟨b, 0, none⟩) xs.length cap) xs (b :: Fs.flatten) :=
  .inr ⟨b, cap, cur, css, Fs, rfl, h.le, h.max, h.blk, h.size, h.seg, h.all, rfl⟩
theorem Row.lens (h : Row d e w b cap cur css Fs xs) : css.length = xs.length ∧ Fs.length = xs.length := h.all.len
theorem Row.lt (h : Row d e w b cap cur css Fs xs) : ∀ k ∈ b :: Fs.flatten, k < w.heap.size := h.M.lt
theorem Row.fits (h : Row d e w b cap cur css Fs xs) {j : Nat} (hj : j < xs.length) : j * d.sz + d.sz ≤ cur.size := by
  rw [h.size]
  have h1 : (j + 1) * d.sz ≤ cap * d.sz := Nat.mul_le_mul_right _ (Nat.le_trans hj h.le)
  rw [Nat.add_mul] at h1; omega
theorem Row.elem (h : Row d e w b cap cur css Fs xs) {j : Nat} {x : α} (hj : xs[j]? = some x) :
    ∃ cs G, css[j]? = some cs ∧ Fs[j]? = some G ∧ d.M w x cs G ∧ (∀ i u, cs[i]? = some u → w.cell? ⟨b, j * d.sz + i, none⟩ = some u) := by
  obtain ⟨cs, G, hc, hG, hm⟩ := h.all.get j x hj
  refine ⟨cs, G, hc, hG, hm, fun i u hi => ?_⟩
  have hf := flatten_get css h.all.lens j cs hc i u hi
  rw [← h.seg, List.getElem?_take] at hf
  split at hf
  · rw [cell_block h.blk, ← Array.getElem?_toList]; exact hf
  · cases hf
theorem Row.frozen (h : Row d e w b cap cur css Fs xs) (o : Nat) : w.frozen? ⟨b, o, none⟩ = false := frozen_block h.blk
theorem flatten_set {n : Nat} (css : List (List Value)) (hl : ∀ c ∈ css, c.length = n) (l : List Value) (hs : l.take (css.length * n) = css.flatten) {j : Nat} (hj : j < css.length) (cs' : List Value) (hc : cs'.length = n)
    (hfit : css.length * n ≤ l.length) : (segSet l (j * n) cs').take (css.length * n) = (css.set j cs').flatten := by
  have hl' : ∀ c ∈ css.set j cs', c.length = n := fun c hcm => by
    rcases List.mem_or_eq_of_mem_set hcm with h | h
    · exact hl c h
    · rw [h, hc]
  have hjn : (j + 1) * n ≤ css.length * n := Nat.mul_le_mul_right _ hj
  rw [Nat.add_mul] at hjn
  apply List.ext_getElem?
  intro i
  by_cases hi : i < css.length * n
  · have hn : 0 < n := by rcases Nat.eq_zero_or_pos n with h0 | h0; (subst h0; simp at hi); exact h0
    have hq : i / n < css.length := (Nat.div_lt_iff_lt_mul hn).2 hi
    have hir : i = i / n * n + i % n := by rw [Nat.mul_comm]; exact (Nat.div_add_mod i n).symm
    have hm : i % n < n := Nat.mod_lt _ hn
    have hq2 : i / n < (css.set j cs').length := by simpa using hq
    rw [List.getElem?_take, if_pos hi, segSet_get _ _ _ _ (by omega), hc]
    have hR : (css.set j cs').flatten[i]? = (css.set j cs')[i / n][i % n]? := by
      have hlen : ((css.set j cs')[i / n]).length = n := hl' _ (List.getElem_mem hq2)
      conv => lhs; rw [hir]
      rw [flatten_get _ hl' (i / n) _ (List.getElem?_eq_getElem hq2) (i % n) _ (List.getElem?_eq_getElem (by omega))]
      exact (List.getElem?_eq_getElem (by omega)).symm
    rw [hR]
    by_cases he : i / n = j
    · subst he
      rw [if_pos (by omega), List.getElem_set_self, show i - i / n * n = i % n by omega]
    · rw [if_neg (by
        intro ⟨h1, h2⟩
        apply he
        have h3 : j ≤ i / n := (Nat.le_div_iff_mul_le hn).2 h1
        have h4 : i / n < j + 1 := (Nat.div_lt_iff_lt_mul hn).2 (by rw [Nat.add_mul]; omega)
        omega), List.getElem_set_ne (fun h => he h.symm)]
      have hL : css.flatten[i]? = css[i / n][i % n]? := by
        have hlen : (css[i / n]).length = n := hl _ (List.getElem_mem hq)
        conv => lhs; rw [hir]
        rw [flatten_get _ hl (i / n) _ (List.getElem?_eq_getElem hq) (i % n) _ (List.getElem?_eq_getElem (by omega))]
        exact (List.getElem?_eq_getElem (by omega)).symm
      rw [← hL, ← hs, List.getElem?_take, if_pos hi]
  · rw [List.getElem?_eq_none (by simp; omega), List.getElem?_eq_none (by rw [flat_len _ hl', List.length_set]; omega)]

theorem mem_flatten_set {Fs : List (List Nat)} {j : Nat} {G G' : List Nat} (hj : Fs[j]? = some G) {k : Nat} (hk : k ∈ (Fs.set j G').flatten) : k ∈ G' ∨ k ∈ Fs.flatten := by
  obtain ⟨H, hH, hkH⟩ := List.mem_flatten.1 hk
  rcases List.mem_or_eq_of_mem_set hH with h | h
  · exact .inr (List.mem_flatten.2 ⟨H, h, hkH⟩)
  · exact .inl (h ▸ hkH)
theorem mem_flatten_of {Fs : List (List Nat)} {j : Nat} {G : List Nat} (hj : Fs[j]? = some G) {k : Nat} (hk : k ∈ G) : k ∈ Fs.flatten :=
  List.mem_flatten.2 ⟨G, List.mem_of_getElem? hj, hk⟩
theorem All3.get3 {β γ : Type} {R : α → β → γ → Prop} {ys : List β} {zs : List γ} (h : All3 R xs ys zs) : ∀ (j : Nat) (x : α) (y : β) (z : γ), xs[j]? = some x → ys[j]? = some y → zs[j]? = some z → R x y z := by
  intro j x y z hx hy hz
  obtain ⟨y', z', hy', hz', hr⟩ := h.get j x hx
  rw [hy] at hy'; rw [hz] at hz'
  cases hy'; cases hz'; exact hr
theorem All3.of_get {β γ : Type} {R : α → β → γ → Prop} : ∀ {xs : List α} {ys : List β} {zs : List γ}, ys.length = xs.length → zs.length = xs.length →
    (∀ (j : Nat) (x : α) (y : β) (z : γ), xs[j]? = some x → ys[j]? = some y → zs[j]? = some z → R x y z) → All3 R xs ys zs
  | [], [], [], _, _, _ => .nil
  | x :: xs, y :: ys, z :: zs, h1, h2, h => .cons (h 0 x y z rfl rfl rfl) (All3.of_get (by simpa using h1) (by simpa using h2) fun j x y z hx hy hz => h (j + 1) x y z hx hy hz)
  | [], _ :: _, _, h1, _, _ => by simp at h1
  | [], [], _ :: _, _, h2, _ => by simp at h2
  | _ :: _, [], _, h1, _, _ => by simp at h1
  | _ :: _, _ :: _, [], _, h2, _ => by simp at h2
/-- An element's blocks hold no other element's. -/
theorem nodup_apart {Fs : List (List Nat)} (hn : Fs.flatten.Nodup) : ∀ {i j : Nat} {G H : List Nat}, i ≠ j → Fs[i]? = some G → Fs[j]? = some H → ∀ k ∈ G, k ∉ H := by
  induction Fs with
  | nil => intro i j G H _ hi; simp at hi
  | cons F0 Fs ih =>
    intro i j G H hne hi hj k hk hk2
    rw [List.flatten_cons, List.nodup_append] at hn
    obtain ⟨_, hn2, hd⟩ := hn
    cases i with
    | zero =>
      cases j with
      | zero => exact hne rfl
      | succ j =>
        simp at hi; subst hi
        exact hd k hk k (mem_flatten_of (by simpa using hj) hk2) rfl
    | succ i =>
      cases j with
      | zero =>
        simp at hj; subst hj
        exact hd k hk2 k (mem_flatten_of (by simpa using hi) hk) rfl
      | succ j => exact ih (i := i) (j := j) hn2 (fun h => hne (by omega)) (by simpa using hi) (by simpa using hj) k hk hk2
/-- One element has become another one. -/
theorem Row.upd (h : Row d e w b cap cur css Fs xs) (hn : Fs.flatten.Nodup) {j : Nat} {x x' : α} {G G' : List Nat} {cs' : List Value} {cur' : Array Value}
    (hj : xs[j]? = some x) (hG : Fs[j]? = some G) (hm : d.M w' x' cs' G') (hb : w'.heap[b]? = some (.cells cur' e (0, 0))) (hc : cur'.toList = segSet cur.toList (j * d.sz) cs')
    (ho : ∀ k ∈ Fs.flatten, k ∉ G → w'.heap[k]? = w.heap[k]?) : Row d e w' b cap cur' (css.set j cs') (Fs.set j G') (xs.set j x') := by
  have hjl : j < xs.length := (List.getElem?_eq_some_iff.1 hj).1
  have hcl := d.K_len (d.M_K hm)
  obtain ⟨hl1, hl2⟩ := h.lens
  refine ⟨by simpa using h.le, h.max, hb, ?_, ?_, ?_⟩
  · have h1 := congrArg List.length hc
    rw [segSet_len] at h1
    simpa using h1.trans (by simpa using h.size)
  · rw [hc, List.length_set, ← hl1]
    refine flatten_set css h.all.lens _ (by rw [hl1]; exact h.seg) (by omega) _ hcl ?_
    have := h.size; have h2 := Nat.mul_le_mul_right d.sz h.le
    rw [hl1]; simp; omega
  · refine All3.of_get (by simp [hl1]) (by simp [hl2]) fun i y c z hx hy hz => ?_
    by_cases he : j = i
    · subst he
      rw [List.getElem?_set_self (by omega)] at hx hy hz
      cases hx; cases hy; cases hz; exact hm
    · rw [List.getElem?_set_ne he] at hx hy hz
      refine d.M_move (fun k hk => ho k (mem_flatten_of hz hk) ?_) (h.all.get3 i y c z hx hy hz)
      exact nodup_apart hn (fun h => he h.symm) hz hG k hk
theorem set_same {β : Type} {Fs : List β} {j : Nat} {G : β} (h : Fs[j]? = some G) : Fs.set j G = Fs := by
  apply List.ext_getElem?
  intro i
  by_cases he : j = i
  · subst he; rw [List.getElem?_set_self (List.getElem?_eq_some_iff.1 h).1, h]
  · rw [List.getElem?_set_ne he]
theorem Row.move (h : Row d e w b cap cur css Fs xs) (hm : ∀ k ∈ b :: Fs.flatten, w'.heap[k]? = w.heap[k]?) : Row d e w' b cap cur css Fs xs :=
  ⟨h.le, h.max, by rw [hm b List.mem_cons_self]; exact h.blk, h.size, h.seg, h.all.imp fun x y z hz hx => d.M_move (fun k hk => hm k (List.mem_cons_of_mem _ (List.mem_flatten.2 ⟨z, hz, hk⟩))) hx⟩
end

/-! ### a row that is being filled -/
/-- Cells written one behind another. -/
def putCells (w : World) (b o : Nat) : List Value → World
  | [] => w
  | u :: us => putCells (w.setCell ⟨b, o, none⟩ u) b (o + 1) us
theorem putCells_block : ∀ (us : List Value) (w : World) (b o : Nat) {cur : Array Value} {e : TypeId}, w.heap[b]? = some (.cells cur e (0, 0)) →
    ∃ cur', (putCells w b o us).heap[b]? = some (.cells cur' e (0, 0)) ∧ cur'.toList = segSet cur.toList o us
  | [], w, b, o, cur, e, h => ⟨cur, h, rfl⟩
  | u :: us, w, b, o, cur, e, h => by
    obtain ⟨cur', h1, h2⟩ := putCells_block us (w.setCell ⟨b, o, none⟩ u) b (o + 1) (setCell_block w b o u h)
    exact ⟨cur', h1, by rw [h2, Array.toList_setIfInBounds]; rfl⟩
theorem putCells_other : ∀ (us : List Value) (w : World) (b o : Nat) {k : Nat}, k ≠ b → (putCells w b o us).heap[k]? = w.heap[k]?
  | [], w, b, o, k, h => rfl
  | u :: us, w, b, o, k, h => by rw [putCells, putCells_other us _ b (o + 1) h, Below.heap_setCell w ⟨b, o, none⟩ u k h]
theorem putCells_chg : ∀ (us : List Value) {a w : World} (b o : Nat) {F : List Nat}, Chg F a w → (b ∈ F ∨ a.heap.size ≤ b) → Chg F a (putCells w b o us)
  | [], a, w, b, o, F, h, _ => h
  | u :: us, a, w, b, o, F, h, hb => putCells_chg us b (o + 1) (h.setCell hb u) hb
theorem putCells_below : ∀ (us : List Value) {B : Nat} {a w : World} (b o : Nat), Below B a w → B ≤ b → Below B a (putCells w b o us)
  | [], B, a, w, b, o, h, _ => h
  | u :: us, B, a, w, b, o, h, hb => putCells_below us b (o + 1) (h.setCell hb u) hb
section
variable {α : Type} {d : Dt α} {e : TypeId} {w w' : World} {b cap : Nat} {cur : Array Value} {css : List (List Value)} {Fs : List (List Nat)} {xs : List α}
theorem segSet_take : ∀ (us : List Value) (l : List Value) (o : Nat), o + us.length ≤ l.length → (segSet l o us).take (o + us.length) = l.take o ++ us := by
  intro us l o h
  apply List.ext_getElem?
  intro i
  rw [List.getElem?_take, segSet_get us l o i h]
  by_cases h1 : i < o
  · rw [if_pos (by omega), if_neg (by omega), List.getElem?_append_left (by simp; omega), List.getElem?_take, if_pos h1]
  · by_cases h2 : i < o + us.length
    · rw [if_pos h2, if_pos ⟨by omega, h2⟩, List.getElem?_append_right (by simp; omega)]
      congr 1
      simp; omega
    · rw [if_neg h2, List.getElem?_eq_none (by simp; omega)]
theorem Row.snoc (h : Row d e w b cap cur css Fs xs) {x : α} {cs : List Value} {G : List Nat} {cur' : Array Value} (hl : xs.length < cap) (hm : d.M w' x cs G)
    (hb : w'.heap[b]? = some (.cells cur' e (0, 0))) (hc : cur'.toList = segSet cur.toList (xs.length * d.sz) cs) (ho : ∀ k ∈ Fs.flatten, w'.heap[k]? = w.heap[k]?) :
    Row d e w' b cap cur' (css ++ [cs]) (Fs ++ [G]) (xs ++ [x]) := by
  have hcl := d.K_len (d.M_K hm)
  have h1 : (xs.length + 1) * d.sz ≤ cap * d.sz := Nat.mul_le_mul_right _ hl
  rw [Nat.add_mul] at h1
  have hsz := h.size
  refine ⟨by simp; omega, h.max, hb, ?_, ?_, ?_⟩
  · have h2 := congrArg List.length hc
    rw [segSet_len] at h2
    simpa using h2.trans (by simpa using hsz)
  · rw [List.length_append, List.length_singleton, Nat.add_mul, Nat.one_mul, ← hcl, hc, hcl]
    have h4 : cur.toList.length = cur.size := Array.length_toList
    have h3 := segSet_take cs cur.toList (xs.length * d.sz) (by rw [hcl, h4]; have : xs.length = xs.toArray.size := rfl; omega)
    rw [hcl] at h3
    rw [h3, h.seg]; simp
  · exact (h.all.imp fun x y z hz hx => d.M_move (fun k hk => ho k (List.mem_flatten.2 ⟨z, hz, hk⟩)) hx).snoc hm
theorem Row.start {z : Value} {n : Nat} (hn : n ≤ 9223372036854775807) : Row d e (w.alloc (.cells (mkRow z (n * d.sz)) e)) w.heap.size n (mkRow z (n * d.sz)) [] [] [] :=
  ⟨Nat.zero_le _, hn, alloc_new w _, size_mkRow _ _, by simp, .nil⟩
end
theorem nodup_app {F G : List Nat} {m : Nat} (hF : F.Nodup) (hG : G.Nodup) (h1 : ∀ b ∈ F, b < m) (h2 : ∀ b ∈ G, m ≤ b) : (F ++ G).Nodup := by
  rw [List.nodup_append]
  exact ⟨hF, hG, fun a ha b hb hab => by have := h1 a ha; have := h2 b hb; omega⟩

/-! ### marks, element by element -/
def cntAll {α : Type} (cnt : α → Nat) : List α → Nat
  | [] => 0
  | x :: xs => cnt x + cntAll cnt xs
def markAll {α : Type} (cnt : α → Nat) (mk : Int → α → α) : Int → List α → List α
  | _, [] => []
  | k, x :: xs => mk k x :: markAll cnt mk (k + cnt x) xs
section
variable {α : Type} {cnt : α → Nat} {mk : Int → α → α}
theorem cntAll_take : ∀ (xs : List α) (i : Nat) (x : α), xs[i]? = some x → cntAll cnt (xs.take (i + 1)) = cntAll cnt (xs.take i) + cnt x
  | [], i, x, h => by simp at h
  | y :: xs, 0, x, h => by simp at h; subst h; simp [cntAll]
  | y :: xs, i + 1, x, h => by
    have := cntAll_take xs i x (by simpa using h)
    simp only [List.take_succ_cons, cntAll, this]; omega
theorem cntAll_le : ∀ (xs : List α) (i : Nat), cntAll cnt (xs.take i) ≤ cntAll cnt xs
  | [], i => by simp
  | y :: xs, 0 => by simp [cntAll]
  | y :: xs, i + 1 => by have := cntAll_le xs i; simp only [List.take_succ_cons, cntAll]; omega
theorem markAll_len : ∀ (xs : List α) (k : Int), (markAll cnt mk k xs).length = xs.length
  | [], k => rfl
  | x :: xs, k => by simp [markAll, markAll_len xs]
theorem markAll_get : ∀ (xs : List α) (k : Int) (i : Nat) (x : α), xs[i]? = some x → (markAll cnt mk k xs)[i]? = some (mk (k + cntAll cnt (xs.take i)) x)
  | [], k, i, x, h => by simp at h
  | y :: xs, k, 0, x, h => by simp at h; subst h; simp [markAll, cntAll]
  | y :: xs, k, i + 1, x, h => by
    have := markAll_get xs (k + cnt y) i x (by simpa using h)
    simp only [markAll, List.getElem?_cons_succ, this, List.take_succ_cons, cntAll]
    congr 2; omega
theorem cntAll_mark (h : ∀ k x, cnt (mk k x) = cnt x) : ∀ (xs : List α) (k : Int), cntAll cnt (markAll cnt mk k xs) = cntAll cnt xs
  | [], k => rfl
  | x :: xs, k => by simp only [markAll, cntAll, h, cntAll_mark h xs]
theorem markAll_mark (h : ∀ k x, cnt (mk k x) = cnt x) (h2 : ∀ k x, mk k (mk k x) = mk k x) : ∀ (xs : List α) (k : Int), markAll cnt mk k (markAll cnt mk k xs) = markAll cnt mk k xs
  | [], k => rfl
  | x :: xs, k => by simp only [markAll, h, h2, markAll_mark h h2 xs]
/-- A list of which the first i have been marked. -/
def mixed (cnt : α → Nat) (mk : Int → α → α) (k : Int) (xs : List α) (i : Nat) : List α := (markAll cnt mk k xs).take i ++ xs.drop i
theorem mixed_zero (k : Int) (xs : List α) : mixed cnt mk k xs 0 = xs := by simp [mixed]
theorem mixed_all (k : Int) (xs : List α) : mixed cnt mk k xs xs.length = markAll cnt mk k xs := by simp [mixed, List.take_of_length_le, markAll_len]
theorem mixed_len (k : Int) (xs : List α) (i : Nat) : (mixed cnt mk k xs i).length = xs.length := by simp [mixed, markAll_len]; omega
theorem mixed_get (k : Int) (xs : List α) (i : Nat) {x : α} (h : xs[i]? = some x) : (mixed cnt mk k xs i)[i]? = some x := by
  have hi := (List.getElem?_eq_some_iff.1 h).1
  unfold mixed
  rw [List.getElem?_append_right (by simp; omega), List.length_take, markAll_len, Nat.min_eq_left (by omega), Nat.sub_self, List.getElem?_drop]
  exact h
theorem mixed_set (k : Int) (xs : List α) (i : Nat) {x : α} (h : xs[i]? = some x) : (mixed cnt mk k xs i).set i (mk (k + cntAll cnt (xs.take i)) x) = mixed cnt mk k xs (i + 1) := by
  have hi := (List.getElem?_eq_some_iff.1 h).1
  unfold mixed
  rw [List.take_add_one, markAll_get xs k i x h, List.set_append_right _ _ (by simp; omega), List.length_take, markAll_len, Nat.min_eq_left (by omega), Nat.sub_self, List.drop_eq_getElem_cons hi, List.set_cons_zero]
  simp
/-- What is told behind marks from k on. -/
def heldAll [DecidableEq α] (cnt : α → Nat) (mk : Int → α → α) (k : Int) (xs : List α) : Int := if xs = markAll cnt mk k xs then k + cntAll cnt xs else -1
theorem heldAll_neg [DecidableEq α] {k : Int} {xs : List α} {i : Nat} {x : α} (hx : xs[i]? = some x) (hne : x ≠ mk (k + cntAll cnt (xs.take i)) x) : heldAll cnt mk k xs = -1 := by
  refine if_neg fun h => hne ?_
  have h2 := markAll_get (cnt := cnt) (mk := mk) xs k i x hx
  rw [← h, hx] at h2
  exact Option.some.inj h2
theorem heldAll_pos [DecidableEq α] {k : Int} {xs : List α} (h : xs.take xs.length = (markAll cnt mk k xs).take xs.length) : heldAll cnt mk k xs = k + cntAll cnt xs := by
  refine if_pos ?_
  rwa [List.take_length, List.take_of_length_le (by rw [markAll_len]; exact Nat.le_refl _)] at h
theorem heldAll_mark [DecidableEq α] (h : ∀ k x, cnt (mk k x) = cnt x) (h2 : ∀ k x, mk k (mk k x) = mk k x) (k : Int) (xs : List α) : heldAll cnt mk k (markAll cnt mk k xs) = k + cntAll cnt xs := by
  unfold heldAll
  rw [if_pos (markAll_mark h h2 xs k).symm, cntAll_mark h]
end

/-! ### one element of an owned row, while it is being written -/
/-- The row, and its element i. -/
def RowE {α : Type} (d : Dt α) (e : TypeId) (w : World) (b cap : Nat) (Fs : List (List Nat)) (xs : List α) (i : Nat) (x : α) (cs : List Value) (G : List Nat) : Prop :=
  ∃ cur css, Row d e w b cap cur css Fs xs ∧ xs[i]? = some x ∧ css[i]? = some cs ∧ Fs[i]? = some G
section
variable {α : Type} {d : Dt α} {e : TypeId} {w w' : World} {b cap : Nat} {Fs : List (List Nat)} {xs : List α} {i : Nat} {x : α} {cs : List Value} {G : List Nat}
theorem RowE.M (h : RowE d e w b cap Fs xs i x cs G) : d.M w x cs G := by
  obtain ⟨cur, css, hr, hx, hc, hG⟩ := h
  exact hr.all.get3 i x cs G hx hc hG
theorem RowE.cell (h : RowE d e w b cap Fs xs i x cs G) : ∀ j u, cs[j]? = some u → w.cell? ⟨b, i * d.sz + j, none⟩ = some u := by
  obtain ⟨cur, css, hr, hx, hc, hG⟩ := h
  obtain ⟨cs', G', hc', _, _, hcell⟩ := hr.elem hx
  rw [hc] at hc'; cases hc'
  exact hcell
theorem RowE.frozen (h : RowE d e w b cap Fs xs i x cs G) (o : Nat) : w.frozen? ⟨b, o, none⟩ = false := by
  obtain ⟨cur, css, hr, _⟩ := h; exact hr.frozen o
theorem RowE.blt (h : RowE d e w b cap Fs xs i x cs G) : b < w.heap.size := by
  obtain ⟨cur, css, hr, _⟩ := h; exact block_lt hr.blk
theorem RowE.sub (h : RowE d e w b cap Fs xs i x cs G) : ∀ k ∈ G, k ∈ Fs.flatten := by
  obtain ⟨cur, css, hr, _, _, hG⟩ := h; exact fun k hk => mem_flatten_of hG hk
theorem RowE.lt (h : RowE d e w b cap Fs xs i x cs G) : ∀ k ∈ b :: Fs.flatten, k < w.heap.size := by
  obtain ⟨cur, css, hr, _⟩ := h; exact hr.lt
theorem nodup_sub : ∀ {Fs : List (List Nat)} {i : Nat} {G : List Nat}, Fs.flatten.Nodup → Fs[i]? = some G → G.Nodup
  | [], i, G, _, h => by simp at h
  | F0 :: Fs, 0, G, hn, h => by
    simp at h; subst h
    rw [List.flatten_cons, List.nodup_append] at hn; exact hn.1
  | F0 :: Fs, i + 1, G, hn, h => by
    rw [List.flatten_cons, List.nodup_append] at hn
    exact nodup_sub hn.2.1 (by simpa using h)
theorem RowE.nodup (h : RowE d e w b cap Fs xs i x cs G) (hn : (b :: Fs.flatten).Nodup) : G.Nodup ∧ b ∉ G := by
  have hs := h.sub
  obtain ⟨cur, css, hr, _, _, hG⟩ := h
  exact ⟨nodup_sub (List.nodup_cons.1 hn).2 hG, fun hb => (List.nodup_cons.1 hn).1 (hs b hb)⟩
theorem RowE.below (h : RowE d e w b cap Fs xs i x cs G) (hb : Below w.heap.size w w') : RowE d e w' b cap Fs xs i x cs G := by
  obtain ⟨cur, css, hr, h2⟩ := h
  exact ⟨cur, css, hr.move fun k hk => hb.block k (hr.lt k hk), h2⟩
/-- One cell of the element has been written. -/
theorem RowE.put (h : RowE d e w b cap Fs xs i x cs G) (hn : (b :: Fs.flatten).Nodup) (j : Nat) (u : Value) (x' : α) (hj : j < d.sz) (hm : d.M w x cs G → d.M w x' (cs.set j u) G) :
    RowE d e (w.setCell ⟨b, i * d.sz + j, none⟩ u) b cap Fs (xs.set i x') i x' (cs.set j u) G := by
  have hM := hm h.M
  have hbF := (List.nodup_cons.1 hn).1
  have hne : ∀ k ∈ Fs.flatten, k ≠ b := fun k hk e => hbF (e ▸ hk)
  have hcell := h.cell
  obtain ⟨cur, css, hr, hx, hc, hG⟩ := h
  have hcl := d.K_len (d.M_K (hr.all.get3 i x cs G hx hc hG))
  have hil := (List.getElem?_eq_some_iff.1 hx).1
  obtain ⟨hl1, hl2⟩ := hr.lens
  have hfit := hr.fits hil
  have hMv : d.M (w.setCell ⟨b, i * d.sz + j, none⟩ u) x' (cs.set j u) G :=
    d.M_move (fun k hk => Below.heap_setCell w _ u k (hne k (mem_flatten_of hG hk))) hM
  have hr' := hr.upd (w' := w.setCell ⟨b, i * d.sz + j, none⟩ u) (cur' := cur.setIfInBounds (i * d.sz + j) u) (List.nodup_cons.1 hn).2 hx hG hMv (setCell_block w b _ u hr.blk) (by
    rw [Array.toList_setIfInBounds]
    apply List.ext_getElem?
    intro k
    rw [segSet_get _ _ _ _ (by rw [List.length_set, hcl, Array.length_toList]; exact hfit), List.length_set, hcl]
    by_cases hk : i * d.sz ≤ k ∧ k < i * d.sz + d.sz
    · rw [if_pos hk]
      by_cases hkj : i * d.sz + j = k
      · subst hkj
        rw [List.getElem?_set_self (by rw [Array.length_toList]; omega), show i * d.sz + j - i * d.sz = j by omega, List.getElem?_set_self (by omega)]
      · rw [List.getElem?_set_ne hkj, List.getElem?_set_ne (by omega)]
        have hkc : k - i * d.sz < cs.length := by omega
        have h3 := hcell (k - i * d.sz) _ (List.getElem?_eq_getElem hkc)
        rw [cell_block hr.blk, show i * d.sz + (k - i * d.sz) = k by omega] at h3
        rw [List.getElem?_eq_getElem hkc, Array.getElem?_toList, h3]
    · rw [if_neg hk, List.getElem?_set_ne (by omega)]) (fun k hk _ => Below.heap_setCell w _ u k (hne k hk))
  rw [set_same hG] at hr'
  exact ⟨_, _, hr', List.getElem?_set_self hil, List.getElem?_set_self (by omega), hG⟩
/-- The element's own blocks have turned. -/
theorem RowE.inner (h : RowE d e w b cap Fs xs i x cs G) (hn : (b :: Fs.flatten).Nodup) (x' : α) (hc : Chg G w w') (hm : d.M w' x' cs G) : RowE d e w' b cap Fs (xs.set i x') i x' cs G := by
  have hnG := (h.nodup hn).2
  obtain ⟨cur, css, hr, hx, hcs, hG⟩ := h
  have hil := (List.getElem?_eq_some_iff.1 hx).1
  have hr' := hr.upd (w' := w') (cur' := cur) (cs' := cs) (List.nodup_cons.1 hn).2 hx hG hm ((hc.block b (block_lt hr.blk) hnG).trans hr.blk) (by
    obtain ⟨cs', G', hc', _, _, hcell⟩ := hr.elem hx
    rw [hcs] at hc'; cases hc'
    have hcl := d.K_len (d.M_K hm)
    have hfit := hr.fits hil
    apply List.ext_getElem?
    intro k
    rw [segSet_get _ _ _ _ (by rw [hcl, Array.length_toList]; exact hfit), hcl]
    by_cases hk : i * d.sz ≤ k ∧ k < i * d.sz + d.sz
    · rw [if_pos hk]
      have hkc : k - i * d.sz < cs.length := by omega
      have h3 := hcell (k - i * d.sz) _ (List.getElem?_eq_getElem hkc)
      rw [cell_block hr.blk, show i * d.sz + (k - i * d.sz) = k by omega] at h3
      rw [List.getElem?_eq_getElem hkc, Array.getElem?_toList, h3]
    · rw [if_neg hk]) (fun k hk hkG => hc.block k (hr.lt k (List.mem_cons_of_mem _ hk)) hkG)
  rw [set_same hG, set_same hcs] at hr'
  exact ⟨_, _, hr', List.getElem?_set_self hil, hcs, hG⟩
theorem RowE.ofRow {cur : Array Value} {css : List (List Value)} (h : Row d e w b cap cur css Fs xs) (hx : xs[i]? = some x) : ∃ cs G, RowE d e w b cap Fs xs i x cs G := by
  obtain ⟨cs, G, hc, hG, _, _⟩ := h.elem hx
  exact ⟨cs, G, cur, css, h, hx, hc, hG⟩
theorem RowE.row (h : RowE d e w b cap Fs xs i x cs G) : ∃ cur css, Row d e w b cap cur css Fs xs := by
  obtain ⟨cur, css, hr, _⟩ := h; exact ⟨cur, css, hr⟩
end
theorem heldAll_nn {α : Type} [DecidableEq α] {cnt : α → Nat} {mk : Int → α → α} {k : Int} (h : 0 ≤ k) (xs : List α) : heldAll cnt mk k xs < 0 ↔ ¬ xs = markAll cnt mk k xs := by
  unfold heldAll; split
  · rename_i h1; constructor
    · intro h2; omega
    · intro h2; exact absurd h1 h2
  · rename_i h1; exact ⟨fun _ => h1, fun _ => by omega⟩
/-- A call that marks a row: the last mark, and where it may have written. -/
def RetMarkA {α : Type} (d : Dt α) (e : TypeId) (cnt : α → Nat) (mk : Int → α → α) (w : World) (v : Value) (xs : List α) (F : List Nat) (k : Int) (r : Ending) (w' : World) : Prop :=
  r = .returned (.int .i64 (k + cntAll cnt xs)) ∧ SliceM d e w' v (markAll cnt mk k xs) F ∧ Chg F w w'
/-- A call that marks what a struct holds. -/
def RetMarkT {α : Type} (d : Dt α) (w : World) (cnt : Nat) (x' : α) (cs : List Value) (F : List Nat) (k : Int) (r : Ending) (w' : World) : Prop :=
  r = .returned (.int .i64 (k + cnt)) ∧ d.M w' x' cs F ∧ Chg F w w'
theorem int_congr {a b : Int} (h : a = b) : Value.int .i64 a = .int .i64 b := by rw [h]
theorem ret_int {k : IntKind} {a b : Int} (h : a = b) : Ending.returned (.int k a) = .returned (.int k b) := by rw [h]
theorem ret_bool {a b : Bool} (h : a = b) : Ending.returned (.bool a) = .returned (.bool b) := by rw [h]
theorem heldAll_spec {α : Type} [DecidableEq α] {cnt : α → Nat} {mk : Int → α → α} {k r : Int} {xs : List α} (h : r = heldAll cnt mk k xs) (h0 : 0 ≤ k) :
    (r = k + cntAll cnt xs ∧ xs = markAll cnt mk k xs) ∨ (r = -1 ∧ ¬ xs = markAll cnt mk k xs) := by
  subst h; unfold heldAll; split
  · rename_i h1; exact .inl ⟨rfl, h1⟩
  · rename_i h1; exact .inr ⟨rfl, h1⟩
end Go.Proofs.Ytglhepbcbildpaa
namespace Go.Proofs.Ytglhepbcbildpaa
open Go Go.RowKit
set_option linter.unusedVariables false
set_option linter.unusedSimpArgs false

/-- What is left of 'left' behind s more; -1 where that is too much. -/
def szR (left : Int) (s : Nat) : Int := if (s : Int) ≤ left then left - s else -1
theorem szR_add {left : Int} {s t : Nat} (h : 0 ≤ szR left s) : szR (szR left s) t = szR left (s + t) := by
  unfold szR at *; split at h
  · rename_i h1; rw [if_pos h1]; split
    · rw [if_pos (by omega)]; omega
    · rw [if_neg (by omega)]
  · omega
theorem szR_neg {left : Int} {s : Nat} (h0 : 0 ≤ left) (h : szR left s < 0) (t : Nat) : szR left (s + t) = -1 := by
  unfold szR at *; split at h
  · omega
  · rw [if_neg (by omega)]
theorem szR_ge {left : Int} {s : Nat} (h : 0 ≤ szR left s) : (s : Int) ≤ left ∧ szR left s = left - s := by
  unfold szR at *; split at h
  · rename_i h1; exact ⟨h1, by rw [if_pos h1]⟩
  · omega

theorem szR_bd {left : Int} {s : Nat} {r : Int} (h : r = szR left s) (h0 : 0 ≤ left) : -1 ≤ r ∧ r ≤ left := by
  subst h; unfold szR; split <;> omega
theorem szR_spec {left : Int} {s : Nat} {r : Int} (h : r = szR left s) (h0 : 0 ≤ left) : (r = left - s ∧ (s : Int) ≤ left) ∨ (r = -1 ∧ left < s) := by
  subst h; unfold szR; split <;> omega
/-- A returned size's rest. -/
def RetSz (left : Int) (s : Nat) (e : Ending) : Prop := ∃ r, e = .returned (.int .i64 r) ∧ r = szR left s
theorem bytes_eq {a b : ByteArray} : a.toList = b.toList ↔ a = b := ⟨fun h => by
  rw [ByteArray.toList_eq, ByteArray.toList_eq] at h
  cases a; cases b; congr; exact Array.ext' h, fun h => by rw [h]⟩
theorem eqAll_pre {α : Type} [DecidableEq α] {a b : List α} {k : Nat} {x y : α} (h : a.take k = b.take k) (hx : a[k]? = some x) (hy : b[k]? = some y) (hne : x ≠ y) : decide (a = b) = false := by
  refine decide_eq_false ?_
  rintro rfl
  rw [hx] at hy
  exact hne (by simpa using hy)
def sizeAll {α : Type} (f : α → Nat) : List α → Nat
  | [] => 0
  | x :: xs => f x + sizeAll f xs
theorem sizeAll_take {α : Type} (f : α → Nat) : ∀ (xs : List α) (k : Nat) (x : α), xs[k]? = some x → sizeAll f (xs.take (k + 1)) = sizeAll f (xs.take k) + f x
  | [], k, x, h => by simp at h
  | y :: xs, 0, x, h => by simp at h; subst h; simp [sizeAll]
  | y :: xs, k + 1, x, h => by
    have := sizeAll_take f xs k x (by simpa using h)
    simp only [List.take_succ_cons, sizeAll, this]
    omega
theorem sizeAll_le {α : Type} (f : α → Nat) : ∀ (xs : List α) (k : Nat), sizeAll f (xs.take k) ≤ sizeAll f xs
  | [], k => by simp
  | y :: xs, 0 => by simp [sizeAll]
  | y :: xs, k + 1 => by have := sizeAll_le f xs k; simp only [List.take_succ_cons, sizeAll]; omega
theorem sizeAll_mem {α : Type} (f : α → Nat) : ∀ (xs : List α) (x : α), x ∈ xs → f x ≤ sizeAll f xs
  | y :: xs, x, h => by
    rcases List.mem_cons.1 h with rfl | h
    · simp only [sizeAll]; omega
    · have := sizeAll_mem f xs x h; simp only [sizeAll]; omega
theorem eqInts_pre {a b : List Int} {k : Nat} {x y : Int} (h : a.take k = b.take k) (hx : a[k]? = some x) (hy : b[k]? = some y) (hne : x ≠ y) : decide (a = b) = false := by
  refine decide_eq_false ?_
  rintro rfl
  rw [hx] at hy
  exact hne (by simpa using hy)

/-! ### copy -/
theorem take_set_int {cur : List Value} {xs : List Int} {k : Nat} {x : Int} (h : cur.take k = (xs.take k).map (Value.int .i64)) (hx : xs[k]? = some x) (hk : k < cur.length) :
    (cur.set k (.int .i64 x)).take (k + 1) = (xs.take (k + 1)).map (Value.int .i64) := by
  rw [List.take_add_one, List.take_add_one, hx, List.take_set_of_le (Nat.le_refl _), h]
  simp [hk]
theorem ints_flat (xs : List Int) : (xs.map fun x : Int => [Value.int .i64 x]).flatten = xs.map (Value.int .i64) := by
  induction xs with
  | nil => rfl
  | cons x xs ih => simp [ih]
theorem int_M_mk {w : World} {e : TypeId} {xs : List Int} {b cap : Nat} {cur : Array Value} (h2 : xs.length ≤ cap) (h3 : cap ≤ 9223372036854775807) (hh : w.heap[b]? = some (.cells cur e (0, 0)))
    (h4 : cur.size = cap) (h5 : cur.toList.take xs.length = xs.map (Value.int .i64)) : SliceM intD e w (.slice (some ⟨b, 0, none⟩) xs.length cap) xs [b] :=
  flat_M_mk h2 h3 hh (by omega) (by rw [Nat.mul_one, h5, ints_flat])
theorem int_M {w : World} {e : TypeId} {v : Value} {xs : List Int} {F : List Nat} (h : SliceM intD e w v xs F) :
    (v = .slice none 0 0 ∧ xs = [] ∧ F = []) ∨ ∃ b cap cur, v = .slice (some ⟨b, 0, none⟩) xs.length cap ∧ xs.length ≤ cap ∧ cap ≤ 9223372036854775807 ∧
      w.heap[b]? = some (.cells cur e (0, 0)) ∧ cur.size = cap ∧ cur.toList.take xs.length = xs.map (Value.int .i64) ∧ F = [b] := by
  rcases flat_M h with h | ⟨b, cap, cur, hv, h2, h3, hh, h4, h5, hF⟩
  · exact .inl h
  · exact .inr ⟨b, cap, cur, hv, h2, h3, hh, by omega, by rw [Nat.mul_one, ints_flat] at h5; exact h5, hF⟩

/-! ### marks -/
/-- k, k + 1, .. -/
def marks (k : Int) (n : Nat) : List Int := (List.range n).map fun i : Nat => k + (i : Int)
theorem marks_len (k : Int) (n : Nat) : (marks k n).length = n := by simp [marks]
theorem marks_succ (k : Int) (n : Nat) : marks k (n + 1) = marks k n ++ [k + (n : Int)] := by simp [marks, List.range_succ]
theorem marks_get (k : Int) (n i : Nat) (h : i < n) : (marks k n)[i]? = some (k + (i : Int)) := by simp [marks, h]
/-- A call that marks a row: the last mark, and where it may have written. -/
def RetMark (w : World) (v : Value) (F : List Nat) (k : Int) (n : Nat) (r : Ending) (w' : World) : Prop :=
  r = .returned (.int .i64 (k + n)) ∧ SliceM intD 2 w' v (marks k n) F ∧ Chg F w w'
theorem take_mark {cur : List Value} {xs : List Int} {k : Int} {i : Nat} (h : cur.take xs.length = (marks k i ++ xs.drop i).map (Value.int .i64)) (hi : i < xs.length) (hl : xs.length ≤ cur.length) :
    (cur.set i (.int .i64 (k + (i : Int)))).take xs.length = (marks k (i + 1) ++ xs.drop (i + 1)).map (Value.int .i64) := by
  rw [List.take_set, h, marks_succ, List.drop_eq_getElem_cons hi, List.map_append, List.map_cons, List.set_append]
  simp [marks_len]

/-- What is told behind marks that were laid from k on: the next mark; -1 where one is another. -/
def heldI (k : Int) (xs : List Int) : Int := if xs = marks k xs.length then k + xs.length else -1
theorem heldI_neg {k : Int} {xs : List Int} {i : Nat} {x : Int} (hx : xs[i]? = some x) (hne : x ≠ k + (i : Int)) : heldI k xs = -1 := by
  refine if_neg fun h => hne ?_
  have hi := (List.getElem?_eq_some_iff.1 hx).1
  rw [h, marks_get _ _ _ hi] at hx
  simpa using hx.symm

theorem heldI_nn {k : Int} (h : 0 ≤ k) (xs : List Int) : heldI k xs < 0 ↔ ¬ xs = marks k xs.length := by
  unfold heldI; split
  · rename_i h1; constructor
    · intro h2; omega
    · intro h2; exact absurd h1 h2
  · rename_i h1; exact ⟨fun _ => h1, fun _ => by omega⟩
theorem heldI_spec {k r : Int} {xs : List Int} (h : r = heldI k xs) (h0 : 0 ≤ k) : (r = k + xs.length ∧ xs = marks k xs.length) ∨ (r = -1 ∧ ¬ xs = marks k xs.length) := by
  subst h; unfold heldI; split
  · rename_i h1; exact .inl ⟨rfl, h1⟩
  · rename_i h1; exact .inr ⟨rfl, h1⟩
end Go.Proofs.Ytglhepbcbildpaa
namespace Go.Proofs.Ytglhepbcbildpaa
open Go Go.RowKit
set_option linter.unusedVariables false
set_option linter.unusedSimpArgs false

def digsD : Nat → Nat → ByteArray → ByteArray
  | 0, _, o => o
  | g + 1, n, o => if n = 0 then o else digsD g (n / 10) (⟨#[UInt8.ofNat (48 + n % 10)]⟩ ++ o)
theorem digsD_zero (g : Nat) (o : ByteArray) : digsD g 0 o = o := by cases g <;> simp [digsD]
/-- The text of a mark. -/
def markT (k : Int) : ByteArray := if k ≤ 0 then ⟨#[109, 48]⟩ else ⟨#[109]⟩ ++ digsD 14 k.toNat ⟨#[]⟩

end Go.Proofs.Ytglhepbcbildpaa
namespace Go.Proofs.Ytglhepbcbildpaa
open Go Go.RowKit
set_option linter.unusedVariables false
set_option linter.unusedSimpArgs false

/-! ### plain words -/
def inB (n lo hi : Int) : Bool := decide (lo ≤ n) && decide (n ≤ hi)
theorem inB_iff {n lo hi : Int} : inB n lo hi = true ↔ lo ≤ n ∧ n ≤ hi := by simp [inB]
/-- What stands before place j. -/
def prevAt {α : Type} (l : List α) (j : Nat) : Option α := if j = 0 then none else l[j - 1]?
/-- A test of each element beside the one before it. -/
def adjB {α : Type} (f : α → Option α → Bool) : Option α → List α → Bool
  | _, [] => true
  | p, x :: t => f x p && adjB f (some x) t
theorem adjB_iff {α : Type} (f : α → Option α → Bool) : ∀ (l : List α) (p : Option α), adjB f p l = true ↔ ∀ j x, l[j]? = some x → f x (if j = 0 then p else l[j - 1]?) = true
  | [], p => by simp [adjB]
  | y :: t, p => by
    rw [adjB, Bool.and_eq_true, adjB_iff f t (some y)]
    constructor
    · rintro ⟨h1, h2⟩ j x hj
      cases j with
      | zero => simp at hj; subst hj; simpa using h1
      | succ j =>
        have h3 := h2 j x (by simpa using hj)
        rw [if_neg (by omega), Nat.add_sub_cancel]
        cases j with
        | zero => simpa using h3
        | succ j => rw [if_neg (by omega)] at h3; simpa using h3
    · intro h
      refine ⟨by simpa using h 0 y rfl, fun j x hj => ?_⟩
      have h3 := h (j + 1) x (by simpa using hj)
      rw [if_neg (by omega), Nat.add_sub_cancel] at h3
      cases j with
      | zero => simpa using h3
      | succ j => rw [if_neg (by omega)]; simpa using h3
theorem adj_all {α : Type} {f : α → Option α → Bool} {l : List α} (h : ∀ j x, j < l.length → l[j]? = some x → f x (prevAt l j) = true) : adjB f none l = true :=
  (adjB_iff f l none).2 fun j x hj => by simpa [prevAt] using h j x (List.getElem?_eq_some_iff.1 hj).1 hj
theorem adj_fail {α : Type} {f : α → Option α → Bool} {l : List α} {j : Nat} {x : α} (hx : l[j]? = some x) (h : f x (prevAt l j) = false) : adjB f none l = false := by
  rw [Bool.eq_false_iff]
  intro ht
  have := (adjB_iff f l none).1 ht j x hx
  unfold prevAt at h
  rw [h] at this; cases this
theorem adj_step {α : Type} {f : α → Option α → Bool} {l : List α} {k : Nat} {x : α} (h : ∀ j y, j < k → l[j]? = some y → f y (prevAt l j) = true) (hx : l[k]? = some x) (hf : f x (prevAt l k) = true) :
    ∀ j y, j < k + 1 → l[j]? = some y → f y (prevAt l j) = true := by
  intro j y hj hy
  by_cases e : j = k
  · subst e; rw [hx] at hy; cases hy; exact hf
  · exact h j y (by omega) hy
theorem prevAt_zero {α : Type} (l : List α) : prevAt l 0 = none := rfl
theorem prevAt_succ {α : Type} {l : List α} {j : Nat} {y : α} (hj : 0 < j) (h : l[j - 1]? = some y) : prevAt l j = some y := by unfold prevAt; rw [if_neg (by omega), h]
/-- Rising numbers of which p holds. -/
def riseF (p : Int → Bool) (x : Int) (q : Option Int) : Bool := p x && match q with | none => true | some y => decide (y < x)
def risesB (p : Int → Bool) (l : List Int) : Bool := adjB (riseF p) none l
/-- A text. -/
def charB (c : UInt8) : Bool := decide (32 ≤ c.toNat) && decide (c.toNat ≤ 126)
def textB (s : ByteArray) : Bool := s.data.toList.all charB && decide ((s.size : Int) ≤ 80)
theorem text_fail {s : ByteArray} {k : Nat} (hk : k < s.size) (h : charB s[k] = false) : textB s = false := by
  unfold textB
  rw [Bool.and_eq_false_iff]; left
  rw [List.all_eq_false]
  exact ⟨s[k], by rw [ByteArray.getElem_eq_getElem_data]; simp, by simp [h]⟩
theorem text_all {s : ByteArray} (h : ∀ k (hk : k < s.size), charB s[k] = true) : textB s = decide ((s.size : Int) ≤ 80) := by
  unfold textB
  rw [List.all_eq_true.2, Bool.true_and]
  intro c hc
  obtain ⟨i, hi, rfl⟩ := List.mem_iff_getElem.1 hc
  have := h i (by simpa using hi)
  rwa [ByteArray.getElem_eq_getElem_data] at this

/-! ### numbers -/
set_option maxHeartbeats 400000 in
theorem in_c (n lo hi : Int) (w : World) : Calls Try.prog 28 #[.int .i64 n, .int .i64 lo, .int .i64 hi] w fun e w' => e = .returned (.bool (inB n lo hi)) ∧ w = w' := by
  by_cases h1 : lo ≤ n
  · have hr := hide (show inB n lo hi = decide (n ≤ hi) by simp [inB, h1])
    go_enter Try.func28, Try.ntmps28
    go_wp2
    go_ret
    exact ⟨by rw [hr.out]; rfl, rfl⟩
  · have hr := hide (show inB n lo hi = false by simp [inB, h1])
    go_enter Try.func28, Try.ntmps28
    go_wp2
    go_ret
    exact ⟨by rw [hr.out]; rfl, rfl⟩
theorem isMember_c (n : Int) (w : World) : Calls Try.prog 29 #[.int .i64 n] w fun e w' => e = .returned (.bool (inB n 1 1000)) ∧ w = w' := by
  go_enter Try.func29, Try.ntmps29
  go_wp2_with (go_at_call 28; refine (in_c _ _ _ _).mono ?_; rintro e w' ⟨rfl, rfl⟩)
  go_ret
  exact ⟨rfl, rfl⟩
theorem isTick_c (n : Int) (w : World) : Calls Try.prog 22 #[.int .i64 n] w fun e w' => e = .returned (.bool (inB n 0 1000000)) ∧ w = w' := by
  go_enter Try.func22, Try.ntmps22
  go_wp2_with (go_at_call 28; refine (in_c _ _ _ _).mono ?_; rintro e w' ⟨rfl, rfl⟩)
  go_ret
  exact ⟨rfl, rfl⟩
theorem roleOk_c (n : Int) (w : World) : Calls Try.prog 30 #[.int .i64 n] w fun e w' => e = .returned (.bool (inB n 0 3)) ∧ w = w' := by
  go_enter Try.func30, Try.ntmps30
  go_wp2_with (go_at_call 28; refine (in_c _ _ _ _).mono ?_; rintro e w' ⟨rfl, rfl⟩)
  go_ret
  exact ⟨rfl, rfl⟩
/-! ### texts -/

/-! ### lists of numbers -/
def hasB (l : List Int) (n : Int) : Bool := decide (n ∈ l)
/-- The first place of a number; -1 without one. -/
def idxI (l : List Int) (n : Int) : Int := if n ∈ l then (l.idxOf n : Int) else -1
theorem idxI_hit {l : List Int} {n : Int} {k : Nat} (h : ∀ j y, j < k → l[j]? = some y → y ≠ n) (hk : l[k]? = some n) : idxI l n = (k : Int) := by
  unfold idxI
  rw [if_pos (List.mem_of_getElem? hk)]
  congr 1
  induction l generalizing k with
  | nil => simp at hk
  | cons a l ih =>
    cases k with
    | zero => simp at hk; subst hk; simp
    | succ k =>
      have hne : a ≠ n := h 0 a (by omega) rfl
      have := ih (k := k) (fun j y hj hy => h (j + 1) y (by omega) (by simpa using hy)) (by simpa using hk)
      rw [List.idxOf_cons, this]
      rw [show (a == n) = false from beq_eq_false_iff_ne.2 hne]; rfl
theorem idxI_miss {l : List Int} {n : Int} (h : ∀ j y, j < l.length → l[j]? = some y → y ≠ n) : idxI l n = -1 := by
  unfold idxI
  rw [if_neg]
  intro hm
  obtain ⟨j, hj⟩ := List.getElem?_of_mem hm
  exact h j n (List.getElem?_eq_some_iff.1 hj).1 hj rfl
theorem idxI_nn (l : List Int) (n : Int) : decide (0 ≤ idxI l n) = hasB l n := by
  unfold idxI hasB
  by_cases h : n ∈ l
  · rw [if_pos h, decide_eq_true h, decide_eq_true (by omega)]
  · rw [if_neg h, decide_eq_false h]; rfl

end Go.Proofs.Ytglhepbcbildpaa
namespace Go.Proofs.Ytglhepbcbildpaa
open Go Go.RowKit
set_option linter.unusedVariables false

/-- A world that has kept all that lay in w. -/
structure Calm (w : World) where
  world : World
  below : Below w.heap.size w world

instance (w : World) : Nonempty (Calm w) := ⟨⟨w, Below.refl _ _⟩⟩

/-- A cell beyond what w held: not looked into. -/
def Calm.far {w : World} (i : Calm w) (a : Addr) : Option Value := i.world.cell? a
def Calm.farF {w : World} (i : Calm w) (a : Addr) : Bool := i.world.frozen? a

theorem Calm.cell {w : World} (i : Calm w) (b o : Nat) :
    i.world.cell? ⟨b, o, none⟩ = if b < w.heap.size then w.cell? ⟨b, o, none⟩ else i.far ⟨b, o, none⟩ := by
  split
  · exact i.below.cell (p := ⟨b, o, none⟩) ‹_›
  · rfl
theorem Calm.frozen {w : World} (i : Calm w) (b o : Nat) :
    i.world.frozen? ⟨b, o, none⟩ = if b < w.heap.size then w.frozen? ⟨b, o, none⟩ else i.farF ⟨b, o, none⟩ := by
  split
  · exact i.below.frozen (p := ⟨b, o, none⟩) ‹_›
  · rfl
theorem Calm.size {w : World} (i : Calm w) : w.heap.size ≤ i.world.heap.size := i.below.size
theorem Calm.next {w : World} (i : Calm w) {w2 : World} (h : Below i.world.heap.size i.world w2) : ∃ j : Calm w, w2 = j.world := ⟨⟨w2, i.below.trans (h.mono i.size)⟩, rfl⟩
theorem Calm.same {w : World} (i : Calm w) : ∃ j : Calm w, i.world = j.world := ⟨i, rfl⟩

/-- A region behind a fresh box. -/
theorem Calm.boxed {w : World} {c : Obj} (i : Calm (w.alloc c)) : Below w.heap.size w i.world := ((Below.refl _ _).alloc (Nat.le_refl _) _).trans (i.below.mono (by simp))

theorem wp_region_calm {P : Program} {id : Nat} {Q : Exit → Act → World → Prop} {a : Act} {w : World} {l : List Oper} (hm : P.follows .mixedOrders = true) (hB : Region.lexB .any l.toArray = true)
    (h : wpQuiet P l.toArray (fun w' => ∃ i : Calm w, w' = i.world) (fun a' => ∀ w', (∃ i : Calm w, w' = i.world) → Q .normal a' w') l a) : (Code.region id l.toArray true).wp P Q a w :=
  wp_region_quiet (C := fun w' => ∃ i : Calm w, w' = i.world) hm hB ⟨⟨_, (Below.refl _ w).drew⟩, rfl⟩ (by simpa using h)

end Go.Proofs.Ytglhepbcbildpaa
namespace Go.Proofs.Ytglhepbcbildpaa
open Go Go.RowKit Go.BigFrame
attribute [local go_sem] Calm.cell Calm.frozen
set_option linter.unusedVariables false
set_option linter.unusedSimpArgs false
/-! ### sets -/
theorem rise_no {p : Int → Bool} {x : Int} (h : ¬ p x = true) (q : Option Int) : riseF p x q = false := by simp [riseF, h]
theorem rise_not {p : Int → Bool} {x y : Int} (h : x ≤ y) : riseF p x (some y) = false := by simp [riseF]; intro _; omega
theorem rise_some {p : Int → Bool} {x y : Int} (h : p x = true) (h2 : y < x) : riseF p x (some y) = true := by simp [riseF, h, h2]
theorem rise_none {p : Int → Bool} {x : Int} (h : p x = true) : riseF p x none = true := by simp [riseF, h]
end Go.Proofs.Ytglhepbcbildpaa
namespace Go.Proofs.Ytglhepbcbildpaa
open Go Go.RowKit
set_option linter.unusedVariables false

theorem RowAt.ptr {α : Type} {d : Dt α} {w : World} {b o j : Nat} {xs : List α} {x : α} (h : RowAt d w b o xs) (hj : xs[j]? = some x) : RowAt d w b (o + j * d.sz) [x] := by
  intro i y hi
  cases i with
  | succ i => simp at hi
  | zero =>
    simp only [List.getElem?_cons_zero, Option.some.injEq] at hi
    subst hi
    obtain ⟨cs, hk, hc⟩ := h j x hj
    exact ⟨cs, hk, fun i u hu => by rw [Nat.zero_mul, Nat.add_zero]; exact hc i u hu⟩
theorem RowAt.box {α : Type} {d : Dt α} {w : World} {x : α} {cs : List Value} (hk : d.K w x cs) {arr : Array Value} (ha : arr.toList = cs) (t : TypeId) :
    RowAt d (w.alloc (.cells arr t)) w.heap.size 0 [x] := by
  intro i y hi
  cases i with
  | succ i => simp at hi
  | zero =>
    simp only [List.getElem?_cons_zero, Option.some.injEq] at hi
    subst hi
    refine ⟨cs, d.K_below ((Below.refl _ _).alloc (Nat.le_refl _) _) hk, fun i u hu => ?_⟩
    simp only [Nat.zero_mul, Nat.add_zero, Nat.zero_add]
    subst ha
    simpa using hu
end Go.Proofs.Ytglhepbcbildpaa
namespace Go.Proofs.Ytglhepbcbildpaa
open Go Go.RowKit
set_option linter.unusedVariables false

section
variable {P : Program} {α : Type} {d : Dt α} {e : TypeId}

/-- What append leaves: the longer row, its blocks, and what has turned. -/
structure Apped (d : Dt α) (e : TypeId) (w w' : World) (v' : Value) (xs : List α) (F G F' : List Nat) : Prop where
  m : SliceM d e w' v' xs F'
  nodup : F'.Nodup
  from_ : ∀ k ∈ F', k ∈ F ∨ k ∈ G ∨ k = w.heap.size
  chg : Chg F w w'
theorem flatten_const {n : Nat} : ∀ {css : List (List Value)}, (∀ c ∈ css, c.length = n) → css.flatten.length = css.length * n
  | [], _ => by simp
  | c :: css, h => by
    rw [List.flatten_cons, List.length_append, h c List.mem_cons_self, flatten_const fun c hc => h c (List.mem_cons_of_mem _ hc), List.length_cons, Nat.add_mul, Nat.one_mul, Nat.add_comm]
theorem All3.each {β γ : Type} {R : α → β → γ → Prop} {xs : List α} {ys : List β} {zs : List γ} (h : All3 R xs ys zs) : ∀ y ∈ ys, ∃ x z, z ∈ zs ∧ R x y z := by
  induction h with
  | nil => intro y hy; simp at hy
  | cons h t ih =>
    intro y hy
    rcases List.mem_cons.1 hy with rfl | hy
    · exact ⟨_, _, List.mem_cons_self, h⟩
    · obtain ⟨x, z, hz, hr⟩ := ih y hy
      exact ⟨x, z, List.mem_cons_of_mem _ hz, hr⟩

/-- append of some elements onto an owned row. -/
theorem wp_app (w : World) {o : Oper} {a : Act} {K : Act → World → Prop} {Q : Exit → Act → World → Prop} (s x : Operand) (t : TypeId)
    (ho : o.op = .call { callee := .builtin .append, args := #[s, x], argTypes := #[t, t] })
    (z : Value) (sz bytes : Nat) (ht : P.underlying t = some (.slice e)) (hinfo : (P.info? e).map (fun i => (i.zero, i.size, i.bytes)) = some (some z, sz, bytes)) (hzs : z.cells.size = sz) (hsz : 0 < sz) (hd : d.sz = sz)
    (v : Value) (xs : List α) (F : List Nat) (hs : a.eval s = v) (hM : SliceM d e w v xs F) (hF : F.Nodup)
    (ad : Addr) (m c : Nat) (hx : a.eval x = .slice (some ad) m c) (ys : List α) (css' : List (List Value)) (Gs : List (List Nat)) (hm : ys.length = m) (hy : All3 (d.M w) ys css' Gs) (hG : Gs.flatten.Nodup) (hdis : ∀ k ∈ Gs.flatten, k ∉ F)
    (hcs : ∀ j u, css'.flatten[j]? = some u → w.cell? (ad.add j) = some u) (hm0 : 0 < m) (hlen : xs.length + m ≤ maxLen) (hbytes : (xs.length + m) * bytes ≤ 140737488355328)
    (h : ∀ g cap w' F', Apped d e w w' (.slice (some ⟨g, 0, none⟩) (xs.length + m) cap) (xs ++ ys) F Gs.flatten F' → K (a.put o.dst (.slice (some ⟨g, 0, none⟩) (xs.length + m) cap)) w') : o.wp P a w K Q := by
  obtain ⟨i, hi, hz0, hz1, hz2⟩ := info_parts hinfo
  have hlc : ∀ c ∈ css', c.length = d.sz := fun c hc => by obtain ⟨x, z, _, hr⟩ := hy.each c hc; exact d.K_len (d.M_K hr)
  have hnl : css'.flatten.length = m * sz := by rw [flatten_const hlc, hy.len.1, hm, hd]
  have h1 : ∀ u ∈ css'.flatten, u.oneCell' = true := fun u hu => by
    obtain ⟨c, hc, hu⟩ := List.mem_flatten.1 hu
    obtain ⟨x, z, _, hr⟩ := hy.each c hc
    exact d.K_one (d.M_K hr) u hu
  have hyl : ∀ k ∈ Gs.flatten, k < w.heap.size := fun k hk => by
    obtain ⟨G, hG, hk⟩ := List.mem_flatten.1 hk
    obtain ⟨i, hi, hG⟩ := List.mem_iff_getElem.1 hG
    have hl := hy.len
    obtain ⟨y, z, _, h2, h3⟩ := hy.get i (ys[i]'(by omega)) (List.getElem?_eq_getElem _)
    have : z = G := by rw [List.getElem?_eq_getElem hi, hG] at h2; exact (Option.some.inj h2).symm
    subst this
    exact d.M_lt h3 k hk
  rcases hM.row with ⟨rfl, rfl, rfl⟩ | ⟨b, cap, cur, css, Fs, rfl, hrow, rfl⟩
  · refine wp_append_lies w s x t ho 0 e i z sz bytes ht hi hz0 hz1 hz2 hzs hsz _ 0 [] hs (World.ownsRow_nil w 0 e sz) ad m c css'.flatten hx hnl hcs h1 hm0 (by simpa using hlen) (by simpa using hbytes) (Nat.zero_le _) w.heap.size rfl fun g cap w' hown hgr hor hlt => ?_
    obtain ⟨_, h0 | ⟨g', cap', cur, hv, _, hg, hnc, hcm, hcs2, htk⟩⟩ := hown
    · omega
    simp only [Value.slice.injEq, Option.some.injEq, Addr.mk.injEq, and_true, true_and] at hv
    obtain ⟨rfl, rfl⟩ := hv
    have hgeq : g = w.heap.size := by rcases hor with h0 | h0; simp [Value.ownBlock] at h0; exact h0
    have hK := h g cap w' (g :: Gs.flatten)
    simp only [List.length_nil, Nat.zero_add, List.nil_append] at hK hg hnc htk ⊢
    refine hK ⟨.inr ⟨g, cap, cur, css', Gs, by rw [hm], by omega, hcm, hg, by rw [hd]; exact hcs2, by rw [hm, hd]; exact htk, hy.imp fun x y z hz hx => d.M_move (fun k hk => ?_) hx, rfl⟩, ?_, ?_, ?_⟩
    · exact hgr.block k (d.M_lt hx k hk) (by simp [Value.ownBlock])
    · exact List.nodup_cons.2 ⟨fun hk => by have := hyl g hk; omega, hG⟩
    · intro k hk
      rcases List.mem_cons.1 hk with rfl | hk
      · exact .inr (.inr hgeq)
      · exact .inr (.inl hk)
    · exact Chg.grown (Chg.refl _ _) hgr (by simp [Value.ownBlock])
  · have hbF : b ∉ Fs.flatten := (List.nodup_cons.1 hF).1
    refine wp_append_lies w s x t ho 0 e i z sz bytes ht hi hz0 hz1 hz2 hzs hsz _ xs.length css.flatten hs ⟨?_, .inr ⟨b, cap, cur, rfl, Nat.zero_le _, hrow.blk, hrow.le, hrow.max, by rw [← hd]; exact hrow.size, by rw [← hd]; exact hrow.seg⟩⟩ ad m c css'.flatten hx hnl hcs h1 hm0 hlen hbytes (Nat.zero_le _) w.heap.size rfl fun g cap' w' hown hgr hor hlt => ?_
    · rw [flatten_const fun c hc => by obtain ⟨x, z, _, hr⟩ := hrow.all.each c hc; exact d.K_len (d.M_K hr), hrow.lens.1, hd]
    obtain ⟨_, h0 | ⟨g', cap2, cur', hv, _, hg, hnc, hcm, hcs2, htk⟩⟩ := hown
    · omega
    simp only [Value.slice.injEq, Option.some.injEq, Addr.mk.injEq, and_true, true_and] at hv
    obtain ⟨rfl, rfl⟩ := hv
    have hout : ∀ k, k < w.heap.size → k ≠ b → w'.heap[k]? = w.heap[k]? := fun k hk hne => hgr.block k hk (by simp [Value.ownBlock, hne])
    refine h g cap' w' (g :: (Fs ++ Gs).flatten) ⟨.inr ⟨g, cap', cur', css ++ css', Fs ++ Gs, by rw [List.length_append, hm], by rw [List.length_append, hm]; exact hnc, hcm, hg, by rw [hd]; exact hcs2, by rw [List.length_append, hm, hd, List.flatten_append]; exact htk,
      (hrow.all.imp fun x y z hz hx => d.M_move (fun k hk => hout k (d.M_lt hx k hk) (by rintro rfl; exact hbF (List.mem_flatten.2 ⟨z, hz, hk⟩))) hx).append
        (hy.imp fun x y z hz hx => d.M_move (fun k hk => hout k (d.M_lt hx k hk) (by rintro rfl; exact hdis _ (List.mem_flatten.2 ⟨z, hz, hk⟩) List.mem_cons_self)) hx), rfl⟩, ?_, ?_, ?_⟩
    · rw [List.flatten_append]
      refine List.nodup_cons.2 ⟨fun hk => ?_, ?_⟩
      · rcases hor with h0 | h0
        · simp only [Value.ownBlock, Option.some.injEq] at h0
          subst h0
          rcases List.mem_append.1 hk with hk | hk
          · exact hbF hk
          · exact hdis _ hk List.mem_cons_self
        · rcases List.mem_append.1 hk with hk | hk
          · have := hrow.lt g (List.mem_cons_of_mem _ hk); omega
          · have := hyl g hk; omega
      · rw [List.nodup_append]
        refine ⟨(List.nodup_cons.1 hF).2, hG, fun k hk k' hk' hkk => hdis k' hk' (hkk ▸ List.mem_cons_of_mem _ hk)⟩
    · intro k hk
      rw [List.flatten_append] at hk
      rcases List.mem_cons.1 hk with rfl | hk
      · rcases hor with h0 | h0
        · simp only [Value.ownBlock, Option.some.injEq] at h0
          exact .inl (h0 ▸ List.mem_cons_self)
        · exact .inr (.inr h0)
      · rcases List.mem_append.1 hk with hk | hk
        · exact .inl (List.mem_cons_of_mem _ hk)
        · exact .inr (.inl hk)
    · exact Chg.grown (Chg.refl _ _) hgr (by simp only [Value.ownBlock, Option.some.injEq]; rintro x rfl; exact .inl List.mem_cons_self)

theorem wpList_app (w : World) {ops : Array Oper} {rest : List Oper} {o : Oper} {a : Act} {Q : Exit → Act → World → Prop} (hgd : o.guard = none) (s x : Operand) (t : TypeId)
    (ho : o.op = .call { callee := .builtin .append, args := #[s, x], argTypes := #[t, t] })
    (z : Value) (sz bytes : Nat) (ht : P.underlying t = some (.slice e)) (hinfo : (P.info? e).map (fun i => (i.zero, i.size, i.bytes)) = some (some z, sz, bytes)) (hzs : z.cells.size = sz) (hsz : 0 < sz) (hd : d.sz = sz)
    (v : Value) (xs : List α) (F : List Nat) (hs : a.eval s = v) (hM : SliceM d e w v xs F) (hF : F.Nodup)
    (ad : Addr) (m c : Nat) (hx : a.eval x = .slice (some ad) m c) (ys : List α) (css' : List (List Value)) (Gs : List (List Nat)) (hm : ys.length = m) (hy : All3 (d.M w) ys css' Gs) (hG : Gs.flatten.Nodup) (hdis : ∀ k ∈ Gs.flatten, k ∉ F)
    (hcs : ∀ j u, css'.flatten[j]? = some u → w.cell? (ad.add j) = some u) (hm0 : 0 < m) (hlen : xs.length + m ≤ maxLen) (hbytes : (xs.length + m) * bytes ≤ 140737488355328)
    (h : ∀ g cap w' F', Apped d e w w' (.slice (some ⟨g, 0, none⟩) (xs.length + m) cap) (xs ++ ys) F Gs.flatten F' → wpList P ops Q rest (a.put o.dst (.slice (some ⟨g, 0, none⟩) (xs.length + m) cap)) w') : wpList P ops Q (o :: rest) a w :=
  wpList_plain hgd fun _ hK => wp_app w s x t ho z sz bytes ht hinfo hzs hsz hd v xs F hs hM hF ad m c hx ys css' Gs hm hy hG hdis hcs hm0 hlen hbytes fun g cap w' F' h2 => hK _ _ (h g cap w' F' h2)

/-- An empty row that is made, of no room. -/
theorem emptyM (w : World) : SliceM d e (w.alloc (.cells #[] e)) (.slice (some ⟨w.heap.size, 0, none⟩) 0 0) [] [w.heap.size] :=
  .inr ⟨w.heap.size, 0, #[], [], [], rfl, Nat.le_refl _, Nat.zero_le _, alloc_new w _, by simp, by simp, .nil, rfl⟩
end

/-- append of one number that lies in a box of its own. -/
theorem wpList_app_int {P : Program} {e : TypeId} (w : World) {ops : Array Oper} {rest : List Oper} {o : Oper} {a : Act} {Q : Exit → Act → World → Prop} (hgd : o.guard = none) (s x : Operand) (t : TypeId)
    (ho : o.op = .call { callee := .builtin .append, args := #[s, x], argTypes := #[t, t] })
    (ht : P.underlying t = some (.slice e)) (hinfo : (P.info? e).map (fun i => (i.zero, i.size, i.bytes)) = some (some (.int .i64 0), 1, 8))
    (v : Value) (xs : List Int) (F : List Nat) (hs : a.eval s = v) (hM : SliceM intD e w v xs F) (hF : F.Nodup)
    (b : Nat) (c : Nat) (n : Int) (hx : a.eval x = .slice (some ⟨b, 0, none⟩) 1 c)
    (hcs : w.cell? ⟨b, 0, none⟩ = some (.int .i64 n)) (hlen : xs.length < 1048576)
    (h : ∀ g cap w' F', Apped intD e w w' (.slice (some ⟨g, 0, none⟩) (xs.length + 1) cap) (xs ++ [n]) F [] F' → wpList P ops Q rest (a.put o.dst (.slice (some ⟨g, 0, none⟩) (xs.length + 1) cap)) w') : wpList P ops Q (o :: rest) a w :=
  wpList_app (d := intD) w hgd s x t ho (.int .i64 0) 1 8 ht hinfo rfl (by omega) rfl v xs F hs hM hF ⟨b, 0, none⟩ 1 c hx [n] [[.int .i64 n]] [[]] rfl (.cons ⟨rfl, rfl⟩ .nil) (by simp) (by simp)
    (fun j u hu => by cases j with | zero => simp at hu; subst hu; exact hcs | succ j => simp at hu) (by omega) (by unfold maxLen; omega) (by omega) h
end Go.Proofs.Ytglhepbcbildpaa
namespace Go.Proofs.Ytglhepbcbildpaa
set_option linter.unusedVariables false

/-- The first place where p holds; -1 without one. -/
def idxP {α : Type} (p : α → Bool) (l : List α) : Int := match l.findIdx? p with | some k => (k : Int) | none => -1
theorem idxP_hit {α : Type} {p : α → Bool} {l : List α} {k : Nat} {x : α} (h : ∀ j y, j < k → l[j]? = some y → p y = false) (hk : l[k]? = some x) (hx : p x = true) : idxP p l = (k : Int) := by
  have : l.findIdx? p = some k := by
    rw [List.findIdx?_eq_some_iff_getElem]
    obtain ⟨hl, rfl⟩ := List.getElem?_eq_some_iff.1 hk
    exact ⟨hl, hx, fun j hj => by rw [h j _ hj (List.getElem?_eq_getElem (by omega))]; simp⟩
  unfold idxP; rw [this]
theorem idxP_miss {α : Type} {p : α → Bool} {l : List α} (h : ∀ j y, j < l.length → l[j]? = some y → p y = false) : idxP p l = -1 := by
  have : l.findIdx? p = none := by
    rw [List.findIdx?_eq_none_iff]
    intro x hx
    obtain ⟨j, hj⟩ := List.getElem?_of_mem hx
    exact h j x (List.getElem?_eq_some_iff.1 hj).1 hj
  unfold idxP; rw [this]
theorem idxP_cases {α : Type} (p : α → Bool) (l : List α) : idxP p l = -1 ∨ ∃ (k : Nat) (x : α), idxP p l = (k : Int) ∧ k < l.length ∧ l[k]? = some x ∧ p x = true := by
  unfold idxP
  rcases h : l.findIdx? p with _ | k
  · exact .inl rfl
  · rw [List.findIdx?_eq_some_iff_getElem] at h
    obtain ⟨hl, hx, _⟩ := h
    exact .inr ⟨k, l[k], rfl, hl, List.getElem?_eq_getElem hl, hx⟩
theorem idxP_step {α : Type} {p : α → Bool} {l : List α} {k : Nat} {x : α} (h : ∀ j y, j < k → l[j]? = some y → p y = false) (hk : l[k]? = some x) (hx : p x = false) : ∀ j y, j < k + 1 → l[j]? = some y → p y = false := by
  intro j y hj hy
  by_cases e : j = k
  · subst e; rw [hk] at hy; cases hy; exact hx
  · exact h j y (by omega) hy
theorem idxP_neg {α : Type} {p : α → Bool} {l : List α} (h : idxP p l < 0) : idxP p l = -1 := by
  rcases idxP_cases p l with h1 | ⟨k, x, h1, _⟩
  · exact h1
  · omega
theorem idxP_found {α : Type} {p : α → Bool} {l : List α} (h : 0 ≤ idxP p l) : ∃ (k : Nat) (x : α), idxP p l = (k : Int) ∧ k < l.length ∧ l[k]? = some x ∧ p x = true := by
  rcases idxP_cases p l with h1 | h1
  · omega
  · exact h1
end Go.Proofs.Ytglhepbcbildpaa
namespace Go.Proofs.Ytglhepbcbildpaa
open Go Go.RowKit
set_option linter.unusedVariables false

/-- In block b nothing but the cells from lo up to hi has been written. -/
def Wrote (b lo hi : Nat) (e : TypeId) (w w' : World) : Prop :=
  ∀ cur, w.heap[b]? = some (.cells cur e (0, 0)) → ∃ cur' : Array Value, w'.heap[b]? = some (.cells cur' e (0, 0)) ∧ cur'.size = cur.size ∧ ∀ i, (i < lo ∨ hi ≤ i) → cur'[i]? = cur[i]?
theorem Wrote.refl (b lo hi : Nat) (e : TypeId) (w : World) : Wrote b lo hi e w w := fun cur h => ⟨cur, h, rfl, fun _ _ => rfl⟩
theorem Wrote.set {b lo hi : Nat} {e : TypeId} {w w' : World} (h : Wrote b lo hi e w w') (o : Nat) (u : Value) (h1 : lo ≤ o) (h2 : o < hi) : Wrote b lo hi e w (w'.setCell ⟨b, o, none⟩ u) := by
  intro cur hc
  obtain ⟨cur', h3, h4, h5⟩ := h cur hc
  refine ⟨_, setCell_block w' b o u h3, by simpa using h4, fun i hi => ?_⟩
  rw [Array.getElem?_setIfInBounds_ne (by omega)]
  exact h5 i hi
theorem Wrote.keep {b lo hi : Nat} {e : TypeId} {w w' w2 : World} (h : Wrote b lo hi e w w') (hk : ∀ o, w'.heap[b]? = some o → w2.heap[b]? = some o) : Wrote b lo hi e w w2 := by
  intro cur hc
  obtain ⟨cur', h3, h4⟩ := h cur hc
  exact ⟨cur', hk _ h3, h4⟩
theorem Wrote.below {b lo hi : Nat} {e : TypeId} {w w' w2 : World} (h : Wrote b lo hi e w w') (hk : Below w'.heap.size w' w2) : Wrote b lo hi e w w2 :=
  h.keep fun o ho => (hk.block b (block_lt ho)).trans ho
theorem Wrote.chg {b lo hi : Nat} {e : TypeId} {w w' w2 : World} {F : List Nat} (h : Wrote b lo hi e w w') (hk : Chg F w' w2) (hF : b ∉ F) : Wrote b lo hi e w w2 :=
  h.keep fun o ho => (hk.block b (block_lt ho) hF).trans ho
theorem Wrote.alloc {b lo hi : Nat} {e : TypeId} {w w' : World} (h : Wrote b lo hi e w w') (o : Obj) : Wrote b lo hi e w (w'.alloc o) :=
  h.keep fun q hq => (alloc_old w' o (block_lt hq)).trans hq

theorem nodup_flatten_set : ∀ {Fs : List (List Nat)} {k : Nat} {G G' : List Nat}, Fs.flatten.Nodup → Fs[k]? = some G → G'.Nodup → (∀ y ∈ G', y ∈ G ∨ y ∉ Fs.flatten) → (Fs.set k G').flatten.Nodup
  | [], k, G, G', _, h, _, _ => by simp at h
  | F0 :: Fs, 0, G, G', hn, h, h', ha => by
    simp at h; subst h
    rw [List.flatten_cons, List.nodup_append] at hn
    rw [List.set_cons_zero, List.flatten_cons, List.nodup_append]
    refine ⟨h', hn.2.1, fun a ha1 c hc1 e => ?_⟩
    subst e
    rcases ha a ha1 with h1 | h1
    · exact hn.2.2 a h1 a hc1 rfl
    · exact h1 (List.mem_append.2 (.inr hc1))
  | F0 :: Fs, k + 1, G, G', hn, h, h', ha => by
    have h2 : Fs[k]? = some G := by simpa using h
    rw [List.flatten_cons, List.nodup_append] at hn
    rw [List.set_cons_succ, List.flatten_cons, List.nodup_append]
    refine ⟨hn.1, nodup_flatten_set hn.2.1 h2 h' (fun y hy => ?_), fun a ha1 c hc1 e => ?_⟩
    · rcases ha y hy with h1 | h1
      · exact .inl h1
      · exact .inr fun h3 => h1 (List.mem_append.2 (.inr h3))
    · subst e
      rcases mem_flatten_set h2 hc1 with h3 | h3
      · rcases ha a h3 with h1 | h1
        · exact hn.2.2 a ha1 a (mem_flatten_of h2 h1) rfl
        · exact h1 (List.mem_append.2 (.inl ha1))
      · exact hn.2.2 a ha1 a h3 rfl

theorem seg_of {L L' : List Value} {o : Nat} {cs : List Value} (hl : L'.length = L.length) (hf : o + cs.length ≤ L.length) (h1 : ∀ i u, cs[i]? = some u → L'[o + i]? = some u) (h2 : ∀ i, (i < o ∨ o + cs.length ≤ i) → L'[i]? = L[i]?) : L' = segSet L o cs := by
  apply List.ext_getElem?
  intro i
  rw [segSet_get cs L o i hf]
  by_cases h : o ≤ i ∧ i < o + cs.length
  · rw [if_pos h, List.getElem?_eq_getElem (show i - o < cs.length by omega), ← h1 (i - o) _ (List.getElem?_eq_getElem (by omega)), show o + (i - o) = i by omega]
  · rw [if_neg h]; exact h2 i (by omega)

section
variable {α : Type} {d : Dt α} {e : TypeId} {w : World}
/-- Element k of an owned row, open: what it is, and the row behind a change of it. -/
structure Elem (d : Dt α) (e : TypeId) (w : World) (v : Value) (b : Nat) (xs : List α) (F : List Nat) (k : Nat) (x : α) (cs : List Value) (G : List Nat) : Prop where
  M : d.M w x cs G
  cell : ∀ i u, cs[i]? = some u → w.cell? ⟨b, k * d.sz + i, none⟩ = some u
  frozen : ∀ o, w.frozen? ⟨b, o, none⟩ = false
  sub : ∀ y ∈ G, y ∈ F
  nodup : G.Nodup
  out : b ∉ G
  mem : b ∈ F
  lt : b < w.heap.size
  turn : ∀ (w' : World) (cs' : List Value) (x' : α) (G' : List Nat), Wrote b (k * d.sz) (k * d.sz + d.sz) e w w' → Chg (b :: G) w w' → d.M w' x' cs' G' → (∀ i u, cs'[i]? = some u → w'.cell? ⟨b, k * d.sz + i, none⟩ = some u) → G'.Nodup → (∀ y ∈ G', y ∈ G ∨ w.heap.size ≤ y) →
    ∃ F', SliceM d e w' v (xs.set k x') F' ∧ F'.Nodup ∧ (∀ y ∈ F', y ∈ F ∨ w.heap.size ≤ y) ∧ Chg F w w'
theorem SliceM.elem {b cap : Nat} {xs : List α} {F : List Nat} (h : SliceM d e w (.slice (some ⟨b, 0, none⟩) xs.length cap) xs F) (hF : F.Nodup) {k : Nat} {x : α} (hx : xs[k]? = some x) :
    ∃ cs G, Elem d e w (.slice (some ⟨b, 0, none⟩) xs.length cap) b xs F k x cs G := by
  rcases h.row with ⟨h0, _⟩ | ⟨b', cap', cur, css, Fs, hv, hr, rfl⟩
  · cases h0
  simp only [Value.slice.injEq, Option.some.injEq, Addr.mk.injEq, and_true, true_and] at hv
  obtain ⟨rfl, rfl⟩ := hv
  obtain ⟨cs, G, hc, hG, hm, hcell⟩ := hr.elem hx
  have hbF := (List.nodup_cons.1 hF).1
  have hk := (List.getElem?_eq_some_iff.1 hx).1
  refine ⟨cs, G, hm, hcell, hr.frozen, fun y hy => List.mem_cons_of_mem _ (mem_flatten_of hG hy), nodup_sub (List.nodup_cons.1 hF).2 hG, fun h => hbF (mem_flatten_of hG h), List.mem_cons_self, block_lt hr.blk, ?_⟩
  intro w' cs' x' G' hw hc' hm' hcell' hn' hfr
  obtain ⟨cur', hb', hs', ho'⟩ := hw cur hr.blk
  have hcl := d.K_len (d.M_K hm')
  have hfit := hr.fits hk
  have hupd := hr.upd (w' := w') (cs' := cs') (cur' := cur') (List.nodup_cons.1 hF).2 hx hG hm' hb' (by
    refine seg_of (by simpa using hs') (by rw [hcl, Array.length_toList]; exact hfit) (fun i u hu => ?_) (fun i hi => ?_)
    · have := hcell' i u hu
      rw [cell_block hb'] at this
      rw [Array.getElem?_toList]; exact this
    · rw [hcl] at hi
      rw [Array.getElem?_toList, Array.getElem?_toList]
      exact ho' i hi) (fun y hy hyG => hc'.block y (hr.lt y (List.mem_cons_of_mem _ hy)) (fun h => by
        rcases List.mem_cons.1 h with h | h
        · subst h; exact hbF hy
        · exact hyG h))
  have hlt : ∀ y ∈ Fs.flatten, y < w.heap.size := fun y hy => hr.lt y (List.mem_cons_of_mem _ hy)
  refine ⟨b :: (Fs.set k G').flatten, ?_, ?_, ?_, ?_⟩
  · have := hupd.M
    rwa [List.length_set] at this
  · refine List.nodup_cons.2 ⟨fun h => ?_, nodup_flatten_set (List.nodup_cons.1 hF).2 hG hn' (fun y hy => ?_)⟩
    · rcases mem_flatten_set hG h with h1 | h1
      · rcases hfr b h1 with h2 | h2
        · exact hbF (mem_flatten_of hG h2)
        · have := block_lt hr.blk; omega
      · exact hbF h1
    · rcases hfr y hy with h2 | h2
      · exact .inl h2
      · exact .inr fun h => by have := hlt y h; omega
  · intro y hy
    rcases List.mem_cons.1 hy with rfl | hy
    · exact .inl List.mem_cons_self
    · rcases mem_flatten_set hG hy with h1 | h1
      · rcases hfr y h1 with h2 | h2
        · exact .inl (List.mem_cons_of_mem _ (mem_flatten_of hG h2))
        · exact .inr h2
      · exact .inl (List.mem_cons_of_mem _ h1)
  · exact hc'.mono fun y hy => .inl (by
      rcases List.mem_cons.1 hy with rfl | hy
      · exact List.mem_cons_self
      · exact List.mem_cons_of_mem _ (mem_flatten_of hG hy))
end
end Go.Proofs.Ytglhepbcbildpaa
namespace Go.Proofs.Ytglhepbcbildpaa
open Go Go.RowKit
set_option linter.unusedVariables false
set_option linter.unusedSimpArgs false

section
variable {P : Program}
theorem run_app0 (w : World) (t ty e : TypeId) (i : TypeInfo) (ht : P.underlying t = some (.slice e)) (hi : P.info? e = some i) (base : Option Addr) (sLen sCap : Nat) (hle : sLen ≤ sCap) (A : Option Addr) (c : Nat) :
    (Builtin.append_ #[t, t] ty #[.slice base sLen sCap, .slice A 0 c]).run P w = .ok (.slice base sLen sCap) w := by
  cases A <;> cases base <;> simp [Builtin.append_, run_underlying ht, sizeOf, typeInfo, hi, Builtin.lenOf, Builtin.firstCells, hle, storeCells, loadCells, loadCellsFrom]
/-- append of nothing. -/
theorem wpList_app0 (w : World) {ops : Array Oper} {rest : List Oper} {o : Oper} {a : Act} {Q : Exit → Act → World → Prop} (hgd : o.guard = none) (s x : Operand) (t e : TypeId)
    (ho : o.op = .call { callee := .builtin .append, args := #[s, x], argTypes := #[t, t] })
    (i : TypeInfo) (ht : P.underlying t = some (.slice e)) (hi : P.info? e = some i) (base : Option Addr) (sLen sCap : Nat) (hle : sLen ≤ sCap) (hs : a.eval s = .slice base sLen sCap) (A : Option Addr) (c : Nat) (hx : a.eval x = .slice A 0 c)
    (h : wpList P ops Q rest (a.put o.dst (.slice base sLen sCap)) w) : wpList P ops Q (o :: rest) a w := by
  refine wpList_plain hgd fun K hK => ?_
  have hrun := run_app0 (P := P) w t o.type e i ht hi base sLen sCap hle A c
  unfold Oper.wp
  simp [execOp, ho, resolve, invoke, builtin, hs, hx, hrun, Result.andThen]
  exact hK _ _ h
theorem flat1 {α : Type} (f : α → Value) : ∀ xs : List α, (xs.map fun x => [f x]).flatten = xs.map f
  | [] => rfl
  | x :: xs => by simp [flat1 f xs]
/-- append of a whole row of numbers. -/
theorem wpList_app_ints {e : TypeId} (w : World) {ops : Array Oper} {rest : List Oper} {o : Oper} {a : Act} {Q : Exit → Act → World → Prop} (hgd : o.guard = none) (s x : Operand) (t : TypeId)
    (ho : o.op = .call { callee := .builtin .append, args := #[s, x], argTypes := #[t, t] })
    (ht : P.underlying t = some (.slice e)) (hinfo : (P.info? e).map (fun i => (i.zero, i.size, i.bytes)) = some (some (.int .i64 0), 1, 8))
    (v : Value) (xs : List Int) (F : List Nat) (hs : a.eval s = v) (hM : SliceM intD e w v xs F) (hF : F.Nodup)
    (b o2 : Nat) (c : Nat) (ys : List Int) (hx : a.eval x = .slice (some ⟨b, o2, none⟩) ys.length c) (hr : RowAt intD w b o2 ys) (hy : 0 < ys.length) (hlen : xs.length + ys.length ≤ 1048576)
    (h : ∀ g cap w' F', Apped intD e w w' (.slice (some ⟨g, 0, none⟩) (xs.length + ys.length) cap) (xs ++ ys) F [] F' → wpList P ops Q rest (a.put o.dst (.slice (some ⟨g, 0, none⟩) (xs.length + ys.length) cap)) w') : wpList P ops Q (o :: rest) a w := by
  have hn : (ys.map fun _ => ([] : List Nat)).flatten = [] := flatten_nils ys
  refine wpList_app (d := intD) w hgd s x t ho (.int .i64 0) 1 8 ht hinfo rfl (by omega) rfl v xs F hs hM hF ⟨b, o2, none⟩ ys.length c hx ys (ys.map fun n => [Value.int .i64 n]) (ys.map fun _ => []) rfl (All3.flat ys) (by rw [hn]; simp) (by rw [hn]; simp)
    (fun j u hu => ?_) hy (by unfold maxLen; omega) (by omega) (by rw [hn]; exact h)
  rw [flat1 (fun n => Value.int .i64 n), List.getElem?_map] at hu
  rcases hj : ys[j]? with _ | n
  · rw [hj] at hu; cases hu
  · rw [hj] at hu
    simp only [Option.map_some, Option.some.injEq] at hu
    subst hu
    have h2 := (int_at hr (Below.refl _ _) hj).2
    have : (⟨b, o2, none⟩ : Addr).add j = ⟨b, o2 + j, none⟩ := by
      unfold Addr.add; split
      · rename_i h0; subst h0; rfl
      · rfl
    rw [this]; exact h2
end
end Go.Proofs.Ytglhepbcbildpaa
namespace Go.Proofs.Ytglhepbcbildpaa
open Go Go.RowKit
set_option linter.unusedVariables false
set_option linter.unusedSimpArgs false

section
variable {P : Program} {α : Type} {n : Nat} {enc : α → List Value} {hl : ∀ x, (enc x).length = n} {h1 : ∀ x, ∀ u ∈ enc x, u.oneCell' = true}
theorem flatten_at {n : Nat} (hn : 0 < n) : ∀ (css : List (List Value)), (∀ c ∈ css, c.length = n) → ∀ (j : Nat) (u : Value), css.flatten[j]? = some u → ∃ cs, css[j / n]? = some cs ∧ cs[j % n]? = some u
  | [], _, j, u, h => by simp at h
  | c :: css, hc, j, u, h => by
    have hcl : c.length = n := hc c List.mem_cons_self
    rw [List.flatten_cons] at h
    by_cases hj : j < n
    · rw [List.getElem?_append_left (by omega)] at h
      exact ⟨c, by rw [Nat.div_eq_of_lt hj]; rfl, by rw [Nat.mod_eq_of_lt hj]; exact h⟩
    · rw [List.getElem?_append_right (by omega), hcl] at h
      obtain ⟨cs, h2, h3⟩ := flatten_at hn css (fun x hx => hc x (List.mem_cons_of_mem _ hx)) (j - n) u h
      refine ⟨cs, ?_, ?_⟩
      · rw [Nat.div_eq_sub_div hn (by omega), List.getElem?_cons_succ]; exact h2
      · rw [Nat.mod_eq_sub_mod (by omega)]; exact h3
/-- append of a whole row of flat structs. -/
theorem wpList_app_flat {e : TypeId} (w : World) {ops : Array Oper} {rest : List Oper} {o : Oper} {a : Act} {Q : Exit → Act → World → Prop} (hgd : o.guard = none) (s x : Operand) (t : TypeId)
    (ho : o.op = .call { callee := .builtin .append, args := #[s, x], argTypes := #[t, t] }) (z : Value) (bytes : Nat)
    (ht : P.underlying t = some (.slice e)) (hinfo : (P.info? e).map (fun i => (i.zero, i.size, i.bytes)) = some (some z, n, bytes)) (hzs : z.cells.size = n) (hn : 0 < n) (hby : bytes ≤ 1000)
    (v : Value) (xs : List α) (F : List Nat) (hs : a.eval s = v) (hM : SliceM (Dt.flat n enc hl h1) e w v xs F) (hF : F.Nodup)
    (b o2 : Nat) (c : Nat) (ys : List α) (hx : a.eval x = .slice (some ⟨b, o2, none⟩) ys.length c) (hr : RowAt (Dt.flat n enc hl h1) w b o2 ys) (hy : 0 < ys.length) (hlen : xs.length + ys.length ≤ 1048576)
    (h : ∀ g cap w' F', Apped (Dt.flat n enc hl h1) e w w' (.slice (some ⟨g, 0, none⟩) (xs.length + ys.length) cap) (xs ++ ys) F [] F' → wpList P ops Q rest (a.put o.dst (.slice (some ⟨g, 0, none⟩) (xs.length + ys.length) cap)) w') : wpList P ops Q (o :: rest) a w := by
  have hnn : (ys.map fun _ => ([] : List Nat)).flatten = [] := flatten_nils ys
  have hb1 : (xs.length + ys.length) * bytes ≤ 1048576 * 1000 := Nat.mul_le_mul hlen hby
  refine wpList_app (d := Dt.flat n enc hl h1) w hgd s x t ho z n bytes ht hinfo hzs hn rfl v xs F hs hM hF ⟨b, o2, none⟩ ys.length c hx ys (ys.map enc) (ys.map fun _ => []) rfl (All3.flat ys) (by rw [hnn]; simp) (by rw [hnn]; simp)
    (fun j u hu => ?_) hy (by unfold maxLen; omega) (by omega) (by rw [hnn]; exact h)
  obtain ⟨cs, h2, h3⟩ := flatten_at hn (ys.map enc) (fun c hc => by obtain ⟨y, _, rfl⟩ := List.mem_map.1 hc; exact hl y) j u hu
  rw [List.getElem?_map] at h2
  rcases hj : ys[j / n]? with _ | y
  · rw [hj] at h2; cases h2
  · rw [hj] at h2
    simp only [Option.map_some, Option.some.injEq] at h2
    subst h2
    obtain ⟨cs', hk, hc⟩ := hr (j / n) y hj
    obtain rfl : cs' = enc y := hk
    have h4 := hc (j % n) u h3
    have h5 : o2 + j / n * n + j % n = o2 + j := by have := Nat.div_add_mod' j n; omega
    rw [show (⟨b, o2, none⟩ : Addr).add j = ⟨b, o2 + j, none⟩ by unfold Addr.add; split <;> simp_all]
    rw [← h5]; exact h4
end
end Go.Proofs.Ytglhepbcbildpaa
namespace Go.Proofs.Ytglhepbcbildpaa
open Go Go.RowKit Go.ChangeShapes Go.WideShapes Go.Deep
set_option linter.unusedVariables false

theorem spot_none {w : World} {a : Addr} {v : Value} (h : w.cell? a = some v) : a.spot = none := by
  unfold World.cell? at h
  split at h
  · split at h
    · cases h
    · rename_i h2; simpa using h2
  · cases h
theorem add_at {b o n : Nat} : (⟨b, o, none⟩ : Addr).add n = ⟨b, o + n, none⟩ := by
  unfold Addr.add; split
  · rename_i h; subst h; rfl
  · rfl

/-- A type's readings from without are plain data. -/
def Opens {α : Type} (P : Program) (d : Dt α) (ok : α → Prop) (t : TypeId) : Prop :=
  ∀ (H : Type) (enc : TypeId × Value → H) (W : World) (held : Bool) (fuel : Nat) (cs : List Value) (y : DataW H × List MemPlace),
    DataW.trod enc P W 0 (fun _ => true) held fuel t cs = some y → ∃ x, d.K W x cs ∧ ok x

section
variable {P : Program}
theorem opens_int {t : TypeId} (ht : P.underlying t = some (.int .i64)) : Opens P intD (fun _ => True) t := by
  intro H enc W held fuel cs y h
  obtain ⟨n, rfl, _, _⟩ := DataW.trod_int ht h
  exact ⟨n, rfl, trivial⟩
theorem opens_slice {α : Type} {d : Dt α} {ok : α → Prop} {t e : TypeId} (ht : P.underlying t = some (.slice e)) (hC : P.cellsOf e = d.sz) (hsz : 0 < d.sz) (h : Opens P d ok e)
    (H : Type) (enc : TypeId × Value → H) (W : World) (held : Bool) (fuel : Nat) (v : Value) (y : DataW H × List MemPlace)
    (hy : DataW.trod enc P W 0 (fun _ => true) held fuel t [v] = some y) : ∃ xs, SliceK d W v xs ∧ ∀ x ∈ xs, ok x := by
  rcases open_slice ht hy with ⟨hcs, _⟩ | ⟨a, len, cap, m, n, D, Pl, hcs, hb, hl, hm, hmm, hx, hi⟩
  · simp only [List.cons.injEq, and_true] at hcs
    subst hcs
    exact ⟨[], SliceK.nil d W, by simp⟩
  · simp only [List.cons.injEq, and_true] at hcs
    subst hcs
    have hlm : len ≤ m := by rw [hmm]; simp only [if_true]; exact hl
    by_cases h0 : len = 0
    · subst h0
      exact ⟨[], ⟨_, _, rfl, Nat.zero_le _, hm, .inl rfl⟩, by simp⟩
    · have hs : a.spot = none := by
        obtain ⟨cs', hc, ht'⟩ := hi 0 (by omega)
        obtain ⟨_, _, hat⟩ := World.cells?_some hc
        obtain ⟨x, hK, _⟩ := h H enc W held n cs' _ ht'
        have h1 := hat 0 (by omega)
        rw [List.getElem?_eq_getElem (by rw [d.K_len hK]; exact hsz)] at h1
        have h2 := spot_none h1
        simpa [Addr.add] using h2
      obtain ⟨b, o, sp⟩ := a
      simp only at hs
      subst hs
      have hex : ∀ i, ∃ x, i < len → ok x ∧ ∃ cs, d.K W x cs ∧ ∀ j u, cs[j]? = some u → W.cell? ⟨b, o + i * d.sz + j, none⟩ = some u := fun i => by
        by_cases hlt : i < len
        · obtain ⟨cs', hc, ht'⟩ := hi i (by omega)
          obtain ⟨_, hcl, hat⟩ := World.cells?_some hc
          obtain ⟨x, hK, hok⟩ := h H enc W held n cs' _ ht'
          refine ⟨x, fun _ => ⟨hok, cs', hK, fun j u hj => ?_⟩⟩
          have hjl : j < P.cellsOf e := by rw [← hcl]; exact (List.getElem?_eq_some_iff.1 hj).1
          have := hat j hjl
          rw [add_at, add_at, hC, hj] at this
          exact this
        · obtain ⟨cs', hc, ht'⟩ := hi 0 (by omega)
          obtain ⟨x, hK, hok⟩ := h H enc W held n cs' _ ht'
          exact ⟨x, fun h => absurd h hlt⟩
      have ⟨f, hf⟩ := Classical.axiomOfChoice hex
      refine ⟨(List.range len).map f, ⟨_, cap, by simp, by simpa using hl, hm, .inr ⟨b, o, rfl, fun j x hj => ?_⟩⟩, fun x hx => ?_⟩
      · rw [List.getElem?_map] at hj
        rcases hr : (List.range len)[j]? with _ | q
        · rw [hr] at hj; simp at hj
        · rw [hr] at hj
          obtain ⟨hlt, hq⟩ := List.getElem?_eq_some_iff.1 hr
          simp at hlt hq hj
          subst hq
          subst hj
          exact (hf j hlt).2
      · obtain ⟨i, hi2, rfl⟩ := List.mem_map.1 hx
        exact (hf i (List.mem_range.1 hi2)).1
/-- A struct whose fields are of one cell each: its fields' readings. -/
theorem open_fields {H : Type} {enc : TypeId × Value → H} {W : World} {held : Bool} {fuel : Nat} {t : TypeId} {fs : Array Field} {cs : List Value} {y : DataW H × List MemPlace} (ht : P.underlying t = some (.struct fs)) (hone : oneCellFields P fs = true) (hC : P.cellsOf t = fs.size)
    (h : DataW.trod enc P W 0 (fun _ => true) held fuel t cs = some y) :
    cs.length = fs.size ∧ ∀ (j : Nat) (f : Field), fs[j]? = some f → ∃ v n z, cs[j]? = some v ∧ DataW.trod enc P W 0 (fun _ => true) held n f.type [v] = some z := by
  obtain ⟨xs, n, _, _, hlen, hxl, hf⟩ := DataW.trod_struct ht h
  refine ⟨hlen.trans hC, fun j f hj => ?_⟩
  obtain ⟨ho, hk⟩ := hone_of hone j f hj
  have hjl : j < fs.size := (Array.getElem?_eq_some_iff.1 hj).1
  have h1 := hf j f hj
  rw [ho, hk, List.drop_eq_getElem_cons (by omega), List.getElem?_eq_getElem (by omega)] at h1
  exact ⟨_, n, _, List.getElem?_eq_getElem (by omega), h1⟩
end

theorem open_row {P : Program} {α : Type} {d : Dt α} {ok : α → Prop} {t e : TypeId} (ht : P.underlying t = some (.slice e)) (hC : P.cellsOf e = d.sz) (hsz : 0 < d.sz) (h : Opens P d ok e)
    {H : Type} {enc : TypeId × Value → H} {W : World} {held : Bool} {b0 : Nat} {v : Value} {D : DataW H} {ps : List MemPlace} (hv : Value.okWide P W .any b0 t v)
    (hy : DataW.Trod enc P W 0 (fun _ => true) held t v D ps) : ∃ xs, SliceK d W v xs ∧ ∀ x ∈ xs, ok x := by
  obtain ⟨a, len, cap, rfl⟩ := okWide_slice ht hv
  obtain ⟨fuel, hy⟩ := hy
  exact opens_slice ht hC hsz h H enc W held fuel _ _ hy
theorem opens_str {P : Program} {t : TypeId} (ht : P.underlying t = some .string) : Opens P strD (fun s => s.size ≤ 9223372036854775807) t := by
  intro H enc W held fuel cs y h
  obtain ⟨n, rfl, _, hs⟩ := DataW.trod_string ht h
  exact ⟨n, rfl, hs⟩
end Go.Proofs.Ytglhepbcbildpaa
namespace Go.Proofs.Ytglhepbcbildpaa
open Go Go.RowKit
set_option linter.unusedVariables false

/-- The cells of a block, from its first on. -/
def Cells (W : World) (b : Nat) (cs : List Value) : Prop := ∀ j u, cs[j]? = some u → W.cell? ⟨b, j, none⟩ = some u
theorem Cells.below {w w' : World} {b : Nat} {cs : List Value} (h : Cells w b cs) (hb : Below w.heap.size w w') : Cells w' b cs := fun j u hj => cell_below hb (h j u hj)
theorem Chg.cell {F : List Nat} {w w' : World} (hc : Chg F w w') {b o : Nat} (hF : b ∉ F) {v : Value} (h : w.cell? ⟨b, o, none⟩ = some v) : w'.cell? ⟨b, o, none⟩ = some v := by
  have hl := World.block_lt_of_cell? w _ h
  have := hc.block b hl hF
  unfold World.cell? at *
  simp only at *
  rw [this]; exact h
theorem Cells.chg {w w' : World} {b : Nat} {cs : List Value} {F : List Nat} (h : Cells w b cs) (hc : Chg F w w') (hF : b ∉ F) : Cells w' b cs := fun j u hj => hc.cell hF (h j u hj)
theorem Cells.new {w V : World} {arr : Array Value} {t : TypeId} (h : V = w.alloc (.cells arr t)) : Cells V w.heap.size arr.toList := by
  intro j u hj
  subst h
  simpa using hj
theorem Cells.lt {w : World} {b : Nat} {cs : List Value} (h : Cells w b cs) (hn : cs ≠ []) : b < w.heap.size := by
  cases cs with
  | nil => exact absurd rfl hn
  | cons c cs => exact World.block_lt_of_cell? w _ (h 0 c rfl)
theorem boxed {w V : World} {o : Obj} (h : V = w.alloc o) : Below w.heap.size w V ∧ V.heap.size = w.heap.size + 1 := by
  subst h; exact ⟨(Below.refl _ _).alloc (Nat.le_refl _) _, by simp⟩

theorem SliceM.chg {α : Type} {d : Dt α} {e : TypeId} {w w' : World} {v : Value} {xs : List α} {F G : List Nat} (h : SliceM d e w v xs F) (hc : Chg G w w') (hd : ∀ b ∈ F, b ∉ G) : SliceM d e w' v xs F :=
  h.move fun b hb => hc.block b (h.lt b hb) (hd b hb)
theorem SliceM.by {α : Type} {d : Dt α} {e : TypeId} {w w' : World} {v : Value} {xs : List α} {F : List Nat} (h : SliceM d e w v xs F) (hc : Below w.heap.size w w') : SliceM d e w' v xs F :=
  h.move fun b hb => hc.block b (h.lt b hb)
theorem Dt.chg {α : Type} {d : Dt α} {w w' : World} {x : α} {cs : List Value} {F G : List Nat} (h : d.M w x cs F) (hc : Chg G w w') (hd : ∀ b ∈ F, b ∉ G) : d.M w' x cs F :=
  d.M_move (fun b hb => hc.block b (d.M_lt h b hb) (hd b hb)) h
theorem Dt.by {α : Type} {d : Dt α} {w w' : World} {x : α} {cs : List Value} {F : List Nat} (h : d.M w x cs F) (hc : Below w.heap.size w w') : d.M w' x cs F :=
  d.M_move (fun b hb => hc.block b (d.M_lt h b hb)) h
theorem apart {F G : List Nat} {n : Nat} (hF : ∀ b ∈ F, b < n) (hG : ∀ b ∈ G, n ≤ b) : ∀ b ∈ F, b ∉ G := fun b h1 h2 => by have := hF b h1; have := hG b h2; omega
theorem apart' {F G : List Nat} {n : Nat} (hF : ∀ b ∈ F, n ≤ b) (hG : ∀ b ∈ G, b < n) : ∀ b ∈ F, b ∉ G := fun b h1 h2 => by have := hF b h1; have := hG b h2; omega
theorem out_lt {G : List Nat} {n b : Nat} (hb : n ≤ b) (hG : ∀ b ∈ G, b < n) : b ∉ G := fun h => by have := hG b h; omega
theorem out_ge {G : List Nat} {n b : Nat} (hb : b < n) (hG : ∀ b ∈ G, n ≤ b) : b ∉ G := fun h => by have := hG b h; omega
theorem heldI_marks (k : Int) (n : Nat) : heldI k (marks k n) = k + n := by unfold heldI; rw [if_pos (by rw [marks_len]), marks_len]
theorem dec_same {α : Type} [DecidableEq α] (x : α) : decide (x = x) = true := by simp
theorem sizeAll_get {α : Type} (f : α → Nat) : ∀ (xs : List α) (x : α), x ∈ xs → f x ≤ sizeAll f xs
  | y :: xs, x, h => by
    rcases List.mem_cons.1 h with rfl | h
    · exact Nat.le_add_right _ _
    · exact Nat.le_trans (sizeAll_get f xs x h) (Nat.le_add_left _ _)

/-- A returned struct that was made behind w, and a Bool. -/
def RetElem2 {α : Type} (d : Dt α) (w : World) (x : α) (ok : Bool) (r : Ending) (w' : World) : Prop :=
  ∃ cs F, r = .returned (.tuple #[.agg cs.toArray, .bool ok]) ∧ d.M w' x cs F ∧ F.Nodup ∧ (∀ b ∈ F, w.heap.size ≤ b) ∧ Below w.heap.size w w'
/-- A returned struct that was made behind w, a number and a Bool. -/
def RetElem3 {α : Type} (d : Dt α) (w : World) (x : α) (n : Int) (ok : Bool) (r : Ending) (w' : World) : Prop :=
  ∃ cs F, r = .returned (.tuple #[.agg cs.toArray, .int .i64 n, .bool ok]) ∧ d.M w' x cs F ∧ F.Nodup ∧ (∀ b ∈ F, w.heap.size ≤ b) ∧ Below w.heap.size w w'
end Go.Proofs.Ytglhepbcbildpaa
namespace Go.Proofs.Ytglhepbcbildpaa
open Go Go.RowKit
set_option linter.unusedVariables false

section
variable {α : Type} {d : Dt α} {e : TypeId} {w w' : World} {b : Nat} {x : α} {F : List Nat}
/-- A box that holds a struct of a call's own; F: its block and those of what it holds. -/
def BoxM (d : Dt α) (e : TypeId) (w : World) (b : Nat) (x : α) (F : List Nat) : Prop :=
  ∃ cs G, F = b :: G ∧ w.heap[b]? = some (.cells cs.toArray e (0, 0)) ∧ d.M w x cs G ∧ F.Nodup
theorem BoxM.lt (h : BoxM d e w b x F) : ∀ y ∈ F, y < w.heap.size := by
  obtain ⟨cs, G, rfl, hb, hm, _⟩ := h
  intro y hy
  rcases List.mem_cons.1 hy with rfl | hy
  · exact block_lt hb
  · exact d.M_lt hm y hy
theorem BoxM.move (hm : ∀ y ∈ F, w'.heap[y]? = w.heap[y]?) (h : BoxM d e w b x F) : BoxM d e w' b x F := by
  obtain ⟨cs, G, rfl, hb, hM, hn⟩ := h
  exact ⟨cs, G, rfl, (hm b List.mem_cons_self).trans hb, d.M_move (fun y hy => hm y (List.mem_cons_of_mem _ hy)) hM, hn⟩
theorem BoxM.by (h : BoxM d e w b x F) (hc : Below w.heap.size w w') : BoxM d e w' b x F := h.move fun y hy => hc.block y (h.lt y hy)
theorem BoxM.chg {G : List Nat} (h : BoxM d e w b x F) (hc : Chg G w w') (hd : ∀ y ∈ F, y ∉ G) : BoxM d e w' b x F := h.move fun y hy => hc.block y (h.lt y hy) (hd y hy)
theorem BoxM.row (h : BoxM d e w b x F) : RowAt d w b 0 [x] := by
  obtain ⟨cs, G, rfl, hb, hM, hn⟩ := h
  intro j y hj
  cases j with
  | zero =>
    simp at hj; subst hj
    refine ⟨cs, d.M_K hM, fun i u hi => ?_⟩
    rw [cell_block hb]; simpa using hi
  | succ j => simp at hj
theorem BoxM.mem (h : BoxM d e w b x F) : b ∈ F := by obtain ⟨cs, G, rfl, _⟩ := h; exact List.mem_cons_self
theorem BoxM.nodup (h : BoxM d e w b x F) : F.Nodup := by obtain ⟨cs, G, rfl, _, _, hn⟩ := h; exact hn
theorem BoxM.frozen (h : BoxM d e w b x F) (o : Nat) : w.frozen? ⟨b, o, none⟩ = false := by obtain ⟨cs, G, rfl, hb, _⟩ := h; exact frozen_block hb
/-- What a function value does with a struct in a box: only where it says yes the struct is told. -/
def TurnsB (P : Program) (d : Dt α) (e : TypeId) (g : Nat) (caps : Array Value) (pre : α → Prop) (f : α → α × Bool) (w : World) : Prop :=
  ∀ (x : α) (b : Nat) (F : List Nat) (W : World), Below w.heap.size w W → BoxM d e W b x F → (∀ y ∈ F, w.heap.size ≤ y) → pre x →
    Calls P g (#[.pointer (some ⟨b, 0, none⟩)] ++ caps) W fun r W' => r = .returned (.bool (f x).2) ∧ Chg F W W' ∧
      ((f x).2 = true → ∃ F', BoxM d e W' b (f x).1 F' ∧ ∀ y ∈ F', y ∈ F ∨ W.heap.size ≤ y)
end

section
variable {P : Program} {α : Type} {n : Nat} {enc : α → List Value} {hl : ∀ x, (enc x).length = n} {h1 : ∀ x, ∀ u ∈ enc x, u.oneCell' = true}
/-- A new box whose struct's rows are its own. -/
theorem BoxM.new {α : Type} {d : Dt α} {e : TypeId} {w W : World} {x : α} {cs : List Value} {F : List Nat} (hM : d.M w x cs F) (hF : F.Nodup) (hW : W = w.alloc (.cells cs.toArray e)) : BoxM d e W w.heap.size x (w.heap.size :: F) := by
  subst hW
  refine ⟨_, F, rfl, alloc_new w _, d.M_move (fun y hy => alloc_old w _ (d.M_lt hM y hy)) hM, List.nodup_cons.2 ⟨fun h => by have := d.M_lt hM _ h; omega, hF⟩⟩
end
end Go.Proofs.Ytglhepbcbildpaa
namespace Go.Proofs.Ytglhepbcbildpaa
open Go Go.RowKit
set_option linter.unusedVariables false

/-- A piece of memory: its blocks, and what is known of them. -/
structure Piece where
  F : List Nat
  R : World → Prop
  move : ∀ {w w' : World}, (∀ b ∈ F, w'.heap[b]? = w.heap[b]?) → R w → R w'
  lt : ∀ {w : World}, R w → ∀ b ∈ F, b < w.heap.size

/-- A block that is known whole. -/
def blk (b : Nat) (arr : Array Value) (e : TypeId) : Piece where
  F := [b]
  R := fun w => w.heap[b]? = some (.cells arr e (0, 0))
  move := fun h hr => (h _ List.mem_cons_self).trans hr
  lt := fun hr b hb => by rw [List.mem_singleton.1 hb]; exact block_lt hr
/-- An owned row. -/
def own {α : Type} (d : Dt α) (e : TypeId) (v : Value) (xs : List α) (F : List Nat) : Piece where
  F := F
  R := fun w => SliceM d e w v xs F
  move := fun h hr => hr.move h
  lt := fun hr => hr.lt
/-- An owned struct by value. -/
def ownD {α : Type} (d : Dt α) (x : α) (cs : List Value) (F : List Nat) : Piece where
  F := F
  R := fun w => d.M w x cs F
  move := fun h hr => d.M_move h hr
  lt := fun hr => d.M_lt hr
/-- An owned struct in a box. -/
def boxP {α : Type} (d : Dt α) (e : TypeId) (b : Nat) (x : α) (F : List Nat) : Piece where
  F := F
  R := fun w => BoxM d e w b x F
  move := fun h hr => hr.move h
  lt := fun hr => hr.lt
/-- Blocks of which nothing is known. -/
def junk (F : List Nat) : Piece where
  F := F
  R := fun w => ∀ b ∈ F, b < w.heap.size
  move := fun {w w'} h hr b hb => by
    have h1 := h b hb
    have h2 := hr b hb
    rw [Array.getElem?_eq_getElem h2] at h1
    exact block_lt h1
  lt := fun hr => hr

def feet (L : List Piece) : List Nat := L.flatMap Piece.F
theorem feet_cons (p : Piece) (L : List Piece) : feet (p :: L) = p.F ++ feet L := by simp [feet]
theorem mem_feet {p : Piece} {L : List Piece} (hp : p ∈ L) {b : Nat} (hb : b ∈ p.F) : b ∈ feet L := List.mem_flatMap.2 ⟨p, hp, hb⟩

structure St (w0 w : World) (L : List Piece) : Prop where
  below : Below w0.heap.size w0 w
  all : ∀ p ∈ L, p.R w
  nodup : (feet L).Nodup
  ge : ∀ b ∈ feet L, w0.heap.size ≤ b
section
variable {w0 w w' : World} {L : List Piece} {A A' B C D : Piece}
theorem St.start (w : World) : St w w [] := ⟨Below.refl _ _, by simp, by simp [feet], by simp [feet]⟩
theorem St.lt (h : St w0 w L) : ∀ b ∈ feet L, b < w.heap.size := by
  intro b hb
  obtain ⟨p, hp, hb⟩ := List.mem_flatMap.1 hb
  exact p.lt (h.all p hp) b hb
theorem St.size (h : St w0 w L) : w0.heap.size ≤ w.heap.size := h.below.size
theorem St.by (h : St w0 w L) (hb : Below w.heap.size w w') : St w0 w' L :=
  ⟨below_step h.below hb, fun p hp => p.move (fun b hF => hb.block b (p.lt (h.all p hp) b hF)) (h.all p hp), h.nodup, h.ge⟩
theorem St.base {w1 : World} (h : St w1 w L) (hb : Below w0.heap.size w0 w1) : St w0 w L :=
  ⟨below_step hb h.below, h.all, h.nodup, fun b hF => Nat.le_trans hb.size (h.ge b hF)⟩
theorem St.drew (h : St w0 w L) : St w0 w.drew L := h.by (Below.refl _ _).drew
theorem St.drewN (h : St w0 w L) (n : Nat) : St w0 (w.drewN n) L := h.by (below_drewN (Below.refl _ _) n)
/-- Something new. -/
theorem St.new (h : St w0 w L) (hb : Below w.heap.size w w') (hR : A.R w') (hn : A.F.Nodup) (hge : ∀ b ∈ A.F, w.heap.size ≤ b) : St w0 w' (A :: L) := by
  have hL := h.by hb
  refine ⟨hL.below, fun p hp => ?_, ?_, fun b hF => ?_⟩
  · rcases List.mem_cons.1 hp with rfl | hp
    · exact hR
    · exact hL.all p hp
  · rw [feet_cons, List.nodup_append]
    refine ⟨hn, hL.nodup, fun a ha b hb e => ?_⟩
    subst e
    have := hge a ha; have := h.lt a hb; omega
  · rw [feet_cons] at hF
    rcases List.mem_append.1 hF with h1 | h1
    · exact Nat.le_trans h.size (hge b h1)
    · exact hL.ge b h1
theorem St.alloc (h : St w0 w L) {k : Nat} {arr : Array Value} {e : TypeId} (hk : k = w.heap.size) : St w0 (w.alloc (.cells arr e)) (blk k arr e :: L) := by
  subst hk
  exact h.new ((Below.refl _ _).alloc (Nat.le_refl _) _) (alloc_new w _) (by simp [blk]) (by simp [blk])
/-- What lies first is turned. -/
theorem St.turn (h : St w0 w (A :: L)) (hc : Chg A.F w w') (hR : A'.R w') (hn : A'.F.Nodup) (hfr : ∀ b ∈ A'.F, b ∈ A.F ∨ w.heap.size ≤ b) : St w0 w' (A' :: L) := by
  have hd := h.nodup
  rw [feet_cons, List.nodup_append] at hd
  have hl : ∀ b ∈ feet L, b < w.heap.size := fun b hb => h.lt b (by rw [feet_cons]; exact List.mem_append.2 (.inr hb))
  refine ⟨h.below.trans (hc.below h.size fun b hb => h.ge b (by rw [feet_cons]; exact List.mem_append.2 (.inl hb))), fun p hp => ?_, ?_, fun b hF => ?_⟩
  · rcases List.mem_cons.1 hp with rfl | hp
    · exact hR
    · exact p.move (fun b hb => hc.block b (hl b (mem_feet hp hb)) fun ha => hd.2.2 b ha b (mem_feet hp hb) rfl) (h.all p (List.mem_cons_of_mem _ hp))
  · rw [feet_cons, List.nodup_append]
    refine ⟨hn, hd.2.1, fun a ha b hb e => ?_⟩
    subst e
    rcases hfr a ha with h1 | h1
    · exact hd.2.2 a h1 a hb rfl
    · have := hl a hb; omega
  · rw [feet_cons] at hF
    rcases List.mem_append.1 hF with h1 | h1
    · rcases hfr b h1 with h2 | h2
      · exact h.ge b (by rw [feet_cons]; exact List.mem_append.2 (.inl h2))
      · exact Nat.le_trans h.size h2
    · exact h.ge b (by rw [feet_cons]; exact List.mem_append.2 (.inr h1))
theorem St.perm {L' : List Piece} (h : St w0 w L) (hp : L.Perm L') : St w0 w L' :=
  have hf : (feet L).Perm (feet L') := List.Perm.flatMap_right _ hp
  ⟨h.below, fun p h1 => h.all p (hp.mem_iff.2 h1), hf.nodup_iff.1 h.nodup, fun b h1 => h.ge b (hf.mem_iff.2 h1)⟩
theorem St.drop (h : St w0 w (A :: L)) : St w0 w L := by
  have hd := h.nodup
  rw [feet_cons, List.nodup_append] at hd
  exact ⟨h.below, fun p hp => h.all p (List.mem_cons_of_mem _ hp), hd.2.1, fun b hb => h.ge b (by rw [feet_cons]; exact List.mem_append.2 (.inr hb))⟩
theorem St.pull1 (h : St w0 w (A :: B :: L)) : St w0 w (B :: A :: L) := h.perm (List.Perm.swap _ _ _)
theorem St.pull2 (h : St w0 w (A :: B :: C :: L)) : St w0 w (C :: A :: B :: L) := h.perm ((List.Perm.cons _ (List.Perm.swap _ _ _)).trans (List.Perm.swap _ _ _))
theorem St.pull3 (h : St w0 w (A :: B :: C :: D :: L)) : St w0 w (D :: A :: B :: C :: L) :=
  h.perm ((List.Perm.cons _ ((List.Perm.cons _ (List.Perm.swap _ _ _)).trans (List.Perm.swap _ _ _))).trans (List.Perm.swap _ _ _))
theorem St.pull4 {E : Piece} (h : St w0 w (A :: B :: C :: D :: E :: L)) : St w0 w (E :: A :: B :: C :: D :: L) :=
  h.perm ((List.Perm.cons _ ((List.Perm.cons _ ((List.Perm.cons _ (List.Perm.swap _ _ _)).trans (List.Perm.swap _ _ _))).trans (List.Perm.swap _ _ _))).trans (List.Perm.swap _ _ _))
theorem St.push1 (h : St w0 w (B :: A :: L)) : St w0 w (A :: B :: L) := h.pull1
theorem St.push2 (h : St w0 w (C :: A :: B :: L)) : St w0 w (A :: B :: C :: L) := h.pull2.pull2
theorem St.push3 (h : St w0 w (D :: A :: B :: C :: L)) : St w0 w (A :: B :: C :: D :: L) := h.pull3.pull3.pull3
theorem St.push4 {E : Piece} (h : St w0 w (E :: A :: B :: C :: D :: L)) : St w0 w (A :: B :: C :: D :: E :: L) := h.pull4.pull4.pull4.pull4
/-- The second piece goes. -/
theorem St.drop1 (h : St w0 w (A :: B :: L)) : St w0 w (A :: L) := h.pull1.drop
theorem St.drop2 (h : St w0 w (A :: B :: C :: L)) : St w0 w (A :: B :: L) := h.pull2.drop
theorem St.drop3 (h : St w0 w (A :: B :: C :: D :: L)) : St w0 w (A :: B :: C :: L) := h.pull3.drop
theorem St.head (h : St w0 w (A :: L)) : A.R w := h.all A List.mem_cons_self
theorem St.headN (h : St w0 w (A :: L)) : A.F.Nodup := by
  have hd := h.nodup
  rw [feet_cons, List.nodup_append] at hd
  exact hd.1
theorem St.headG (h : St w0 w (A :: L)) : ∀ b ∈ A.F, w0.heap.size ≤ b := fun b hb => h.ge b (by rw [feet_cons]; exact List.mem_append.2 (.inl hb))
/-- A store into a block that is known whole. -/
theorem St.set0 {b o : Nat} {arr arr' : Array Value} {e : TypeId} {u : Value} (h : St w0 w (blk b arr e :: L)) (ha : arr' = (arr.toList.set o u).toArray) : St w0 (w.setCell ⟨b, o, none⟩ u) (blk b arr' e :: L) := by
  have ha : arr' = arr.setIfInBounds o u := by rw [ha]; apply Array.ext'; simp
  subst ha
  exact h.turn (Chg.setCell (Chg.refl _ _) (.inl (by simp [blk])) u) (setCell_block w b o u h.head) (by simp [blk]) (fun b hb => .inl hb)
theorem St.set1 {b o : Nat} {arr arr' : Array Value} {e : TypeId} {u : Value} (h : St w0 w (A :: blk b arr e :: L)) (ha : arr' = (arr.toList.set o u).toArray) : St w0 (w.setCell ⟨b, o, none⟩ u) (A :: blk b arr' e :: L) := (h.pull1.set0 ha).push1
theorem St.set2 {b o : Nat} {arr arr' : Array Value} {e : TypeId} {u : Value} (h : St w0 w (A :: B :: blk b arr e :: L)) (ha : arr' = (arr.toList.set o u).toArray) : St w0 (w.setCell ⟨b, o, none⟩ u) (A :: B :: blk b arr' e :: L) := (h.pull2.set0 ha).push2
theorem St.set3 {b o : Nat} {arr arr' : Array Value} {e : TypeId} {u : Value} (h : St w0 w (A :: B :: C :: blk b arr e :: L)) (ha : arr' = (arr.toList.set o u).toArray) : St w0 (w.setCell ⟨b, o, none⟩ u) (A :: B :: C :: blk b arr' e :: L) := (h.pull3.set0 ha).push3
/-- What a block's cells are. -/
structure Blk (w : World) (b : Nat) (arr : Array Value) : Prop where
  cell : ∀ o, w.cell? ⟨b, o, none⟩ = arr[o]?
  frozen : ∀ o, w.frozen? ⟨b, o, none⟩ = false
  lt : b < w.heap.size
theorem Blk.of {b : Nat} {arr : Array Value} {e : TypeId} (h : w.heap[b]? = some (.cells arr e (0, 0))) : Blk w b arr := ⟨fun o => cell_block h, fun o => frozen_block h, block_lt h⟩
theorem St.at0 {b : Nat} {arr : Array Value} {e : TypeId} (h : St w0 w (blk b arr e :: L)) : Blk w b arr := Blk.of h.head
theorem St.at1 {b : Nat} {arr : Array Value} {e : TypeId} (h : St w0 w (A :: blk b arr e :: L)) : Blk w b arr := Blk.of h.drop.head
theorem St.at2 {b : Nat} {arr : Array Value} {e : TypeId} (h : St w0 w (A :: B :: blk b arr e :: L)) : Blk w b arr := Blk.of h.drop.drop.head
theorem St.at3 {b : Nat} {arr : Array Value} {e : TypeId} (h : St w0 w (A :: B :: C :: blk b arr e :: L)) : Blk w b arr := Blk.of h.drop.drop.drop.head
theorem Blk.rowAt {α : Type} {d : Dt α} {b : Nat} {arr : Array Value} {x : α} {cs : List Value} (h : Blk w b arr) (hk : d.K w x cs) (ha : arr.toList = cs) : RowAt d w b 0 [x] := by
  intro j y hj
  cases j with
  | zero =>
    simp at hj; subst hj
    refine ⟨cs, hk, fun i u hi => ?_⟩
    rw [show (⟨b, 0 + 0 * d.sz + i, none⟩ : Addr) = ⟨b, i, none⟩ by simp, h.cell, ← Array.getElem?_toList, ha]; exact hi
  | succ j => simp at hj
theorem Blk.c1 {b : Nat} {x0 : Value} (h : Blk w b #[x0]) : w.cell? ⟨b, 0, none⟩ = some x0 := h.cell 0
theorem Blk.c2 {b : Nat} {x0 x1 : Value} (h : Blk w b #[x0, x1]) : w.cell? ⟨b, 0, none⟩ = some x0 ∧ w.cell? ⟨b, 1, none⟩ = some x1 := ⟨h.cell 0, h.cell 1⟩
theorem Blk.c3 {b : Nat} {x0 x1 x2 : Value} (h : Blk w b #[x0, x1, x2]) : w.cell? ⟨b, 0, none⟩ = some x0 ∧ w.cell? ⟨b, 1, none⟩ = some x1 ∧ w.cell? ⟨b, 2, none⟩ = some x2 := ⟨h.cell 0, h.cell 1, h.cell 2⟩
theorem Blk.c4 {b : Nat} {x0 x1 x2 x3 : Value} (h : Blk w b #[x0, x1, x2, x3]) : w.cell? ⟨b, 0, none⟩ = some x0 ∧ w.cell? ⟨b, 1, none⟩ = some x1 ∧ w.cell? ⟨b, 2, none⟩ = some x2 ∧ w.cell? ⟨b, 3, none⟩ = some x3 := ⟨h.cell 0, h.cell 1, h.cell 2, h.cell 3⟩
end
section
variable {α : Type} {d : Dt α} {e : TypeId} {w0 w w' : World} {L : List Piece} {x : α} {r : Ending}
/-- A call that returns a struct of its own. -/
theorem St.elem (h : St w0 w L) (hr : RetElem d w x r w') : ∃ cs F, r = .returned (.agg cs.toArray) ∧ d.K w' x cs ∧ Below w.heap.size w w' ∧ St w0 w' (ownD d x cs F :: L) := by
  obtain ⟨cs, F, he, hM, hn, hge, hb⟩ := hr
  exact ⟨cs, F, he, d.M_K hM, hb, h.new hb hM hn hge⟩
theorem St.elem2 {ok : Bool} (h : St w0 w L) (hr : RetElem2 d w x ok r w') : ∃ cs F, r = .returned (.tuple #[.agg cs.toArray, .bool ok]) ∧ d.K w' x cs ∧ Below w.heap.size w w' ∧ St w0 w' (ownD d x cs F :: L) := by
  obtain ⟨cs, F, he, hM, hn, hge, hb⟩ := hr
  exact ⟨cs, F, he, d.M_K hM, hb, h.new hb hM hn hge⟩
theorem St.made (h : St w0 w L) {xs : List α} {v : Value} (hm : Made d e w w' v xs) (hb : Below w.heap.size w w') : ∃ F, St w0 w' (own d e v xs F :: L) := by
  obtain ⟨F, hM, hn, hge⟩ := hm
  exact ⟨F, h.new hb hM hn hge⟩
/-- A struct of its own goes into a box. -/
theorem St.box {cs : List Value} {F : List Nat} {k : Nat} {arr : Array Value} (h : St w0 w (ownD d x cs F :: L)) (hk : k = w.heap.size) (ha : arr = cs.toArray) : St w0 (w.alloc (.cells arr e)) (boxP d e k x (k :: F) :: L) := by
  subst hk
  subst ha
  refine h.turn (A' := boxP d e w.heap.size x (w.heap.size :: F)) (Chg.alloc (Chg.refl _ _) _) (BoxM.new h.head h.headN rfl) ?_ ?_
  · exact List.nodup_cons.2 ⟨fun hb => by have := d.M_lt h.head _ hb; omega, h.headN⟩
  · intro b hb
    rcases List.mem_cons.1 hb with rfl | hb
    · exact .inr (Nat.le_refl _)
    · exact .inl hb
theorem St.ret2 {cs : List Value} {F : List Nat} {ok : Bool} {v : Value} (h : St w0 w (ownD d x cs F :: L)) (hv : v = .tuple #[.agg cs.toArray, .bool ok]) : RetElem2 d w0 x ok (.returned v) w :=
  ⟨cs, F, by rw [hv], h.head, h.headN, h.headG, h.below⟩
theorem St.ret1 {cs : List Value} {F : List Nat} {v : Value} (h : St w0 w (ownD d x cs F :: L)) (hv : v = .agg cs.toArray) : RetElem d w0 x (.returned v) w :=
  ⟨cs, F, by rw [hv], h.head, h.headN, h.headG, h.below⟩
end
/-- What lies first is lost. -/
theorem St.lose {w0 w w' : World} {L : List Piece} {A : Piece} (h : St w0 w (A :: L)) (hc : Chg A.F w w') : St w0 w' L :=
  (h.turn (A' := junk []) hc (by simp [junk]) (by simp [junk]) (by simp [junk])).drop
/-- A box is opened: the struct by value, and its block. -/
theorem St.unbox {α : Type} {d : Dt α} {e : TypeId} {w0 w : World} {L : List Piece} {x : α} {b : Nat} {F : List Nat} (h : St w0 w (boxP d e b x F :: L)) : ∃ cs G, d.K w x cs ∧ St w0 w (ownD d x cs G :: blk b cs.toArray e :: L) := by
  obtain ⟨cs, G, rfl, hb, hm, hn⟩ := h.head
  refine ⟨cs, G, d.M_K hm, ?_⟩
  have hf : (feet (ownD d x cs G :: blk b cs.toArray e :: L)).Perm (feet (boxP d e b x (b :: G) :: L)) := by
    simp only [feet_cons, ownD, boxP, blk]
    rw [← List.append_assoc]
    refine List.Perm.append_right _ ?_
    exact List.perm_append_comm
  refine ⟨h.below, fun p hp => ?_, hf.nodup_iff.2 h.nodup, fun c hc => h.ge c (hf.mem_iff.1 hc)⟩
  rcases List.mem_cons.1 hp with rfl | hp
  · exact hm
  · rcases List.mem_cons.1 hp with rfl | hp
    · exact hb
    · exact h.drop.all p hp
theorem St.boxRow {α : Type} {d : Dt α} {e : TypeId} {w0 w : World} {L : List Piece} {x : α} {b : Nat} {F : List Nat} (h : St w0 w (boxP d e b x F :: L)) : RowAt d w b 0 [x] := BoxM.row h.head
/-- What a function value does with a struct in a box: only where it says yes the struct is told. -/
def TurnsS (P : Program) {α : Type} (d : Dt α) (e : TypeId) (g : Nat) (caps : Array Value) (pre : α → Prop) (f : α → α × Bool) (w : World) : Prop :=
  ∀ (x : α) (b : Nat) (F : List Nat) (W : World) (L : List Piece), St w W (boxP d e b x F :: L) → pre x →
    Calls P g (#[.pointer (some ⟨b, 0, none⟩)] ++ caps) W fun r W' => r = .returned (.bool (f x).2) ∧ ∃ A, St w W' (A :: L) ∧ ((f x).2 = true → ∃ F', A = boxP d e b (f x).1 F')
end Go.Proofs.Ytglhepbcbildpaa
namespace Go.Proofs.Ytglhepbcbildpaa
open Go Go.RowKit
set_option linter.unusedVariables false
set_option linter.unusedSimpArgs false

section
variable {w0 w w' : World} {L : List Piece}
/-- An empty row that has just been made. -/
theorem St.empty {α : Type} {d : Dt α} {e : TypeId} {k : Nat} (h : St w0 w (blk k #[] e :: L)) : St w0 w (own d e (.slice (some ⟨k, 0, none⟩) 0 0) [] [k] :: L) :=
  h.turn (A' := own d e (.slice (some ⟨k, 0, none⟩) 0 0) [] [k]) (Chg.refl _ _) (.inr ⟨k, 0, #[], [], [], rfl, Nat.le_refl _, Nat.zero_le _, h.head, by simp, by simp, .nil, rfl⟩) (by simp [own]) (fun b hb => .inl hb)
/-- A nil row of one's own. -/
theorem St.nil {α : Type} {d : Dt α} {e : TypeId} (h : St w0 w L) : St w0 w (own d e (.slice none 0 0) [] [] :: L) :=
  h.new (Below.refl _ _) (.inl ⟨rfl, rfl, rfl⟩) (by simp [own]) (by simp [own])
theorem St.toK {α : Type} {d : Dt α} {e : TypeId} {v : Value} {xs : List α} {F : List Nat} (h : St w0 w (own d e v xs F :: L)) : SliceK d w v xs := SliceM.toK h.head
end
section
variable {P : Program} {α : Type} {n : Nat} {enc : α → List Value} {hl : ∀ x, (enc x).length = n} {h1 : ∀ x, ∀ u ∈ enc x, u.oneCell' = true} {w0 : World} {L : List Piece}
/-- A block of one flat struct, as a row. -/
theorem Blk.row1 {w : World} {b : Nat} {arr : Array Value} {x : α} (h : Blk w b arr) (ha : arr.toList = enc x) : SliceK (Dt.flat n enc hl h1) w (.slice (some ⟨b, 0, none⟩) 1 1) [x] := by
  refine ⟨_, _, rfl, Nat.le_refl _, by omega, .inr ⟨b, 0, rfl, fun j y hj => ?_⟩⟩
  cases j with
  | zero =>
    simp at hj; subst hj
    refine ⟨enc x, rfl, fun i u hi => ?_⟩
    rw [show (⟨b, 0 + 0 * (Dt.flat n enc hl h1).sz + i, none⟩ : Addr) = ⟨b, i, none⟩ by simp, h.cell, ← Array.getElem?_toList, ha]; exact hi
  | succ j => simp at hj
/-- append of a row of flat values, empty or not. -/
theorem wpList_app_st {d : Dt α} (hd : d = Dt.flat n enc hl h1) {e : TypeId} (w : World) {ops : Array Oper} {rest : List Oper} {o : Oper} {a : Act} {Q : Exit → Act → World → Prop} (hgd : o.guard = none) (s x : Operand) (t : TypeId)
    (ho : o.op = .call { callee := .builtin .append, args := #[s, x], argTypes := #[t, t] }) (z : Value) (bytes : Nat)
    (ht : P.underlying t = some (.slice e)) (hinfo : (P.info? e).map (fun i => (i.zero, i.size, i.bytes)) = some (some z, n, bytes)) (hzs : z.cells.size = n) (hn : 0 < n) (hby : bytes ≤ 1000)
    (v : Value) (xs : List α) (F : List Nat) (hs : a.eval s = v) (hS : St w0 w (own d e v xs F :: L))
    (A : Option Addr) (m c : Nat) (ys : List α) (hx : a.eval x = .slice A m c) (hm : m = ys.length) (hK : SliceK d w (.slice A m c) ys) (hlen : xs.length + ys.length ≤ 1048576)
    (h : ∀ A' c' w' F', Chg F w w' → St w0 w' (own d e (.slice A' (xs ++ ys).length c') (xs ++ ys) F' :: L) → wpList P ops Q rest (a.put o.dst (.slice A' (xs ++ ys).length c')) w') : wpList P ops Q (o :: rest) a w := by
  subst hd
  subst hm
  by_cases h0 : ys = []
  · subst h0
    obtain ⟨i, hi, _⟩ := info_parts hinfo
    obtain ⟨A2, c2, rfl, hle, hmx, -⟩ := hS.toK
    refine wpList_app0 w hgd s x t e ho i ht hi A2 xs.length c2 hle hs A c hx ?_
    have := h A2 c2 w F (Chg.refl _ _) (by simpa using hS)
    simpa using this
  · obtain ⟨A2, c2, heq, _, _, hor⟩ := hK
    simp only [Value.slice.injEq] at heq
    obtain ⟨rfl, _, rfl⟩ := heq
    rcases hor with hnil | ⟨b, o2, rfl, hr⟩
    · exact absurd hnil h0
    refine wpList_app_flat w hgd s x t ho z bytes ht hinfo hzs hn hby v xs F hs hS.head hS.headN b o2 c ys hx hr (List.length_pos_iff.2 h0) hlen ?_
    intro g cap w' F' hap
    have := h (some ⟨g, 0, none⟩) cap w' F' hap.chg (hS.turn (A' := own (Dt.flat n enc hl h1) e (.slice (some ⟨g, 0, none⟩) (xs ++ ys).length cap) (xs ++ ys) F') hap.chg (by simpa [own] using hap.m) hap.nodup (fun y hy => by
      rcases hap.from_ y hy with h | h | h
      · exact .inl h
      · simp at h
      · exact .inr (by omega)))
    simpa using this
/-- append of a row of flat values, empty or not, to an empty row that has just been made. -/
theorem wpList_copy_st {d : Dt α} (hd : d = Dt.flat n enc hl h1) {e : TypeId} (w : World) {ops : Array Oper} {rest : List Oper} {o : Oper} {a : Act} {Q : Exit → Act → World → Prop} (hgd : o.guard = none) (s x : Operand) (t : TypeId)
    (ho : o.op = .call { callee := .builtin .append, args := #[s, x], argTypes := #[t, t] }) (z : Value) (bytes : Nat)
    (ht : P.underlying t = some (.slice e)) (hinfo : (P.info? e).map (fun i => (i.zero, i.size, i.bytes)) = some (some z, n, bytes)) (hzs : z.cells.size = n) (hn : 0 < n) (hby : bytes ≤ 1000)
    (k : Nat) (hs : a.eval s = .slice (some ⟨k, 0, none⟩) 0 0) (hS : St w0 w (blk k #[] e :: L))
    (A : Option Addr) (m c : Nat) (ys : List α) (hx : a.eval x = .slice A m c) (hm : m = ys.length) (hK : SliceK d w (.slice A m c) ys) (hlen : ys.length ≤ 1048576)
    (h : ∀ A' c' w' F', Chg [k] w w' → St w0 w' (own d e (.slice A' ys.length c') ys F' :: L) → wpList P ops Q rest (a.put o.dst (.slice A' ys.length c')) w') : wpList P ops Q (o :: rest) a w :=
  wpList_app_st hd w hgd s x t ho z bytes ht hinfo hzs hn hby _ [] [k] hs hS.empty A m c ys hx hm hK (by simpa using hlen) h
/-- append of one flat struct that lies in a block of its own, as a step of a region that draws its order. -/
theorem step_app_st {d : Dt α} (hd : d = Dt.flat n enc hl h1) {e : TypeId} {ops : Array Oper} {o : Oper} {a : Act} {w : World} {K : Act → World → Prop} {Q : Exit → Act → World → Prop} {E : Prop} (hg : o.guard = none) (s x : Operand) (t : TypeId)
    (ho : o.op = .call { callee := .builtin .append, args := #[s, x], argTypes := #[t, t] }) (z : Value) (bytes : Nat)
    (ht : P.underlying t = some (.slice e)) (hinfo : (P.info? e).map (fun i => (i.zero, i.size, i.bytes)) = some (some z, n, bytes)) (hzs : z.cells.size = n) (hn : 0 < n) (hby : bytes ≤ 1000)
    (v : Value) (xs : List α) (F : List Nat) (hs : a.eval s = v) (b : Nat) (arr : Array Value) (hS : St w0 w (blk b arr e :: own d e v xs F :: L)) (c : Nat) (hx : a.eval x = .slice (some ⟨b, 0, none⟩) 1 c) (y : α) (ha : arr.toList = enc y) (hlen : xs.length < 1048576)
    (h : ∀ g cap w' F', St w0 w' (own d e (.slice (some ⟨g, 0, none⟩) (xs.length + 1) cap) (xs ++ [y]) F' :: L) → K (a.put o.dst (.slice (some ⟨g, 0, none⟩) (xs.length + 1) cap)) w') :
    if Region.wanted o (yielded ops a.tmps) = true then Oper.wp P o a w K Q else E := by
  have hw : Region.wanted o (yielded ops a.tmps) = true := by simp [Region.wanted, hg]
  rw [if_pos hw]
  subst hd
  have hB := hS.at0
  refine wp_app w s x t ho z n bytes ht hinfo hzs hn rfl v xs F hs hS.drop.head hS.drop.headN ⟨b, 0, none⟩ 1 c hx [y] [enc y] [[]] rfl (.cons ⟨rfl, rfl⟩ .nil) (by simp) (by simp) (fun j u hu => ?_) (by omega) (by unfold maxLen; omega) (by have : (xs.length + 1) * bytes ≤ 1048576 * 1000 := Nat.mul_le_mul (by omega) hby; omega) ?_
  · rw [show (⟨b, 0, none⟩ : Addr).add j = ⟨b, j, none⟩ by unfold Addr.add; split <;> simp_all, hB.cell, ← Array.getElem?_toList, ha]
    simpa using hu
  · intro g cap w' F' hap
    refine h g cap w' F' (St.turn (A' := own (Dt.flat n enc hl h1) e (.slice (some ⟨g, 0, none⟩) (xs.length + 1) cap) (xs ++ [y]) F') hS.drop hap.chg hap.m hap.nodup (fun y hy => ?_))
    rcases hap.from_ y hy with h | h | h
    · exact .inl h
    · simp at h
    · exact .inr (by omega)
/-- append of one flat value that lies in a block of its own. -/
theorem wpList_app1_st {d : Dt α} (hd : d = Dt.flat n enc hl h1) {e : TypeId} (w : World) {ops : Array Oper} {rest : List Oper} {o : Oper} {a : Act} {Q : Exit → Act → World → Prop} (hgd : o.guard = none) (s x : Operand) (t : TypeId)
    (ho : o.op = .call { callee := .builtin .append, args := #[s, x], argTypes := #[t, t] }) (z : Value) (bytes : Nat)
    (ht : P.underlying t = some (.slice e)) (hinfo : (P.info? e).map (fun i => (i.zero, i.size, i.bytes)) = some (some z, n, bytes)) (hzs : z.cells.size = n) (hn : 0 < n) (hby : bytes ≤ 1000)
    (v : Value) (xs : List α) (F : List Nat) (hs : a.eval s = v) (b : Nat) (arr : Array Value) (hS : St w0 w (blk b arr e :: own d e v xs F :: L)) (c : Nat) (hx : a.eval x = .slice (some ⟨b, 0, none⟩) 1 c) (y : α) (ha : arr.toList = enc y) (hlen : xs.length < 1048576)
    (h : ∀ g cap w' F', St w0 w' (own d e (.slice (some ⟨g, 0, none⟩) (xs.length + 1) cap) (xs ++ [y]) F' :: L) → wpList P ops Q rest (a.put o.dst (.slice (some ⟨g, 0, none⟩) (xs.length + 1) cap)) w') : wpList P ops Q (o :: rest) a w := by
  subst hd
  have hB := hS.at0
  refine wpList_app (d := Dt.flat n enc hl h1) w hgd s x t ho z n bytes ht hinfo hzs hn rfl v xs F hs hS.drop.head hS.drop.headN ⟨b, 0, none⟩ 1 c hx [y] [enc y] [[]] rfl (.cons ⟨rfl, rfl⟩ .nil) (by simp) (by simp) (fun j u hu => ?_) (by omega) (by unfold maxLen; omega) (by have : (xs.length + 1) * bytes ≤ 1048576 * 1000 := Nat.mul_le_mul (by omega) hby; omega) ?_
  · rw [show (⟨b, 0, none⟩ : Addr).add j = ⟨b, j, none⟩ by unfold Addr.add; split <;> simp_all, hB.cell, ← Array.getElem?_toList, ha]
    simpa using hu
  · intro g cap w' F' hap
    refine h g cap w' F' (St.turn (A' := own (Dt.flat n enc hl h1) e (.slice (some ⟨g, 0, none⟩) (xs.length + 1) cap) (xs ++ [y]) F') hS.drop hap.chg hap.m hap.nodup (fun y hy => ?_))
    rcases hap.from_ y hy with h | h | h
    · exact .inl h
    · simp at h
    · exact .inr (by omega)
end
end Go.Proofs.Ytglhepbcbildpaa
namespace Go.Proofs.Ytglhepbcbildpaa
open Go Go.RowKit
set_option linter.unusedVariables false
set_option linter.unusedSimpArgs false

section
variable {α : Type} {n : Nat} {enc : α → List Value} {hl : ∀ x, (enc x).length = n} {h1 : ∀ x, ∀ u ∈ enc x, u.oneCell' = true} {d : Dt α} {e : TypeId} {w0 w : World} {L : List Piece} {b c : Nat} {xs : List α} {F : List Nat} {k : Nat} {x x' : α}
theorem flat_F (hd : d = Dt.flat n enc hl h1) {m : Nat} (h : SliceM d e w (.slice (some ⟨b, 0, none⟩) m c) xs F) : F = [b] ∧ m = xs.length := by
  subst hd
  rcases flat_M h with ⟨h0, _⟩ | ⟨b', cap, cur, hv, _, _, _, _, _, rfl⟩
  · cases h0
  · simp only [Value.slice.injEq, Option.some.injEq, Addr.mk.injEq, and_true, true_and] at hv
    obtain ⟨rfl, rfl, rfl⟩ := hv
    exact ⟨rfl, rfl⟩
/-- The cells of element k. -/
theorem St.flatCell (hd : d = Dt.flat n enc hl h1) (h : St w0 w (own d e (.slice (some ⟨b, 0, none⟩) xs.length c) xs F :: L)) (hx : xs[k]? = some x) :
    (∀ i u, (enc x)[i]? = some u → w.cell? ⟨b, k * n + i, none⟩ = some u) ∧ (∀ o, w.frozen? ⟨b, o, none⟩ = false) ∧ b < w.heap.size := by
  subst hd
  obtain ⟨cs, G, E⟩ := SliceM.elem h.head h.headN hx
  have hcs : cs = enc x := E.M.1
  subst hcs
  exact ⟨E.cell, E.frozen, E.lt⟩
theorem St.setFlat (hd : d = Dt.flat n enc hl h1) (h : St w0 w (own d e (.slice (some ⟨b, 0, none⟩) xs.length c) xs F :: L)) (hx : xs[k]? = some x) {j o : Nat} {u : Value} (hj : j < n) (he : enc x' = (enc x).set j u) (ho : o = k * n + j) :
    St w0 (w.setCell ⟨b, o, none⟩ u) (own d e (.slice (some ⟨b, 0, none⟩) xs.length c) (xs.set k x') F :: L) := by
  subst ho
  obtain ⟨hF, -⟩ := flat_F hd h.head
  obtain ⟨cs, G, E⟩ := SliceM.elem h.head h.headN hx
  subst hd
  obtain ⟨rfl, rfl⟩ : cs = enc x ∧ G = [] := E.M
  have hc0 : w.cell? ⟨b, k * n + j, none⟩ = some ((enc x)[j]'(by rw [hl]; exact hj)) := E.cell j _ (List.getElem?_eq_getElem _)
  have hch : Chg [b] w (w.setCell ⟨b, k * n + j, none⟩ u) := Chg.setCell (Chg.refl _ _) (.inl (by simp)) u
  obtain ⟨F', hM', hN', -, -⟩ := E.turn (w.setCell ⟨b, k * n + j, none⟩ u) (enc x') x' [] ((Wrote.refl _ _ _ _ _).set _ u (by show k * n ≤ k * n + j; omega) (by show k * n + j < k * n + n; omega)) hch ⟨rfl, rfl⟩ (fun i v hi => by
    rw [he, List.getElem?_set] at hi
    show (w.setCell ⟨b, k * n + j, none⟩ u).cell? ⟨b, k * n + i, none⟩ = some v
    by_cases hij : j = i
    · subst hij
      rw [if_pos rfl, if_pos (by rw [hl]; exact hj)] at hi
      cases hi
      exact World.cell?_setCell_same w _ _ hc0
    · rw [if_neg hij] at hi
      rw [World.cell?_setCell_other w _ _ _ (by simp <;> omega)]
      exact E.cell i v hi) (by simp) (by simp)
  obtain ⟨hF', -⟩ := flat_F rfl hM'
  subst hF
  refine h.turn (A' := own _ e (.slice (some ⟨b, 0, none⟩) xs.length c) (xs.set k x') [b]) hch (by rw [hF'] at hM'; exact hM') (by simp [own]) (fun y hy => .inl hy)
theorem chg_setCells (b : Nat) : ∀ (vs : List Value) (o : Nat) (w : World), Chg [b] w (w.setCells b o vs)
  | [], _, w => Chg.refl _ w
  | v :: vs, o, w => (Chg.setCell (p := ⟨b, o, none⟩) (Chg.refl _ w) (.inl (by simp)) v).trans (chg_setCells b vs (o + 1) _)
theorem setCells_block (b : Nat) : ∀ (vs : List Value) (o : Nat) (w : World) (cur : Array Value), w.heap[b]? = some (.cells cur e (0, 0)) →
    ∃ cur' : Array Value, (w.setCells b o vs).heap[b]? = some (.cells cur' e (0, 0)) ∧ cur'.size = cur.size ∧ ∀ q, (q < o ∨ o + vs.length ≤ q) → cur'[q]? = cur[q]?
  | [], o, w, cur, h => ⟨cur, h, rfl, fun _ _ => rfl⟩
  | v :: vs, o, w, cur, h => by
    obtain ⟨cur', h1, h2, h3⟩ := setCells_block b vs (o + 1) (w.setCell ⟨b, o, none⟩ v) _ (setCell_block w b o v h)
    refine ⟨cur', h1, by simpa using h2, fun q hq => ?_⟩
    simp only [List.length_cons] at hq
    rw [h3 q (by omega), Array.getElem?_setIfInBounds_ne (by omega)]
/-- Element k is written whole. -/
theorem St.putFlat (hd : d = Dt.flat n enc hl h1) (h : St w0 w (own d e (.slice (some ⟨b, 0, none⟩) xs.length c) xs F :: L)) (hk : k < xs.length) (x' : α) :
    St w0 (w.setCells b (k * n) (enc x')) (own d e (.slice (some ⟨b, 0, none⟩) xs.length c) (xs.set k x') F :: L) := by
  obtain ⟨hF, -⟩ := flat_F hd h.head
  obtain ⟨cs, G, E⟩ := SliceM.elem h.head h.headN (List.getElem?_eq_getElem hk)
  subst hd
  obtain ⟨rfl, rfl⟩ : cs = enc xs[k] ∧ G = [] := E.M
  have hch := chg_setCells b (enc x') (k * n) w
  obtain ⟨F', hM', hN', -, -⟩ := E.turn (w.setCells b (k * n) (enc x')) (enc x') x' [] (fun cur hc => by
    obtain ⟨cur', a1, a2, a3⟩ := setCells_block b (enc x') (k * n) w cur hc
    refine ⟨cur', a1, a2, fun i hi => a3 i ?_⟩
    rw [hl]; exact hi) hch ⟨rfl, rfl⟩ (fun i v hi => by
    obtain ⟨hil, rfl⟩ := List.getElem?_eq_some_iff.1 hi
    exact World.cell?_setCells_in b (enc x') (k * n) w (fun j hj => by
      have := E.cell j ((enc xs[k])[j]'(by rw [hl] at hj ⊢; exact hj)) (List.getElem?_eq_getElem _)
      exact Option.isSome_iff_exists.2 ⟨_, this⟩) i hil) (by simp) (by simp)
  obtain ⟨hF', -⟩ := flat_F rfl hM'
  subst hF
  exact h.turn (A' := own _ e (.slice (some ⟨b, 0, none⟩) xs.length c) (xs.set k x') [b]) hch (by rw [hF'] at hM'; exact hM') (by simp [own]) (fun y hy => .inl hy)
theorem St.flatSome (hd : d = Dt.flat n enc hl h1) (h : St w0 w (own d e (.slice (some ⟨b, 0, none⟩) xs.length c) xs F :: L)) : ∀ q, q < xs.length * n → (w.cell? ⟨b, q, none⟩).isSome = true := by
  subst hd
  rcases flat_M h.head with ⟨h0, _⟩ | ⟨b', cap, cur, hv, h2, h3, hh, h4, h5, hF⟩
  · cases h0
  · simp only [Value.slice.injEq, Option.some.injEq, Addr.mk.injEq, and_true, true_and] at hv
    obtain ⟨rfl, rfl⟩ := hv
    intro q hq
    have hq2 : q < cur.size := by rw [h4]; exact Nat.lt_of_lt_of_le hq (Nat.mul_le_mul_right n h2)
    rw [cell_block hh, Array.getElem?_eq_getElem hq2]; rfl
theorem flatten_take {m : Nat} : ∀ (i : Nat) (css : List (List Value)), (∀ c ∈ css, c.length = m) → css.flatten.take (i * m) = (css.take i).flatten
  | 0, css, _ => by simp
  | i + 1, [], _ => by simp
  | i + 1, c :: css, h => by
    have hc : c.length = m := h c List.mem_cons_self
    rw [List.flatten_cons, List.take_succ_cons, List.flatten_cons, ← flatten_take i css (fun x hx => h x (List.mem_cons_of_mem _ hx)), Nat.add_mul, Nat.one_mul, Nat.add_comm, List.take_append, hc]
    rw [List.take_of_length_le (by omega)]
    simp
/-- A row is cut short; what lies behind may be written. -/
theorem St.cutFlat (hd : d = Dt.flat n enc hl h1) (h : St w0 w (own d e (.slice (some ⟨b, 0, none⟩) xs.length c) xs F :: L)) {i : Nat} (hi : i ≤ xs.length) (vs : List Value) :
    St w0 (w.setCells b (i * n) vs) (own d e (.slice (some ⟨b, 0, none⟩) i c) (xs.take i) F :: L) := by
  subst hd
  have hi2 : (xs.take i).length = i := by simp; omega
  rcases flat_M h.head with ⟨h0, _⟩ | ⟨b', cap, cur, hv, h2, h3, hh, h4, h5, hF⟩
  · cases h0
  · simp only [Value.slice.injEq, Option.some.injEq, Addr.mk.injEq, and_true, true_and] at hv
    obtain ⟨rfl, rfl⟩ := hv
    obtain ⟨cur', a1, a2, a3⟩ := setCells_block b vs (i * n) w cur hh
    subst hF
    refine h.turn (A' := own _ e (.slice (some ⟨b, 0, none⟩) i c) (xs.take i) [b]) (chg_setCells b vs (i * n) w) ?_ (by simp [own]) (fun y hy => .inl hy)
    have := flat_M_mk (n := n) (enc := enc) (hl := hl) (h1 := h1) (xs := xs.take i) (e := e) (w := w.setCells b (i * n) vs) (b := b) (cap := c) (cur := cur') (by omega) h3 a1 (by rw [a2, h4]) (by
      rw [hi2, List.map_take, ← flatten_take i _ (fun c hc => by obtain ⟨y, _, rfl⟩ := List.mem_map.1 hc; exact hl y), ← h5, List.take_take, Nat.min_eq_left (Nat.mul_le_mul_right n hi)]
      apply List.ext_getElem?
      intro q
      rw [List.getElem?_take, List.getElem?_take]
      split
      · rw [Array.getElem?_toList, Array.getElem?_toList]; exact a3 q (.inl (by omega))
      · rfl)
    rw [hi2] at this
    exact this
/-- clear of a row of structs. -/
theorem run_clear_flat {P : Program} (w : World) (t e : TypeId) (z : Value) (ht : P.underlying t = some (.slice e)) (hv : ∀ w, (zeroValue e).run P w = .ok z w) (hz : z.cells.size = n) (h1 : ∀ u ∈ z.cells.toList, u.oneCell' = true) (b o m c : Nat) (hm : 0 < m)
    (hc : ∀ j, j < m * n → (w.cell? ⟨b, o + j, none⟩).isSome = true) (hf : ∀ j, w.frozen? ⟨b, j, none⟩ = false) :
    ∃ vs, ∀ ty, (Builtin.clear_ #[t] ty #[.slice (some ⟨b, o, none⟩) m c]).run P w = .ok (.tuple #[]) (w.setCells b o vs) := by
  refine ⟨(Builtin.zeroCells z.cells m).toList, fun ty => ?_⟩
  have hlen : (Builtin.zeroCells z.cells m).toList.length = m * n := by simp [Builtin.zeroCells, hz]
  have hst := run_storeCells_cells (P := P) b o (Builtin.zeroCells z.cells m).toList 0 w (by rw [hlen]; simpa using hc) (by intro j _; exact hf _) (by
    intro v hv'
    simp only [Builtin.zeroCells, Array.toList_map, List.mem_map] at hv'
    obtain ⟨q, hq, rfl⟩ := hv'
    have hq2 : q < m * z.cells.size := by simpa using hq
    have hp : 0 < z.cells.size := by
      rcases Nat.eq_zero_or_pos z.cells.size with h0 | h0
      · rw [h0] at hq2; simp at hq2
      · exact h0
    have hl2 : q % z.cells.size < z.cells.size := Nat.mod_lt _ hp
    rw [getElem!_pos z.cells (q % z.cells.size) hl2]
    exact h1 _ (by simp))
  simp only [Nat.add_zero] at hst
  obtain ⟨m, rfl⟩ : ∃ k, m = k + 1 := ⟨m - 1, by omega⟩
  simp [Builtin.clear_, run_underlying ht, hv, hst]
/-- A block and an owned row lie apart. -/
theorem St.apart (hd : d = Dt.flat n enc hl h1) {k m : Nat} {arr : Array Value} {e' : TypeId} (h : St w0 w (blk k arr e' :: own d e (.slice (some ⟨b, 0, none⟩) m c) xs F :: L)) : ¬ b = k ∧ ¬ k = b := by
  obtain ⟨rfl, -⟩ := flat_F hd h.drop.head
  have hn := h.nodup
  simp [feet_cons, blk, own] at hn
  omega
theorem St.hasBlk (hd : d = Dt.flat n enc hl h1) {A : Option Addr} {m : Nat} (h : St w0 w (own d e (.slice A m c) xs F :: L)) (hx : xs[k]? = some x) : (∃ q, A = .some ⟨q, 0, none⟩) ∧ m = xs.length ∧ xs.length ≤ c := by
  subst hd
  obtain ⟨hl, -⟩ := List.getElem?_eq_some_iff.1 hx
  rcases flat_M h.head with ⟨h0, rfl, _⟩ | ⟨q, cap, cur, hv, hle, _⟩
  · simp at hl
  · simp only [Value.slice.injEq] at hv
    obtain ⟨rfl, rfl, rfl⟩ := hv
    exact ⟨⟨q, rfl⟩, rfl, hle⟩
end
end Go.Proofs.Ytglhepbcbildpaa
namespace Go.Proofs.Ytglhepbcbildpaa
open Go Go.RowKit
set_option linter.unusedVariables false
/-- A returned row of one's own; the frame stays. -/
def RetOwn {α : Type} (d : Dt α) (e : TypeId) (w0 : World) (L : List Piece) (xs : List α) (r : Ending) (W' : World) : Prop :=
  ∃ A' c' F', r = .returned (.slice A' xs.length c') ∧ St w0 W' (own d e (.slice A' xs.length c') xs F' :: L)
theorem idxP_before {α : Type} {p : α → Bool} {l : List α} {k : Nat} (h : idxP p l = (k : Int)) : ∀ j y, j < k → l[j]? = some y → p y = false := by
  unfold idxP at h
  rcases hf : l.findIdx? p with _ | j
  · rw [hf] at h; simp at h
  · rw [hf] at h
    obtain rfl : j = k := by simp at h; omega
    rw [List.findIdx?_eq_some_iff_getElem] at hf
    obtain ⟨hl, h1, h2⟩ := hf
    intro i y hi hy
    obtain ⟨hil, rfl⟩ := List.getElem?_eq_some_iff.1 hy
    simpa using h2 i hi
section
variable {α : Type} {xs cur : List α} {p : α → Bool} {i j : Nat} {x : α}
def dropP (p : α → Bool) (xs : List α) : List α := xs.filter fun x => !p x
theorem dropP_keep {α : Type} {p : α → Bool} {xs : List α} {k : Nat} {x : α} (hx : xs[k]? = some x) (h : p x = false) : dropP p (xs.take (k + 1)) = dropP p (xs.take k) ++ [x] := by
  obtain ⟨hk, rfl⟩ := List.getElem?_eq_some_iff.1 hx
  unfold dropP; rw [List.take_succ_eq_append_getElem hk, List.filter_append]; simp [h]
theorem dropP_skip {α : Type} {p : α → Bool} {xs : List α} {k : Nat} {x : α} (hx : xs[k]? = some x) (h : p x = true) : dropP p (xs.take (k + 1)) = dropP p (xs.take k) := by
  obtain ⟨hk, rfl⟩ := List.getElem?_eq_some_iff.1 hx
  unfold dropP; rw [List.take_succ_eq_append_getElem hk, List.filter_append]; simp [h]
theorem dropP_le {α : Type} (p : α → Bool) (xs : List α) : (dropP p xs).length ≤ xs.length := List.length_filter_le _ _
theorem dropP_none (h : idxP p xs < 0) : dropP p xs = xs := by
  unfold dropP
  rw [List.filter_eq_self]
  intro x hx
  by_cases hp : p x = true
  · exfalso
    unfold idxP at h
    rcases hf : xs.findIdx? p with _ | k
    · rw [List.findIdx?_eq_none_iff] at hf
      have := hf x hx
      simp [this] at hp
    · rw [hf] at h; simp at h; omega
  · simpa using hp
/-- Where the walk through the row stands. -/
structure DelAt (p : α → Bool) (xs cur : List α) (i j : Nat) : Prop where
  len : cur.length = xs.length
  ij : i < j
  jn : j ≤ xs.length
  take : cur.take i = dropP p (xs.take j)
  drop : cur.drop j = xs.drop j
theorem DelAt.start (h : idxP p xs = (i : Int)) (hx : xs[i]? = some x) (hp : p x = true) : DelAt p xs xs i (i + 1) := by
  obtain ⟨hi, rfl⟩ := List.getElem?_eq_some_iff.1 hx
  refine ⟨rfl, by omega, hi, ?_, rfl⟩
  unfold dropP
  rw [List.take_succ_eq_append_getElem hi, List.filter_append]
  have h1 : (xs.take i).filter (fun x => !p x) = xs.take i := by
    rw [List.filter_eq_self]
    intro y hy
    obtain ⟨q, hq⟩ := List.getElem?_of_mem hy
    rw [List.getElem?_take] at hq
    split at hq
    · simp [idxP_before h q y ‹_› hq]
    · cases hq
  rw [h1]; simp [hp]
theorem DelAt.get (h : DelAt p xs cur i j) (hx : xs[j]? = some x) : cur[j]? = some x := by
  have := congrArg (fun l : List α => l[0]?) h.drop
  simpa [hx] using this
theorem DelAt.skip (h : DelAt p xs cur i j) (hx : xs[j]? = some x) (hp : p x = true) : DelAt p xs cur i (j + 1) := by
  obtain ⟨hj, rfl⟩ := List.getElem?_eq_some_iff.1 hx
  refine ⟨h.len, by have := h.ij; omega, hj, ?_, ?_⟩
  · rw [h.take]; unfold dropP
    rw [List.take_succ_eq_append_getElem hj, List.filter_append]; simp [hp]
  · have := congrArg (List.drop 1) h.drop
    simpa [List.drop_drop] using this
theorem DelAt.keep (h : DelAt p xs cur i j) (hx : xs[j]? = some x) (hp : p x = false) : DelAt p xs (cur.set i x) (i + 1) (j + 1) := by
  obtain ⟨hj, rfl⟩ := List.getElem?_eq_some_iff.1 hx
  have hij := h.ij
  have hl := h.len
  refine ⟨by simp [hl], by omega, hj, ?_, ?_⟩
  · have h2 : (cur.set i xs[j]).take (i + 1) = cur.take i ++ [xs[j]] := by
      rw [List.take_succ_eq_append_getElem (by simp; omega), List.take_set_of_le (by omega)]; simp
    rw [h2, h.take]; unfold dropP
    rw [List.take_succ_eq_append_getElem hj, List.filter_append]; simp [hp]
  · rw [List.drop_set_of_lt (by omega)]
    have := congrArg (List.drop 1) h.drop
    simpa [List.drop_drop] using this
theorem DelAt.done (h : DelAt p xs cur i xs.length) : cur.take i = dropP p xs ∧ (dropP p xs).length = i := by
  have h1 := h.take
  rw [List.take_length] at h1
  refine ⟨h1, ?_⟩
  rw [← h1, List.length_take]
  have := h.ij; have := h.len; omega
end
end Go.Proofs.Ytglhepbcbildpaa
