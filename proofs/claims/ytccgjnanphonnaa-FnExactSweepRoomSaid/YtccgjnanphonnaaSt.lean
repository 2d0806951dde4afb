/- What is known of the memory behind a world: pieces that lie apart. -/
import Derived.Test.YtccgjnanphonnaaBoxed
namespace Go.Proofs.Ytccgjnanphonnaa
open Go Go.RowKit
set_option linter.unusedVariables false

/-- A piece of memory: its blocks, and what is known of them. -/
structure Piece where
  F : List Nat
  R : World → Prop
  move : ∀ {w w' : World}, (∀ b ∈ F, w'.heap[b]? = w.heap[b]?) → R w → R w'
  lt : ∀ {w : World}, R w → ∀ b ∈ F, b < w.heap.size

/-- A block that is known whole. -/
def blk (b : Nat) (arr : Array Value) (e : TypeId) : Piece where
  F := [b]
  R := fun w => w.heap[b]? = some (.cells arr e (0, 0))
  move := fun h hr => (h _ List.mem_cons_self).trans hr
  lt := fun hr b hb => by rw [List.mem_singleton.1 hb]; exact block_lt hr
/-- An owned row. -/
def own {α : Type} (d : Dt α) (e : TypeId) (v : Value) (xs : List α) (F : List Nat) : Piece where
  F := F
  R := fun w => SliceM d e w v xs F
  move := fun h hr => hr.move h
  lt := fun hr => hr.lt
/-- An owned struct by value. -/
def ownD {α : Type} (d : Dt α) (x : α) (cs : List Value) (F : List Nat) : Piece where
  F := F
  R := fun w => d.M w x cs F
  move := fun h hr => d.M_move h hr
  lt := fun hr => d.M_lt hr
/-- An owned struct in a box. -/
def boxP {α : Type} (d : Dt α) (e : TypeId) (b : Nat) (x : α) (F : List Nat) : Piece where
  F := F
  R := fun w => BoxM d e w b x F
  move := fun h hr => hr.move h
  lt := fun hr => hr.lt
/-- Blocks of which nothing is known. -/
def junk (F : List Nat) : Piece where
  F := F
  R := fun w => ∀ b ∈ F, b < w.heap.size
  move := fun {w w'} h hr b hb => by
    have h1 := h b hb
    have h2 := hr b hb
    rw [Array.getElem?_eq_getElem h2] at h1
    exact block_lt h1
  lt := fun hr => hr

def feet (L : List Piece) : List Nat := L.flatMap Piece.F
theorem feet_cons (p : Piece) (L : List Piece) : feet (p :: L) = p.F ++ feet L := by simp [feet]
theorem mem_feet {p : Piece} {L : List Piece} (hp : p ∈ L) {b : Nat} (hb : b ∈ p.F) : b ∈ feet L := List.mem_flatMap.2 ⟨p, hp, hb⟩

structure St (w0 w : World) (L : List Piece) : Prop where
  below : Below w0.heap.size w0 w
  all : ∀ p ∈ L, p.R w
  nodup : (feet L).Nodup
  ge : ∀ b ∈ feet L, w0.heap.size ≤ b
section
variable {w0 w w' : World} {L : List Piece} {A A' B C D : Piece}
theorem St.start (w : World) : St w w [] := ⟨Below.refl _ _, by simp, by simp [feet], by simp [feet]⟩
theorem St.lt (h : St w0 w L) : ∀ b ∈ feet L, b < w.heap.size := by
  intro b hb
  obtain ⟨p, hp, hb⟩ := List.mem_flatMap.1 hb
  exact p.lt (h.all p hp) b hb
theorem St.size (h : St w0 w L) : w0.heap.size ≤ w.heap.size := h.below.size
theorem St.by (h : St w0 w L) (hb : Below w.heap.size w w') : St w0 w' L :=
  ⟨below_step h.below hb, fun p hp => p.move (fun b hF => hb.block b (p.lt (h.all p hp) b hF)) (h.all p hp), h.nodup, h.ge⟩
theorem St.base {w1 : World} (h : St w1 w L) (hb : Below w0.heap.size w0 w1) : St w0 w L :=
  ⟨below_step hb h.below, h.all, h.nodup, fun b hF => Nat.le_trans hb.size (h.ge b hF)⟩
theorem St.drew (h : St w0 w L) : St w0 w.drew L := h.by (Below.refl _ _).drew
theorem St.drewN (h : St w0 w L) (n : Nat) : St w0 (w.drewN n) L := h.by (below_drewN (Below.refl _ _) n)
/-- Something new. -/
theorem St.new (h : St w0 w L) (hb : Below w.heap.size w w') (hR : A.R w') (hn : A.F.Nodup) (hge : ∀ b ∈ A.F, w.heap.size ≤ b) : St w0 w' (A :: L) := by
  have hL := h.by hb
  refine ⟨hL.below, fun p hp => ?_, ?_, fun b hF => ?_⟩
  · rcases List.mem_cons.1 hp with rfl | hp
    · exact hR
    · exact hL.all p hp
  · rw [feet_cons, List.nodup_append]
    refine ⟨hn, hL.nodup, fun a ha b hb e => ?_⟩
    subst e
    have := hge a ha; have := h.lt a hb; omega
  · rw [feet_cons] at hF
    rcases List.mem_append.1 hF with h1 | h1
    · exact Nat.le_trans h.size (hge b h1)
    · exact hL.ge b h1
theorem St.alloc (h : St w0 w L) {k : Nat} {arr : Array Value} {e : TypeId} (hk : k = w.heap.size) : St w0 (w.alloc (.cells arr e)) (blk k arr e :: L) := by
  subst hk
  exact h.new ((Below.refl _ _).alloc (Nat.le_refl _) _) (alloc_new w _) (by simp [blk]) (by simp [blk])
/-- What lies first is turned. -/
theorem St.turn (h : St w0 w (A :: L)) (hc : Chg A.F w w') (hR : A'.R w') (hn : A'.F.Nodup) (hfr : ∀ b ∈ A'.F, b ∈ A.F ∨ w.heap.size ≤ b) : St w0 w' (A' :: L) := by
  have hd := h.nodup
  rw [feet_cons, List.nodup_append] at hd
  have hl : ∀ b ∈ feet L, b < w.heap.size := fun b hb => h.lt b (by rw [feet_cons]; exact List.mem_append.2 (.inr hb))
  refine ⟨h.below.trans (hc.below h.size fun b hb => h.ge b (by rw [feet_cons]; exact List.mem_append.2 (.inl hb))), fun p hp => ?_, ?_, fun b hF => ?_⟩
  · rcases List.mem_cons.1 hp with rfl | hp
    · exact hR
    · exact p.move (fun b hb => hc.block b (hl b (mem_feet hp hb)) fun ha => hd.2.2 b ha b (mem_feet hp hb) rfl) (h.all p (List.mem_cons_of_mem _ hp))
  · rw [feet_cons, List.nodup_append]
    refine ⟨hn, hd.2.1, fun a ha b hb e => ?_⟩
    subst e
    rcases hfr a ha with h1 | h1
    · exact hd.2.2 a h1 a hb rfl
    · have := hl a hb; omega
  · rw [feet_cons] at hF
    rcases List.mem_append.1 hF with h1 | h1
    · rcases hfr b h1 with h2 | h2
      · exact h.ge b (by rw [feet_cons]; exact List.mem_append.2 (.inl h2))
      · exact Nat.le_trans h.size h2
    · exact h.ge b (by rw [feet_cons]; exact List.mem_append.2 (.inr h1))
theorem St.perm {L' : List Piece} (h : St w0 w L) (hp : L.Perm L') : St w0 w L' :=
  have hf : (feet L).Perm (feet L') := List.Perm.flatMap_right _ hp
  ⟨h.below, fun p h1 => h.all p (hp.mem_iff.2 h1), hf.nodup_iff.1 h.nodup, fun b h1 => h.ge b (hf.mem_iff.2 h1)⟩
theorem St.drop (h : St w0 w (A :: L)) : St w0 w L := by
  have hd := h.nodup
  rw [feet_cons, List.nodup_append] at hd
  exact ⟨h.below, fun p hp => h.all p (List.mem_cons_of_mem _ hp), hd.2.1, fun b hb => h.ge b (by rw [feet_cons]; exact List.mem_append.2 (.inr hb))⟩
theorem St.pull1 (h : St w0 w (A :: B :: L)) : St w0 w (B :: A :: L) := h.perm (List.Perm.swap _ _ _)
theorem St.pull2 (h : St w0 w (A :: B :: C :: L)) : St w0 w (C :: A :: B :: L) := h.perm ((List.Perm.cons _ (List.Perm.swap _ _ _)).trans (List.Perm.swap _ _ _))
theorem St.pull3 (h : St w0 w (A :: B :: C :: D :: L)) : St w0 w (D :: A :: B :: C :: L) :=
  h.perm ((List.Perm.cons _ ((List.Perm.cons _ (List.Perm.swap _ _ _)).trans (List.Perm.swap _ _ _))).trans (List.Perm.swap _ _ _))
theorem St.pull4 {E : Piece} (h : St w0 w (A :: B :: C :: D :: E :: L)) : St w0 w (E :: A :: B :: C :: D :: L) :=
  h.perm ((List.Perm.cons _ ((List.Perm.cons _ ((List.Perm.cons _ (List.Perm.swap _ _ _)).trans (List.Perm.swap _ _ _))).trans (List.Perm.swap _ _ _))).trans (List.Perm.swap _ _ _))
theorem St.push1 (h : St w0 w (B :: A :: L)) : St w0 w (A :: B :: L) := h.pull1
theorem St.push2 (h : St w0 w (C :: A :: B :: L)) : St w0 w (A :: B :: C :: L) := h.pull2.pull2
theorem St.push3 (h : St w0 w (D :: A :: B :: C :: L)) : St w0 w (A :: B :: C :: D :: L) := h.pull3.pull3.pull3
theorem St.push4 {E : Piece} (h : St w0 w (E :: A :: B :: C :: D :: L)) : St w0 w (A :: B :: C :: D :: E :: L) := h.pull4.pull4.pull4.pull4
/-- The second piece goes. -/
theorem St.drop1 (h : St w0 w (A :: B :: L)) : St w0 w (A :: L) := h.pull1.drop
theorem St.drop2 (h : St w0 w (A :: B :: C :: L)) : St w0 w (A :: B :: L) := h.pull2.drop
theorem St.drop3 (h : St w0 w (A :: B :: C :: D :: L)) : St w0 w (A :: B :: C :: L) := h.pull3.drop
theorem St.head (h : St w0 w (A :: L)) : A.R w := h.all A List.mem_cons_self
theorem St.headN (h : St w0 w (A :: L)) : A.F.Nodup := by
  have hd := h.nodup
  rw [feet_cons, List.nodup_append] at hd
  exact hd.1
theorem St.headG (h : St w0 w (A :: L)) : ∀ b ∈ A.F, w0.heap.size ≤ b := fun b hb => h.ge b (by rw [feet_cons]; exact List.mem_append.2 (.inl hb))
/-- A store into a block that is known whole. -/
theorem St.set0 {b o : Nat} {arr arr' : Array Value} {e : TypeId} {u : Value} (h : St w0 w (blk b arr e :: L)) (ha : arr' = (arr.toList.set o u).toArray) : St w0 (w.setCell ⟨b, o, none⟩ u) (blk b arr' e :: L) := by
  have ha : arr' = arr.setIfInBounds o u := by rw [ha]; apply Array.ext'; simp
  subst ha
  exact h.turn (Chg.setCell (Chg.refl _ _) (.inl (by simp [blk])) u) (setCell_block w b o u h.head) (by simp [blk]) (fun b hb => .inl hb)
theorem St.set1 {b o : Nat} {arr arr' : Array Value} {e : TypeId} {u : Value} (h : St w0 w (A :: blk b arr e :: L)) (ha : arr' = (arr.toList.set o u).toArray) : St w0 (w.setCell ⟨b, o, none⟩ u) (A :: blk b arr' e :: L) := (h.pull1.set0 ha).push1
theorem St.set2 {b o : Nat} {arr arr' : Array Value} {e : TypeId} {u : Value} (h : St w0 w (A :: B :: blk b arr e :: L)) (ha : arr' = (arr.toList.set o u).toArray) : St w0 (w.setCell ⟨b, o, none⟩ u) (A :: B :: blk b arr' e :: L) := (h.pull2.set0 ha).push2
theorem St.set3 {b o : Nat} {arr arr' : Array Value} {e : TypeId} {u : Value} (h : St w0 w (A :: B :: C :: blk b arr e :: L)) (ha : arr' = (arr.toList.set o u).toArray) : St w0 (w.setCell ⟨b, o, none⟩ u) (A :: B :: C :: blk b arr' e :: L) := (h.pull3.set0 ha).push3
/-- What a block's cells are. -/
structure Blk (w : World) (b : Nat) (arr : Array Value) : Prop where
  cell : ∀ o, w.cell? ⟨b, o, none⟩ = arr[o]?
  frozen : ∀ o, w.frozen? ⟨b, o, none⟩ = false
  lt : b < w.heap.size
theorem Blk.of {b : Nat} {arr : Array Value} {e : TypeId} (h : w.heap[b]? = some (.cells arr e (0, 0))) : Blk w b arr := ⟨fun o => cell_block h, fun o => frozen_block h, block_lt h⟩
theorem St.at0 {b : Nat} {arr : Array Value} {e : TypeId} (h : St w0 w (blk b arr e :: L)) : Blk w b arr := Blk.of h.head
theorem St.at1 {b : Nat} {arr : Array Value} {e : TypeId} (h : St w0 w (A :: blk b arr e :: L)) : Blk w b arr := Blk.of h.drop.head
theorem St.at2 {b : Nat} {arr : Array Value} {e : TypeId} (h : St w0 w (A :: B :: blk b arr e :: L)) : Blk w b arr := Blk.of h.drop.drop.head
theorem St.at3 {b : Nat} {arr : Array Value} {e : TypeId} (h : St w0 w (A :: B :: C :: blk b arr e :: L)) : Blk w b arr := Blk.of h.drop.drop.drop.head
theorem Blk.rowAt {α : Type} {d : Dt α} {b : Nat} {arr : Array Value} {x : α} {cs : List Value} (h : Blk w b arr) (hk : d.K w x cs) (ha : arr.toList = cs) : RowAt d w b 0 [x] := by
  intro j y hj
  cases j with
  | zero =>
    simp at hj; subst hj
    refine ⟨cs, hk, fun i u hi => ?_⟩
    rw [show (⟨b, 0 + 0 * d.sz + i, none⟩ : Addr) = ⟨b, i, none⟩ by simp, h.cell, ← Array.getElem?_toList, ha]; exact hi
  | succ j => simp at hj
theorem Blk.c1 {b : Nat} {x0 : Value} (h : Blk w b #[x0]) : w.cell? ⟨b, 0, none⟩ = some x0 := h.cell 0
theorem Blk.c2 {b : Nat} {x0 x1 : Value} (h : Blk w b #[x0, x1]) : w.cell? ⟨b, 0, none⟩ = some x0 ∧ w.cell? ⟨b, 1, none⟩ = some x1 := ⟨h.cell 0, h.cell 1⟩
theorem Blk.c3 {b : Nat} {x0 x1 x2 : Value} (h : Blk w b #[x0, x1, x2]) : w.cell? ⟨b, 0, none⟩ = some x0 ∧ w.cell? ⟨b, 1, none⟩ = some x1 ∧ w.cell? ⟨b, 2, none⟩ = some x2 := ⟨h.cell 0, h.cell 1, h.cell 2⟩
theorem Blk.c4 {b : Nat} {x0 x1 x2 x3 : Value} (h : Blk w b #[x0, x1, x2, x3]) : w.cell? ⟨b, 0, none⟩ = some x0 ∧ w.cell? ⟨b, 1, none⟩ = some x1 ∧ w.cell? ⟨b, 2, none⟩ = some x2 ∧ w.cell? ⟨b, 3, none⟩ = some x3 := ⟨h.cell 0, h.cell 1, h.cell 2, h.cell 3⟩
end
section
variable {α : Type} {d : Dt α} {e : TypeId} {w0 w w' : World} {L : List Piece} {x : α} {r : Ending}
/-- A call that returns a struct of its own. -/
theorem St.elem (h : St w0 w L) (hr : RetElem d w x r w') : ∃ cs F, r = .returned (.agg cs.toArray) ∧ d.K w' x cs ∧ Below w.heap.size w w' ∧ St w0 w' (ownD d x cs F :: L) := by
  obtain ⟨cs, F, he, hM, hn, hge, hb⟩ := hr
  exact ⟨cs, F, he, d.M_K hM, hb, h.new hb hM hn hge⟩
theorem St.elem2 {ok : Bool} (h : St w0 w L) (hr : RetElem2 d w x ok r w') : ∃ cs F, r = .returned (.tuple #[.agg cs.toArray, .bool ok]) ∧ d.K w' x cs ∧ Below w.heap.size w w' ∧ St w0 w' (ownD d x cs F :: L) := by
  obtain ⟨cs, F, he, hM, hn, hge, hb⟩ := hr
  exact ⟨cs, F, he, d.M_K hM, hb, h.new hb hM hn hge⟩
theorem St.made (h : St w0 w L) {xs : List α} {v : Value} (hm : Made d e w w' v xs) (hb : Below w.heap.size w w') : ∃ F, St w0 w' (own d e v xs F :: L) := by
  obtain ⟨F, hM, hn, hge⟩ := hm
  exact ⟨F, h.new hb hM hn hge⟩
/-- A struct of its own goes into a box. -/
theorem St.box {cs : List Value} {F : List Nat} {k : Nat} {arr : Array Value} (h : St w0 w (ownD d x cs F :: L)) (hk : k = w.heap.size) (ha : arr = cs.toArray) : St w0 (w.alloc (.cells arr e)) (boxP d e k x (k :: F) :: L) := by
  subst hk
  subst ha
  refine h.turn (A' := boxP d e w.heap.size x (w.heap.size :: F)) (Chg.alloc (Chg.refl _ _) _) (BoxM.new h.head h.headN rfl) ?_ ?_
  · exact List.nodup_cons.2 ⟨fun hb => by have := d.M_lt h.head _ hb; omega, h.headN⟩
  · intro b hb
    rcases List.mem_cons.1 hb with rfl | hb
    · exact .inr (Nat.le_refl _)
    · exact .inl hb
theorem St.ret2 {cs : List Value} {F : List Nat} {ok : Bool} {v : Value} (h : St w0 w (ownD d x cs F :: L)) (hv : v = .tuple #[.agg cs.toArray, .bool ok]) : RetElem2 d w0 x ok (.returned v) w :=
  ⟨cs, F, by rw [hv], h.head, h.headN, h.headG, h.below⟩
theorem St.ret1 {cs : List Value} {F : List Nat} {v : Value} (h : St w0 w (ownD d x cs F :: L)) (hv : v = .agg cs.toArray) : RetElem d w0 x (.returned v) w :=
  ⟨cs, F, by rw [hv], h.head, h.headN, h.headG, h.below⟩
end
/-- What lies first is lost. -/
theorem St.lose {w0 w w' : World} {L : List Piece} {A : Piece} (h : St w0 w (A :: L)) (hc : Chg A.F w w') : St w0 w' L :=
  (h.turn (A' := junk []) hc (by simp [junk]) (by simp [junk]) (by simp [junk])).drop
/-- A box is opened: the struct by value, and its block. -/
theorem St.unbox {α : Type} {d : Dt α} {e : TypeId} {w0 w : World} {L : List Piece} {x : α} {b : Nat} {F : List Nat} (h : St w0 w (boxP d e b x F :: L)) : ∃ cs G, d.K w x cs ∧ St w0 w (ownD d x cs G :: blk b cs.toArray e :: L) := by
  obtain ⟨cs, G, rfl, hb, hm, hn⟩ := h.head
  refine ⟨cs, G, d.M_K hm, ?_⟩
  have hf : (feet (ownD d x cs G :: blk b cs.toArray e :: L)).Perm (feet (boxP d e b x (b :: G) :: L)) := by
    simp only [feet_cons, ownD, boxP, blk]
    rw [← List.append_assoc]
    refine List.Perm.append_right _ ?_
    exact List.perm_append_comm
  refine ⟨h.below, fun p hp => ?_, hf.nodup_iff.2 h.nodup, fun c hc => h.ge c (hf.mem_iff.1 hc)⟩
  rcases List.mem_cons.1 hp with rfl | hp
  · exact hm
  · rcases List.mem_cons.1 hp with rfl | hp
    · exact hb
    · exact h.drop.all p hp
theorem St.boxRow {α : Type} {d : Dt α} {e : TypeId} {w0 w : World} {L : List Piece} {x : α} {b : Nat} {F : List Nat} (h : St w0 w (boxP d e b x F :: L)) : RowAt d w b 0 [x] := BoxM.row h.head
/-- What a function value does with a struct in a box: only where it says yes the struct is told. -/
def TurnsS (P : Program) {α : Type} (d : Dt α) (e : TypeId) (g : Nat) (caps : Array Value) (pre : α → Prop) (f : α → α × Bool) (w : World) : Prop :=
  ∀ (x : α) (b : Nat) (F : List Nat) (W : World) (L : List Piece), St w W (boxP d e b x F :: L) → pre x →
    Calls P g (#[.pointer (some ⟨b, 0, none⟩)] ++ caps) W fun r W' => r = .returned (.bool (f x).2) ∧ ∃ A, St w W' (A :: L) ∧ ((f x).2 = true → ∃ F', A = boxP d e b (f x).1 F')
end Go.Proofs.Ytccgjnanphonnaa
