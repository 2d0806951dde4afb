/- append, told by what is known of the memory. -/
import Derived.Test.YtccgjnanphonnaaSt
import Derived.Test.YtccgjnanphonnaaFlat
namespace Go.Proofs.Ytccgjnanphonnaa
open Go Go.RowKit
set_option linter.unusedVariables false
set_option linter.unusedSimpArgs false

section
variable {w0 w w' : World} {L : List Piece}
/-- An empty row that has just been made. -/
theorem St.empty {α : Type} {d : Dt α} {e : TypeId} {k : Nat} (h : St w0 w (blk k #[] e :: L)) : St w0 w (own d e (.slice (some ⟨k, 0, none⟩) 0 0) [] [k] :: L) :=
  h.turn (A' := own d e (.slice (some ⟨k, 0, none⟩) 0 0) [] [k]) (Chg.refl _ _) (.inr ⟨k, 0, #[], [], [], rfl, Nat.le_refl _, Nat.zero_le _, h.head, by simp, by simp, .nil, rfl⟩) (by simp [own]) (fun b hb => .inl hb)
/-- A nil row of one's own. -/
theorem St.nil {α : Type} {d : Dt α} {e : TypeId} (h : St w0 w L) : St w0 w (own d e (.slice none 0 0) [] [] :: L) :=
  h.new (Below.refl _ _) (.inl ⟨rfl, rfl, rfl⟩) (by simp [own]) (by simp [own])
theorem St.toK {α : Type} {d : Dt α} {e : TypeId} {v : Value} {xs : List α} {F : List Nat} (h : St w0 w (own d e v xs F :: L)) : SliceK d w v xs := SliceM.toK h.head
end
section
variable {P : Program} {α : Type} {n : Nat} {enc : α → List Value} {hl : ∀ x, (enc x).length = n} {h1 : ∀ x, ∀ u ∈ enc x, u.oneCell' = true} {w0 : World} {L : List Piece}
/-- A block of one flat struct, as a row. -/
theorem Blk.row1 {w : World} {b : Nat} {arr : Array Value} {x : α} (h : Blk w b arr) (ha : arr.toList = enc x) : SliceK (Dt.flat n enc hl h1) w (.slice (some ⟨b, 0, none⟩) 1 1) [x] := by
  refine ⟨_, _, rfl, Nat.le_refl _, by omega, .inr ⟨b, 0, rfl, fun j y hj => ?_⟩⟩
  cases j with
  | zero =>
    simp at hj; subst hj
    refine ⟨enc x, rfl, fun i u hi => ?_⟩
    rw [show (⟨b, 0 + 0 * (Dt.flat n enc hl h1).sz + i, none⟩ : Addr) = ⟨b, i, none⟩ by simp, h.cell, ← Array.getElem?_toList, ha]; exact hi
  | succ j => simp at hj
/-- append of a row of flat values, empty or not. -/
theorem wpList_app_st {d : Dt α} (hd : d = Dt.flat n enc hl h1) {e : TypeId} (w : World) {ops : Array Oper} {rest : List Oper} {o : Oper} {a : Act} {Q : Exit → Act → World → Prop} (hgd : o.guard = none) (s x : Operand) (t : TypeId)
    (ho : o.op = .call { callee := .builtin .append, args := #[s, x], argTypes := #[t, t] }) (z : Value) (bytes : Nat)
    (ht : P.underlying t = some (.slice e)) (hinfo : (P.info? e).map (fun i => (i.zero, i.size, i.bytes)) = some (some z, n, bytes)) (hzs : z.cells.size = n) (hn : 0 < n) (hby : bytes ≤ 1000)
    (v : Value) (xs : List α) (F : List Nat) (hs : a.eval s = v) (hS : St w0 w (own d e v xs F :: L))
    (A : Option Addr) (m c : Nat) (ys : List α) (hx : a.eval x = .slice A m c) (hm : m = ys.length) (hK : SliceK d w (.slice A m c) ys) (hlen : xs.length + ys.length ≤ 1048576)
    (h : ∀ A' c' w' F', Chg F w w' → St w0 w' (own d e (.slice A' (xs ++ ys).length c') (xs ++ ys) F' :: L) → wpList P ops Q rest (a.put o.dst (.slice A' (xs ++ ys).length c')) w') : wpList P ops Q (o :: rest) a w := by
  subst hd
  subst hm
  by_cases h0 : ys = []
  · subst h0
    obtain ⟨i, hi, _⟩ := info_parts hinfo
    obtain ⟨A2, c2, rfl, hle, hmx, -⟩ := hS.toK
    refine wpList_app0 w hgd s x t e ho i ht hi A2 xs.length c2 hle hs A c hx ?_
    have := h A2 c2 w F (Chg.refl _ _) (by simpa using hS)
    simpa using this
  · obtain ⟨A2, c2, heq, _, _, hor⟩ := hK
    simp only [Value.slice.injEq] at heq
    obtain ⟨rfl, _, rfl⟩ := heq
    rcases hor with hnil | ⟨b, o2, rfl, hr⟩
    · exact absurd hnil h0
    refine wpList_app_flat w hgd s x t ho z bytes ht hinfo hzs hn hby v xs F hs hS.head hS.headN b o2 c ys hx hr (List.length_pos_iff.2 h0) hlen ?_
    intro g cap w' F' hap
    have := h (some ⟨g, 0, none⟩) cap w' F' hap.chg (hS.turn (A' := own (Dt.flat n enc hl h1) e (.slice (some ⟨g, 0, none⟩) (xs ++ ys).length cap) (xs ++ ys) F') hap.chg (by simpa [own] using hap.m) hap.nodup (fun y hy => by
      rcases hap.from_ y hy with h | h | h
      · exact .inl h
      · simp at h
      · exact .inr (by omega)))
    simpa using this
/-- append of a row of flat values, empty or not, to an empty row that has just been made. -/
theorem wpList_copy_st {d : Dt α} (hd : d = Dt.flat n enc hl h1) {e : TypeId} (w : World) {ops : Array Oper} {rest : List Oper} {o : Oper} {a : Act} {Q : Exit → Act → World → Prop} (hgd : o.guard = none) (s x : Operand) (t : TypeId)
    (ho : o.op = .call { callee := .builtin .append, args := #[s, x], argTypes := #[t, t] }) (z : Value) (bytes : Nat)
    (ht : P.underlying t = some (.slice e)) (hinfo : (P.info? e).map (fun i => (i.zero, i.size, i.bytes)) = some (some z, n, bytes)) (hzs : z.cells.size = n) (hn : 0 < n) (hby : bytes ≤ 1000)
    (k : Nat) (hs : a.eval s = .slice (some ⟨k, 0, none⟩) 0 0) (hS : St w0 w (blk k #[] e :: L))
    (A : Option Addr) (m c : Nat) (ys : List α) (hx : a.eval x = .slice A m c) (hm : m = ys.length) (hK : SliceK d w (.slice A m c) ys) (hlen : ys.length ≤ 1048576)
    (h : ∀ A' c' w' F', Chg [k] w w' → St w0 w' (own d e (.slice A' ys.length c') ys F' :: L) → wpList P ops Q rest (a.put o.dst (.slice A' ys.length c')) w') : wpList P ops Q (o :: rest) a w :=
  wpList_app_st hd w hgd s x t ho z bytes ht hinfo hzs hn hby _ [] [k] hs hS.empty A m c ys hx hm hK (by simpa using hlen) h
/-- append of one flat struct that lies in a block of its own, as a step of a region that draws its order. -/
theorem step_app_st {d : Dt α} (hd : d = Dt.flat n enc hl h1) {e : TypeId} {ops : Array Oper} {o : Oper} {a : Act} {w : World} {K : Act → World → Prop} {Q : Exit → Act → World → Prop} {E : Prop} (hg : o.guard = none) (s x : Operand) (t : TypeId)
    (ho : o.op = .call { callee := .builtin .append, args := #[s, x], argTypes := #[t, t] }) (z : Value) (bytes : Nat)
    (ht : P.underlying t = some (.slice e)) (hinfo : (P.info? e).map (fun i => (i.zero, i.size, i.bytes)) = some (some z, n, bytes)) (hzs : z.cells.size = n) (hn : 0 < n) (hby : bytes ≤ 1000)
    (v : Value) (xs : List α) (F : List Nat) (hs : a.eval s = v) (b : Nat) (arr : Array Value) (hS : St w0 w (blk b arr e :: own d e v xs F :: L)) (c : Nat) (hx : a.eval x = .slice (some ⟨b, 0, none⟩) 1 c) (y : α) (ha : arr.toList = enc y) (hlen : xs.length < 1048576)
    (h : ∀ g cap w' F', St w0 w' (own d e (.slice (some ⟨g, 0, none⟩) (xs.length + 1) cap) (xs ++ [y]) F' :: L) → K (a.put o.dst (.slice (some ⟨g, 0, none⟩) (xs.length + 1) cap)) w') :
    if Region.wanted o (yielded ops a.tmps) = true then Oper.wp P o a w K Q else E := by
  have hw : Region.wanted o (yielded ops a.tmps) = true := by simp [Region.wanted, hg]
  rw [if_pos hw]
  subst hd
  have hB := hS.at0
  refine wp_app w s x t ho z n bytes ht hinfo hzs hn rfl v xs F hs hS.drop.head hS.drop.headN ⟨b, 0, none⟩ 1 c hx [y] [enc y] [[]] rfl (.cons ⟨rfl, rfl⟩ .nil) (by simp) (by simp) (fun j u hu => ?_) (by omega) (by unfold maxLen; omega) (by have : (xs.length + 1) * bytes ≤ 1048576 * 1000 := Nat.mul_le_mul (by omega) hby; omega) ?_
  · rw [show (⟨b, 0, none⟩ : Addr).add j = ⟨b, j, none⟩ by unfold Addr.add; split <;> simp_all, hB.cell, ← Array.getElem?_toList, ha]
    simpa using hu
  · intro g cap w' F' hap
    refine h g cap w' F' (St.turn (A' := own (Dt.flat n enc hl h1) e (.slice (some ⟨g, 0, none⟩) (xs.length + 1) cap) (xs ++ [y]) F') hS.drop hap.chg hap.m hap.nodup (fun y hy => ?_))
    rcases hap.from_ y hy with h | h | h
    · exact .inl h
    · simp at h
    · exact .inr (by omega)
end
end Go.Proofs.Ytccgjnanphonnaa
