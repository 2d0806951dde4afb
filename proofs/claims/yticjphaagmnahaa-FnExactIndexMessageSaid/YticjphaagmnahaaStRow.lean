/- append of a whole row of flat values, as a step of a region that draws its order. -/
import Derived.Test.YticjphaagmnahaaRGround
namespace Go.Proofs.Yticjphaagmnahaa
open Go Go.RowKit
set_option linter.unusedVariables false
set_option linter.unusedSimpArgs false

section
variable {P : Program} {α : Type} {n : Nat} {enc : α → List Value} {hl : ∀ x, (enc x).length = n} {h1 : ∀ x, ∀ u ∈ enc x, u.oneCell' = true} {w0 : World} {L : List Piece}
theorem wp_row_st {d : Dt α} (hd : d = Dt.flat n enc hl h1) {e : TypeId} {o : Oper} {a : Act} {w : World} {K : Act → World → Prop} {Q : Exit → Act → World → Prop} (s x : Operand) (t : TypeId)
    (ho : o.op = .call { callee := .builtin .append, args := #[s, x], argTypes := #[t, t] }) (z : Value) (bytes : Nat)
    (ht : P.underlying t = some (.slice e)) (hinfo : (P.info? e).map (fun i => (i.zero, i.size, i.bytes)) = some (some z, n, bytes)) (hzs : z.cells.size = n) (hn : 0 < n) (hby : bytes ≤ 1000)
    (v : Value) (xs : List α) (F : List Nat) (hs : a.eval s = v) (hS : St w0 w (own d e v xs F :: L))
    (A : Option Addr) (m c : Nat) (ys : List α) (hx : a.eval x = .slice A m c) (hm : m = ys.length) (hK : SliceK d w (.slice A m c) ys) (hlen : xs.length + ys.length ≤ 1048576)
    (h : ∀ A' c' w' F', St w0 w' (own d e (.slice A' (xs ++ ys).length c') (xs ++ ys) F' :: L) → K (a.put o.dst (.slice A' (xs ++ ys).length c')) w') : o.wp P a w K Q := by
  subst hd
  subst hm
  by_cases h0 : ys = []
  · subst h0
    obtain ⟨i, hi, _⟩ := info_parts hinfo
    obtain ⟨A2, c2, rfl, hle, hmx, -⟩ := hS.toK
    have hrun := run_app0 (P := P) w t o.type e i ht hi A2 xs.length c2 hle A c
    unfold Oper.wp
    simp [execOp, ho, resolve, invoke, builtin, hs, hx, hrun, Result.andThen, Oper.upon]
    have := h A2 c2 w F (by simpa using hS)
    simpa using this
  · obtain ⟨A2, c2, heq, _, _, hor⟩ := hK
    simp only [Value.slice.injEq] at heq
    obtain ⟨rfl, _, rfl⟩ := heq
    rcases hor with hnil | ⟨b, o2, rfl, hr⟩
    · exact absurd hnil h0
    have hnn : (ys.map fun _ => ([] : List Nat)).flatten = [] := flatten_nils ys
    have hb1 : (xs.length + ys.length) * bytes ≤ 1048576 * 1000 := Nat.mul_le_mul hlen hby
    refine wp_app (d := Dt.flat n enc hl h1) w s x t ho z n bytes ht hinfo hzs hn rfl v xs F hs hS.head hS.headN ⟨b, o2, none⟩ ys.length c hx ys (ys.map enc) (ys.map fun _ => []) rfl (All3.flat ys) (by rw [hnn]; simp) (by rw [hnn]; simp)
      (fun j u hu => ?_) (List.length_pos_iff.2 h0) (by unfold maxLen; omega) (by omega) ?_
    · obtain ⟨cs, h2, h3⟩ := flatten_at hn (ys.map enc) (fun c hc => by obtain ⟨y, _, rfl⟩ := List.mem_map.1 hc; exact hl y) j u hu
      rw [List.getElem?_map] at h2
      rcases hj : ys[j / n]? with _ | y
      · rw [hj] at h2; cases h2
      · rw [hj] at h2
        simp only [Option.map_some, Option.some.injEq] at h2
        subst h2
        obtain ⟨cs', hk, hc⟩ := hr (j / n) y hj
        obtain rfl : cs' = enc y := hk
        have h4 := hc (j % n) u h3
        have h5 : o2 + j / n * n + j % n = o2 + j := by have := Nat.div_add_mod' j n; omega
        rw [show (⟨b, o2, none⟩ : Addr).add j = ⟨b, o2 + j, none⟩ by unfold Addr.add; split <;> simp_all]
        rw [← h5]; exact h4
    · rw [hnn]
      intro g cap w' F' hap
      have := h (some ⟨g, 0, none⟩) cap w' F' (hS.turn (A' := own (Dt.flat n enc hl h1) e (.slice (some ⟨g, 0, none⟩) (xs ++ ys).length cap) (xs ++ ys) F') hap.chg (by simpa [own] using hap.m) hap.nodup (fun y hy => by
        rcases hap.from_ y hy with h | h | h
        · exact .inl h
        · simp at h
        · exact .inr (by omega)))
      simpa using this
theorem step_row_st {d : Dt α} (hd : d = Dt.flat n enc hl h1) {e : TypeId} {ops : Array Oper} {o : Oper} {a : Act} {w : World} {K : Act → World → Prop} {Q : Exit → Act → World → Prop} {E : Prop} (hg : o.guard = none) (s x : Operand) (t : TypeId)
    (ho : o.op = .call { callee := .builtin .append, args := #[s, x], argTypes := #[t, t] }) (z : Value) (bytes : Nat)
    (ht : P.underlying t = some (.slice e)) (hinfo : (P.info? e).map (fun i => (i.zero, i.size, i.bytes)) = some (some z, n, bytes)) (hzs : z.cells.size = n) (hn : 0 < n) (hby : bytes ≤ 1000)
    (v : Value) (xs : List α) (F : List Nat) (hs : a.eval s = v) (hS : St w0 w (own d e v xs F :: L))
    (A : Option Addr) (m c : Nat) (ys : List α) (hx : a.eval x = .slice A m c) (hm : m = ys.length) (hK : SliceK d w (.slice A m c) ys) (hlen : xs.length + ys.length ≤ 1048576)
    (h : ∀ A' c' w' F', St w0 w' (own d e (.slice A' (xs ++ ys).length c') (xs ++ ys) F' :: L) → K (a.put o.dst (.slice A' (xs ++ ys).length c')) w') :
    if Region.wanted o (yielded ops a.tmps) = true then Oper.wp P o a w K Q else E := by
  have hw : Region.wanted o (yielded ops a.tmps) = true := by simp [Region.wanted, hg]
  rw [if_pos hw]
  exact wp_row_st hd s x t ho z bytes ht hinfo hzs hn hby v xs F hs hS A m c ys hx hm hK hlen h
end
section
variable {α : Type} {d : Dt α} {w : World} {A : Option Addr} {m c k : Nat} {xs : List α}
/-- A part of a row that is read. -/
theorem SliceK.front (h : SliceK d w (.slice A m c) xs) (hk : k ≤ xs.length) : SliceK d w (.slice A k c) (xs.take k) := by
  obtain ⟨A2, c2, hv, h1, h2, h3⟩ := h
  simp only [Value.slice.injEq] at hv
  obtain ⟨rfl, _, rfl⟩ := hv
  have hl : (xs.take k).length = k := by simp; omega
  refine ⟨A, c, by rw [hl], by omega, h2, ?_⟩
  rcases h3 with rfl | ⟨b, o, rfl, hr⟩
  · exact .inl (by simp)
  · exact .inr ⟨b, o, rfl, hr.take k⟩
theorem SliceK.back (h : SliceK d w (.slice A m c) xs) (hk : k ≤ xs.length) : SliceK d w (.slice (if c = k then A else A.map (fun a => a.add (k * d.sz))) (m - k) (c - k)) (xs.drop k) := by
  obtain ⟨A2, c2, hv, h1, h2, h3⟩ := h
  simp only [Value.slice.injEq] at hv
  obtain ⟨rfl, rfl, rfl⟩ := hv
  refine ⟨_, _, by rw [List.length_drop], by rw [List.length_drop]; omega, by omega, ?_⟩
  rcases h3 with rfl | ⟨b, o, rfl, hr⟩
  · exact .inl (by simp)
  · by_cases hc : c = k
    · exact .inl (by rw [List.drop_eq_nil_iff]; omega)
    · refine .inr ⟨b, o + k * d.sz, ?_, hr.drop k⟩
      rw [if_neg hc]
      simp only [Option.map_some, Option.some.injEq]
      unfold Addr.add
      split
      · rename_i h0; rw [h0]; rfl
      · rfl
theorem SliceK.back2 {b o : Nat} (h : SliceK d w (.slice (some ⟨b, o, none⟩) m c) xs) (hk : k ≤ xs.length) (hc : ¬ c = k) : SliceK d w (.slice (some ⟨b, o + k * d.sz, none⟩) (m - k) (c - k)) (xs.drop k) := by
  have h2 := h.back hk
  rw [if_neg hc] at h2
  have h3 : (⟨b, o, none⟩ : Addr).add (k * d.sz) = ⟨b, o + k * d.sz, none⟩ := by
    unfold Addr.add
    split
    · rename_i h0; rw [h0]; rfl
    · rfl
  simp only [Option.map_some, h3] at h2
  exact h2
end
end Go.Proofs.Yticjphaagmnahaa
