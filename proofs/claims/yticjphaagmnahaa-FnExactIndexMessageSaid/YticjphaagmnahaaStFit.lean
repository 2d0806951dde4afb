/- append to a part of an owned row of flat values, where all fits; slices.Delete's plain law. -/
import Derived.Test.YticjphaagmnahaaStRow
namespace Go.Proofs.Yticjphaagmnahaa
open Go Go.RowKit
set_option linter.unusedVariables false
set_option linter.unusedSimpArgs false

section
variable {P : Program} {α : Type} {n : Nat} {enc : α → List Value} {hl : ∀ x, (enc x).length = n} {h1 : ∀ x, ∀ u ∈ enc x, u.oneCell' = true} {w0 : World} {L : List Piece}
theorem encs_len (xs : List α) (hl : ∀ x, (enc x).length = n) : (xs.map enc).flatten.length = xs.length * n := by
  rw [flat_len _ (fun c hc => by obtain ⟨y, _, rfl⟩ := List.mem_map.1 hc; exact hl y), List.length_map]
theorem chg_setRow (w : World) (b : Nat) (cs : Array Value) : Chg [b] w (w.setRow b cs) :=
  ⟨rfl, rfl, rfl, by rw [size_setRow]; exact Nat.le_refl _, fun k hk hn => setRow_other w b k cs (by simpa using hn)⟩
/-- A part of an owned row goes on with other values, in place. -/
theorem St.fit {d : Dt α} (hd : d = Dt.flat n enc hl h1) {e : TypeId} {w : World} {b c i : Nat} {xs ys : List α} {F : List Nat} (hS : St w0 w (own d e (.slice (some ⟨b, 0, none⟩) xs.length c) xs F :: L)) (hi : i ≤ xs.length) (hroom : i + ys.length ≤ c) :
    ∃ cur, w.heap[b]? = some (.cells cur e (0, 0)) ∧ cur.size = c * n ∧
      St w0 (w.setRow b (cur.toList.take (i * n) ++ (ys.map enc).flatten ++ cur.toList.drop (i * n + (ys.map enc).flatten.length)).toArray) (own d e (.slice (some ⟨b, 0, none⟩) (xs.take i ++ ys).length c) (xs.take i ++ ys) F :: L) ∧
      (∀ q, q < c * n → ((w.setRow b (cur.toList.take (i * n) ++ (ys.map enc).flatten ++ cur.toList.drop (i * n + (ys.map enc).flatten.length)).toArray).cell? ⟨b, q, none⟩).isSome = true) ∧
      (∀ q, (w.setRow b (cur.toList.take (i * n) ++ (ys.map enc).flatten ++ cur.toList.drop (i * n + (ys.map enc).flatten.length)).toArray).frozen? ⟨b, q, none⟩ = false) := by
  subst hd
  rcases flat_M hS.head with ⟨h0, _⟩ | ⟨b', cap, cur, hv, h2, h3, hh, h4, h5, hF⟩
  · cases h0
  simp only [Value.slice.injEq, Option.some.injEq, Addr.mk.injEq, and_true, true_and] at hv
  obtain ⟨rfl, rfl⟩ := hv
  subst hF
  have hin : i * n ≤ c * n := Nat.mul_le_mul_right n (by omega)
  have hyl := encs_len (enc := enc) ys hl
  have hsum : i * n + ys.length * n ≤ c * n := by rw [← Nat.add_mul]; exact Nat.mul_le_mul_right n hroom
  have hcl : cur.toList.length = c * n := by rw [Array.length_toList]; exact h4
  obtain ⟨cs, hcs⟩ : ∃ cs, cs = (cur.toList.take (i * n) ++ (ys.map enc).flatten ++ cur.toList.drop (i * n + (ys.map enc).flatten.length)).toArray := ⟨_, rfl⟩
  have hsz : cs.size = c * n := by
    rw [hcs]; simp only [List.size_toArray, List.length_append, List.length_take, List.length_drop, hcl, hyl]; omega
  have hb2 := setRow_heap w b cur cs e (0, 0) hh
  have hlen : (xs.take i ++ ys).length = i + ys.length := by simp; omega
  refine ⟨cur, hh, h4, ?_, ?_, ?_⟩
  · rw [← hcs]
    refine hS.turn (A' := own _ e (.slice (some ⟨b, 0, none⟩) (xs.take i ++ ys).length c) (xs.take i ++ ys) [b]) (chg_setRow w b cs) ?_ (by simp [own]) (fun y hy => .inl hy)
    refine flat_M_mk (n := n) (by omega) h3 hb2 hsz ?_
    rw [hlen, hcs]
    simp only [List.map_append, List.flatten_append]
    have ht : cur.toList.take (i * n) = ((xs.take i).map enc).flatten := by
      rw [List.map_take, ← flatten_take i _ (fun c hc => by obtain ⟨y, _, rfl⟩ := List.mem_map.1 hc; exact hl y), ← h5, List.take_take, Nat.min_eq_left (Nat.mul_le_mul_right n hi)]
    have hl2 : ((cur.toList.take (i * n)) ++ (ys.map enc).flatten).length = (i + ys.length) * n := by
      rw [List.length_append, List.length_take, hcl, hyl, Nat.add_mul]; omega
    rw [List.take_append_of_le_length (by rw [hl2]; exact Nat.le_refl _), List.take_of_length_le (by rw [hl2]; exact Nat.le_refl _), ht]
  · intro q hq
    rw [← hcs, cell_block hb2, Array.getElem?_eq_getElem (by omega)]; rfl
  · intro q
    rw [← hcs]; exact frozen_block hb2
theorem run_fit {d : Dt α} (hd : d = Dt.flat n enc hl h1) {e : TypeId} {w : World} {b c i : Nat} {xs ys : List α} {F : List Nat} (hS : St w0 w (own d e (.slice (some ⟨b, 0, none⟩) xs.length c) xs F :: L)) (hi : i ≤ xs.length) (hroom : i + ys.length ≤ c)
    (t : TypeId) (z : Value) (bytes : Nat) (hn : 0 < n) (ht : P.underlying t = some (.slice e)) (hinfo : (P.info? e).map (fun i => (i.zero, i.size, i.bytes)) = some (some z, n, bytes))
    (A : Option Addr) (m cx : Nat) (hm : m = ys.length) (hK : SliceK d w (.slice A m cx) ys) :
    ∃ w', (∀ ty, (Builtin.append_ #[t, t] ty #[.slice (some ⟨b, 0, none⟩) i c, .slice A m cx]).run P w = .ok (.slice (some ⟨b, 0, none⟩) (i + ys.length) c) w') ∧
      St w0 w' (own d e (.slice (some ⟨b, 0, none⟩) (i + ys.length) c) (xs.take i ++ ys) F :: L) ∧ (∀ q, q < c * n → (w'.cell? ⟨b, q, none⟩).isSome = true) ∧ (∀ q, w'.frozen? ⟨b, q, none⟩ = false) := by
  obtain ⟨ti, hti, hz0, hz1, hz2⟩ := info_parts hinfo
  have hlen : (xs.take i ++ ys).length = i + ys.length := by simp; omega
  subst hd
  subst hm
  obtain ⟨cur, hh, hsz, hS2, hc2, hf2⟩ := St.fit (ys := ys) rfl hS hi hroom
  rw [hlen] at hS2
  by_cases h0 : ys = []
  · subst h0
    have hself : w.setRow b (cur.toList.take (i * n) ++ (([] : List α).map enc).flatten ++ cur.toList.drop (i * n + (([] : List α).map enc).flatten.length)).toArray = w := by
      simp only [List.map_nil, List.flatten_nil, List.append_nil, List.length_nil, Nat.add_zero, List.take_append_drop]
      exact setRow_self w b cur e (0, 0) hh
    rw [hself] at hS2 hc2 hf2
    exact ⟨w, fun ty => run_app0 (P := P) w t ty e ti ht hti _ i c (by simpa using hroom) A cx, hS2, hc2, hf2⟩
  · obtain ⟨A2, c3, heq, _, _, hor⟩ := hK
    simp only [Value.slice.injEq] at heq
    obtain ⟨rfl, _, rfl⟩ := heq
    rcases hor with hnil | ⟨b2, o2, rfl, hr⟩
    · exact absurd hnil h0
    refine ⟨_, fun ty => run_append_room (P := P) w t ty e ti ht hti b i c cur hh ⟨b2, o2, none⟩ ys.length cx (ys.map enc).flatten (by rw [hz1]; exact encs_len ys hl) (fun j u hu => ?_) (fun u hu => ?_) hroom ?_, ?_, ?_, ?_⟩
    · obtain ⟨cs, h2, h3⟩ := flatten_at hn (ys.map enc) (fun c hc => by obtain ⟨y, _, rfl⟩ := List.mem_map.1 hc; exact hl y) j u hu
      rw [List.getElem?_map] at h2
      rcases hj : ys[j / n]? with _ | y
      · rw [hj] at h2; cases h2
      · rw [hj] at h2
        simp only [Option.map_some, Option.some.injEq] at h2
        subst h2
        obtain ⟨cs', hk, hc⟩ := hr (j / n) y hj
        obtain rfl : cs' = enc y := hk
        have h4 := hc (j % n) u h3
        have h5 : o2 + j / n * n + j % n = o2 + j := by have := Nat.div_add_mod' j n; omega
        rw [show (⟨b2, o2, none⟩ : Addr).add j = ⟨b2, o2 + j, none⟩ by unfold Addr.add; split <;> simp_all]
        rw [← h5]; exact h4
    · obtain ⟨c, hc, hu⟩ := List.mem_flatten.1 hu
      obtain ⟨y, _, rfl⟩ := List.mem_map.1 hc
      exact h1 y u hu
    · rw [hz1, encs_len ys hl, hsz, ← Nat.add_mul]; exact Nat.mul_le_mul_right n hroom
    · rw [hz1]; exact hS2
    · rw [hz1]; exact hc2
    · rw [hz1]; exact hf2
/-- append in place, as a step of a region that draws its order. -/
theorem step_fit_st {d : Dt α} (hd : d = Dt.flat n enc hl h1) {e : TypeId} {ops : Array Oper} {o : Oper} {a : Act} {w : World} {K : Act → World → Prop} {Q : Exit → Act → World → Prop} {E : Prop} (hg : o.guard = none) (s x : Operand) (t : TypeId)
    (ho : o.op = .call { callee := .builtin .append, args := #[s, x], argTypes := #[t, t] }) (z : Value) (bytes : Nat) (hn : 0 < n)
    (ht : P.underlying t = some (.slice e)) (hinfo : (P.info? e).map (fun i => (i.zero, i.size, i.bytes)) = some (some z, n, bytes))
    (b c i : Nat) (xs ys : List α) (F : List Nat) (hS : St w0 w (own d e (.slice (some ⟨b, 0, none⟩) xs.length c) xs F :: L)) (hi : i ≤ xs.length) (hroom : i + ys.length ≤ c) (hs : a.eval s = .slice (some ⟨b, 0, none⟩) i c)
    (A : Option Addr) (m cx : Nat) (hx : a.eval x = .slice A m cx) (hm : m = ys.length) (hK : SliceK d w (.slice A m cx) ys)
    (h : ∀ w', St w0 w' (own d e (.slice (some ⟨b, 0, none⟩) (i + ys.length) c) (xs.take i ++ ys) F :: L) → (∀ q, q < c * n → (w'.cell? ⟨b, q, none⟩).isSome = true) → (∀ q, w'.frozen? ⟨b, q, none⟩ = false) → K (a.put o.dst (.slice (some ⟨b, 0, none⟩) (i + ys.length) c)) w') :
    if Region.wanted o (yielded ops a.tmps) = true then Oper.wp P o a w K Q else E := by
  have hw : Region.wanted o (yielded ops a.tmps) = true := by simp [Region.wanted, hg]
  rw [if_pos hw]
  obtain ⟨w', hrun, h2, h3, h4⟩ := run_fit (P := P) hd hS hi hroom t z bytes hn ht hinfo A m cx hm hK
  unfold Oper.wp
  simp [execOp, ho, resolve, invoke, builtin, hs, hx, hrun, Result.andThen, Oper.upon]
  exact h w' h2 h3 h4
end
end Go.Proofs.Yticjphaagmnahaa
