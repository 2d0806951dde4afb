/- What is too much in a box is taken out from the front: the program and the reference. -/
import Derived.Test.YtdmhjfajicclaaaDropSpec
namespace Go.Proofs.Ytdmhjfajicclaaa
open Go Go.RowKit Go.BigFrame
set_option linter.unusedVariables false
set_option linter.unusedSimpArgs false

def fitB (lim : Int) (b : Box) : Box := if lim < (b.held.length : Int) then { b with held := b.held.drop ((b.held.length : Int) - lim).toNat, missed := b.missed + ((b.held.length : Int) - lim) } else b
theorem fitB_no {lim : Int} {b : Box} (h : ¬ lim < (b.held.length : Int)) : fitB lim b = b := by unfold fitB; rw [if_neg h]
theorem fitB_yes {lim : Int} {b : Box} {k : Nat} (h : lim < (b.held.length : Int)) (hk : (b.held.length : Int) - lim = k) : fitB lim b = { b with held := b.held.drop k, missed := b.missed + k } := by
  unfold fitB; rw [if_pos h, hk, Int.toNat_natCast]
/-- The cells of box k of a row of one's own. -/
theorem St.rawBox {w0 w : World} {L : List Piece} {q c k : Nat} {rs : List (Raw 4)} {F : List Nat} {m : Box} {A : Option Addr} {n c3 : Nat} (h : St w0 w (own (rawD 4) 53 (.slice (some ⟨q, 0, none⟩) rs.length c) rs F :: L)) (hr : rs[k]? = some (boxRaw m A n c3)) :
    w.cell? ⟨q, k * 4, none⟩ = some (.string m.token) ∧ w.cell? ⟨q, k * 4 + 1, none⟩ = some (.int .i64 m.member) ∧ w.cell? ⟨q, k * 4 + 2, none⟩ = some (.int .i64 m.missed) ∧ w.cell? ⟨q, k * 4 + 3, none⟩ = some (.slice A n c3) ∧ (∀ o, w.frozen? ⟨q, o, none⟩ = false) ∧ q < w.heap.size := by
  obtain ⟨hcw, hfw, hzw⟩ := St.flatCell (d := rawD 4) (k := k) rfl h hr
  exact ⟨hcw 0 _ rfl, hcw 1 _ rfl, hcw 2 _ rfl, hcw 3 _ rfl, hfw, hzw⟩
theorem set_id {α : Type} {l : List α} {k : Nat} {x : α} (h : l[k]? = some x) : l.set k x = l := by
  apply List.ext_getElem?
  intro i
  rw [List.getElem?_set]
  split
  · rename_i e; subst e
    rw [if_pos (List.getElem?_eq_some_iff.1 h).1, h]
  · rfl
theorem set_at {α : Type} {l : List α} {k : Nat} {x y : α} (h : l[k]? = some x) : (l.set k y)[k]? = some y := by
  rw [List.getElem?_set, if_pos rfl, if_pos (List.getElem?_eq_some_iff.1 h).1]
theorem St.setHeld {w0 w : World} {L : List Piece} {q c k o : Nat} {rs : List (Raw 4)} {F : List Nat} {m m' : Box} {A A2 : Option Addr} {n c3 n2 c2 : Nat} (h : St w0 w (own (rawD 4) 53 (.slice (some ⟨q, 0, none⟩) rs.length c) rs F :: L)) (hr : rs[k]? = some (boxRaw m A n c3)) (ho : o = k * 4 + 3)
    (hm : m'.token = m.token ∧ m'.member = m.member ∧ m'.missed = m.missed) : St w0 (w.setCell ⟨q, o, none⟩ (.slice A2 n2 c2)) (own (rawD 4) 53 (.slice (some ⟨q, 0, none⟩) rs.length c) (rs.set k (boxRaw m' A2 n2 c2)) F :: L) := by
  obtain ⟨h1, h2, h3⟩ := hm
  exact St.setFlat (d := rawD 4) rfl h hr (j := 3) (by omega) (show ([.string m'.token, .int .i64 m'.member, .int .i64 m'.missed, .slice A2 n2 c2] : List Value) = _ by rw [h1, h2, h3]; rfl) ho
theorem St.setMissed {w0 w : World} {L : List Piece} {q c k o : Nat} {rs : List (Raw 4)} {F : List Nat} {m m' : Box} {A : Option Addr} {n c3 : Nat} (h : St w0 w (own (rawD 4) 53 (.slice (some ⟨q, 0, none⟩) rs.length c) (rs.set k (boxRaw m A n c3)) F :: L)) (hk : k < rs.length) (ho : o = k * 4 + 2)
    (hm : m'.token = m.token ∧ m'.member = m.member) : St w0 (w.setCell ⟨q, o, none⟩ (.int .i64 m'.missed)) (own (rawD 4) 53 (.slice (some ⟨q, 0, none⟩) rs.length c) (rs.set k (boxRaw m' A n c3)) F :: L) := by
  obtain ⟨h1, h2⟩ := hm
  have hl : (rs.set k (boxRaw m A n c3)).length = rs.length := List.length_set ..
  have h5 := St.setFlat (d := rawD 4) (x := boxRaw m A n c3) (x' := boxRaw m' A n c3) rfl (by rw [hl]; exact h) (by rw [List.getElem?_set, if_pos rfl, if_pos hk]) (j := 2) (by omega) (show ([.string m'.token, .int .i64 m'.member, .int .i64 m'.missed, .slice A n c3] : List Value) = _ by rw [h1, h2]; rfl) ho
  rw [hl, List.set_set] at h5
  exact h5
/-- What a box lies on: its row of cells, its parcels. -/
def FitPost (w0 : World) (L : List Piece) (q c k : Nat) (rs : List (Raw 4)) (F : List Nat) (m : Box) (W : World) : Prop :=
  ∃ A2 c2 G2, St w0 W (own (rawD 4) 53 (.slice (some ⟨q, 0, none⟩) rs.length c) (rs.set k (boxRaw m A2 m.held.length c2)) F :: own parcelD 68 (.slice A2 m.held.length c2) m.held G2 :: L)
set_option maxHeartbeats 4000000 in
set_option maxRecDepth 100000 in
theorem trim_c (lim : Int) (q c k : Nat) (rs : List (Raw 4)) (F : List Nat) (m : Box) (A : Option Addr) (c3 : Nat) (G : List Nat) (w0 W : World) (L : List Piece)
    (hS : St w0 W (own (rawD 4) 53 (.slice (some ⟨q, 0, none⟩) rs.length c) rs F :: own parcelD 68 (.slice A m.held.length c3) m.held G :: L)) (hr : rs[k]? = some (boxRaw m A m.held.length c3))
    (hl : inB lim 1 64 = true) (hm : inB m.missed 0 1000000000 = true) (hh : m.held.length ≤ 1000) :
    Calls Try.prog 50 #[.pointer (some ⟨q, k * 4, none⟩), .int .i64 lim] W fun e W' => e = .returned (.tuple #[]) ∧ FitPost w0 L q c k rs F (fitB lim m) W' := by
  have HS := hide hS
  have HR := hide hr
  have hrk := hr
  obtain ⟨hl0, hl1⟩ := inB_iff.1 hl
  obtain ⟨hm0, hm1⟩ := inB_iff.1 hm
  obtain ⟨c0, c1, c2, c3', cf, cz⟩ := hS.rawBox hr
  have hw1 : IntKind.i64.wrap ((m.held.length : Int) - lim) = (m.held.length : Int) - lim := IntWalk.i64_in _ (by omega)
  clear hS hr hl hm
  by_cases hgt : lim < (m.held.length : Int)
  · obtain ⟨j, hj⟩ : ∃ j : Nat, (m.held.length : Int) - lim = j := ⟨((m.held.length : Int) - lim).toNat, by omega⟩
    have HF := hide (fitB_yes hgt hj)
    have hp : (0 : Int) < (j : Int) := by omega
    have hjl : j ≤ m.held.length := by omega
    have hkl := (List.getElem?_eq_some_iff.1 hrk).1
    have hw2 : IntKind.i64.wrap (m.missed + (j : Int)) = m.missed + (j : Int) := IntWalk.i64_in _ (by omega)
    have hlim : IntKind.i64.wrap (j : Int) = (j : Int) := IntWalk.i64_in _ (by omega)
    clear hgt hrk
    go_enter Try.func50, Try.ntmps50
    go_wp2_with (
      go_at_call 64
      have hD := delParcel_c 0 j m.held A c3 G w0 W (own (rawD 4) 53 (.slice (some ⟨q, 0, none⟩) rs.length c) rs F :: L) HS.out.pull1 (by omega) hjl (by omega)
      rw [List.take_zero, List.nil_append] at hD
      refine Calls.mono (show Calls Try.prog _ #[.slice A m.held.length c3, .int .i64 0, .int .i64 j] _ _ from hD) ?_
      rintro e w1 ⟨A2, c2, G2, rfl, hS1⟩
      have HS1 := hide hS1.pull1
      obtain ⟨d0, d1, d2, d3, df, dz⟩ := (St.pull1 hS1).rawBox HR.out
      clear hD hS1)
    refine bodyPost_end (v := .tuple #[]) (by simp [results, Try.results50, go_sem]) rfl ⟨rfl, ?_⟩
    rw [HF.out, ← (List.length_drop : (m.held.drop j).length = _)]
    exact ⟨A2, c2, G2, St.setMissed (m := { m with held := m.held.drop j }) (m' := { m with held := m.held.drop j, missed := m.missed + (j : Int) }) (St.setHeld (m' := { m with held := m.held.drop j }) HS1.out HR.out rfl ⟨rfl, rfl, rfl⟩) hkl rfl ⟨rfl, rfl⟩⟩
  · have HF := hide (fitB_no (b := m) hgt)
    have hp : ¬ (0 : Int) < (m.held.length : Int) - lim := by omega
    have hd : decide ((0 : Int) < (m.held.length : Int) - lim) = false := decide_eq_false hp
    clear hgt
    go_enter Try.func50, Try.ntmps50
    go_wp2_with fail
    refine bodyPost_end (v := .tuple #[]) (by simp [results, Try.results50, go_sem]) rfl ⟨rfl, ?_⟩
    rw [HF.out]
    exact ⟨A, c3, G, by rw [set_id HR.out]; exact HS.out⟩
set_option maxHeartbeats 4000000 in
set_option maxRecDepth 100000 in
theorem l04Fit_c (lim : Int) (q c k : Nat) (rs : List (Raw 4)) (F : List Nat) (m : Box) (A : Option Addr) (c3 : Nat) (G : List Nat) (w0 W : World) (L : List Piece)
    (hS : St w0 W (own (rawD 4) 53 (.slice (some ⟨q, 0, none⟩) rs.length c) rs F :: own parcelD 68 (.slice A m.held.length c3) m.held G :: L)) (hr : rs[k]? = some (boxRaw m A m.held.length c3))
    (hl : inB lim 1 64 = true) (hm : inB m.missed 0 1000000000 = true) (hh : m.held.length ≤ 1000) :
    Calls Try.prog 44 #[.pointer (some ⟨q, k * 4, none⟩), .int .i64 lim] W fun e W' => e = .returned (.tuple #[]) ∧ FitPost w0 L q c k rs F (fitB lim m) W' := by
  have HS := hide hS
  have HR := hide hr
  have hrk := hr
  obtain ⟨hl0, hl1⟩ := inB_iff.1 hl
  obtain ⟨hm0, hm1⟩ := inB_iff.1 hm
  obtain ⟨c0, c1, c2, c3', cf, cz⟩ := hS.rawBox hr
  have hw1 : IntKind.i64.wrap ((m.held.length : Int) - lim) = (m.held.length : Int) - lim := IntWalk.i64_in _ (by omega)
  clear hS hr hl hm
  by_cases hgt : lim < (m.held.length : Int)
  · obtain ⟨j, hj⟩ : ∃ j : Nat, (m.held.length : Int) - lim = j := ⟨((m.held.length : Int) - lim).toNat, by omega⟩
    have HF := hide (fitB_yes hgt hj)
    have hp : (0 : Int) < (j : Int) := by omega
    have hjl : j ≤ m.held.length := by omega
    have hkl := (List.getElem?_eq_some_iff.1 hrk).1
    have hw2 : IntKind.i64.wrap (m.missed + (j : Int)) = m.missed + (j : Int) := IntWalk.i64_in _ (by omega)
    have hlim : IntKind.i64.wrap (j : Int) = (j : Int) := IntWalk.i64_in _ (by omega)
    clear hgt hrk
    have HK := hide (St.pull1 HS.out).toK
    by_cases hck : c3 = j
    · replace hck := hck.symm
      subst hck
      have HBK := hide (show SliceK parcelD W (.slice A (m.held.length - j) 0) (m.held.drop j) by
        have h2 := SliceK.back HK.out hjl
        rw [if_pos rfl, Nat.sub_self] at h2
        exact h2)
      clear HK
      go_enter Try.func44, Try.ntmps44
      go_wp2_with (at_builtin
                   refine wpList_copy_st (d := parcelD) rfl (w0 := w0) (L := own (rawD 4) 53 (.slice (some ⟨q, 0, none⟩) rs.length c) rs F :: own parcelD 68 (.slice A m.held.length j) m.held G :: L) _ rfl _ _ _ rfl (.agg #[.int .i64 0, .int .i64 0]) 16 Try.underlying35 infoParcel rfl (by omega) (by omega) _ rfl (by (repeat (first | (with_reducible exact HS.out) | (with_reducible apply St.alloc) | (with_reducible apply St.set0) | (with_reducible apply St.set1) | (with_reducible apply St.set2) | (with_reducible apply St.set3) | (with_reducible apply St.drew) | (with_reducible apply St.drewN))); all_goals (try (first | rfl | (simp; done)))) _ _ _ (m.held.drop j) rfl (by rw [List.length_drop]; try omega) (HBK.out.below ((Below.refl _ _).alloc (Nat.le_refl _) _)) (by rw [List.length_drop]; omega) ?_
                   intro A2 c2 w2 G2 hch hS
                   have HS1 := hide (St.drop (St.pull2 hS)).pull1
                   obtain ⟨d0, d1, d2, d3, df, dz⟩ := HS1.out.rawBox HR.out
                   clear hch hS)
      refine bodyPost_end (v := .tuple #[]) (by simp [results, Try.results44, go_sem]) rfl ⟨rfl, ?_⟩
      rw [HF.out]
      try rw [← (List.length_drop : (m.held.drop j).length = _)]
      exact ⟨A2, c2, G2, St.setMissed (m := { m with held := m.held.drop j }) (m' := { m with held := m.held.drop j, missed := m.missed + (j : Int) }) (St.setHeld (m' := { m with held := m.held.drop j }) HS1.out HR.out rfl ⟨rfl, rfl, rfl⟩) hkl rfl ⟨rfl, rfl⟩⟩
    · have hb2 := SliceK.back HK.out hjl
      rw [if_neg hck] at hb2
      have HBK := hide hb2
      clear hb2 HK
      go_enter Try.func44, Try.ntmps44
      go_wp2_with (at_builtin
                   refine wpList_copy_st (d := parcelD) rfl (w0 := w0) (L := own (rawD 4) 53 (.slice (some ⟨q, 0, none⟩) rs.length c) rs F :: own parcelD 68 (.slice A m.held.length c3) m.held G :: L) _ rfl _ _ _ rfl (.agg #[.int .i64 0, .int .i64 0]) 16 Try.underlying35 infoParcel rfl (by omega) (by omega) _ rfl (by (repeat (first | (with_reducible exact HS.out) | (with_reducible apply St.alloc) | (with_reducible apply St.set0) | (with_reducible apply St.set1) | (with_reducible apply St.set2) | (with_reducible apply St.set3) | (with_reducible apply St.drew) | (with_reducible apply St.drewN))); all_goals (try (first | rfl | (simp; done)))) _ _ _ (m.held.drop j) rfl (by rw [List.length_drop]; try omega) (HBK.out.below ((Below.refl _ _).alloc (Nat.le_refl _) _)) (by rw [List.length_drop]; omega) ?_
                   intro A2 c2 w2 G2 hch hS
                   have HS1 := hide (St.drop (St.pull2 hS)).pull1
                   obtain ⟨d0, d1, d2, d3, df, dz⟩ := HS1.out.rawBox HR.out
                   clear hch hS)
      refine bodyPost_end (v := .tuple #[]) (by simp [results, Try.results44, go_sem]) rfl ⟨rfl, ?_⟩
      rw [HF.out]
      try rw [← (List.length_drop : (m.held.drop j).length = _)]
      exact ⟨A2, c2, G2, St.setMissed (m := { m with held := m.held.drop j }) (m' := { m with held := m.held.drop j, missed := m.missed + (j : Int) }) (St.setHeld (m' := { m with held := m.held.drop j }) HS1.out HR.out rfl ⟨rfl, rfl, rfl⟩) hkl rfl ⟨rfl, rfl⟩⟩
  · have HF := hide (fitB_no (b := m) hgt)
    have hp : ¬ (0 : Int) < (m.held.length : Int) - lim := by omega
    have hd : decide ((0 : Int) < (m.held.length : Int) - lim) = false := decide_eq_false hp
    clear hgt
    go_enter Try.func44, Try.ntmps44
    go_wp2_with fail
    refine bodyPost_end (v := .tuple #[]) (by simp [results, Try.results44, go_sem]) rfl ⟨rfl, ?_⟩
    rw [HF.out]
    exact ⟨A, c3, G, by rw [set_id HR.out]; exact HS.out⟩
end Go.Proofs.Ytdmhjfajicclaaa
