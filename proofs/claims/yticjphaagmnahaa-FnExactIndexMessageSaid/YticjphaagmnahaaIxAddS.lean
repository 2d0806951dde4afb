/- A message is added to an index: the reference. -/
import Derived.Test.YticjphaagmnahaaIxPut
import Derived.Test.YticjphaagmnahaaIxCopy
import Derived.Test.YticjphaagmnahaaWordsSpec
namespace Go.Proofs.Yticjphaagmnahaa
open Go Go.RowKit Go.BigFrame
set_option linter.unusedVariables false
set_option linter.unusedSimpArgs false
set_option maxRecDepth 100000

/-- A struct of its own and the block of its cells: a box. -/
theorem St.boxUp {α : Type} {d : Dt α} {e : TypeId} {w0 w : World} {L : List Piece} {x : α} {b : Nat} {cs : List Value} {F : List Nat} {arr : Array Value} (h : St w0 w (ownD d x cs F :: blk b arr e :: L)) (ha : arr = cs.toArray) : St w0 w (boxP d e b x (b :: F) :: L) := by
  subst ha
  have hb : w.heap[b]? = some (.cells cs.toArray e (0, 0)) := h.drop.head
  have hf : (feet (boxP d e b x (b :: F) :: L)).Perm (feet (ownD d x cs F :: blk b cs.toArray e :: L)) := by
    simp only [feet_cons, ownD, boxP, blk]
    rw [← List.append_assoc]
    refine List.Perm.append_right _ ?_
    exact List.perm_append_comm (l₁ := [b])
  refine ⟨h.below, fun q hq => ?_, hf.nodup_iff.2 h.nodup, fun c hc => h.ge c (hf.mem_iff.1 hc)⟩
  rcases List.mem_cons.1 hq with rfl | hq
  · refine ⟨_, F, rfl, hb, h.head, ?_⟩
    have h5 := hf.nodup_iff.2 h.nodup
    rw [feet_cons] at h5
    exact (List.nodup_append.1 h5).1
  · exact h.drop.drop.all q hq
set_option maxHeartbeats 16000000 in
set_option maxRecDepth 100000 in
theorem l08Add_c (x : Index) (m : Message) (b bm om a bn : Nat) (w : World) (hp : RowAt indexD w b 0 [x]) (hm : RowAt messageD w bm om [m]) (hf : ixFit a bn x.entries) (ht : m.text.size ≤ 80) (ha : a + m.text.size ≤ 1048574) (hbn : bn + m.text.size ≤ 400000) :
    Calls Try.prog 91 #[.pointer (some ⟨b, 0, none⟩), .pointer (some ⟨bm, om, none⟩)] w (RetElem indexD w ⟨addM x.entries m⟩) := by
  obtain ⟨v7, h7, hbz, hc0, hc1, hc2, hc3, hc4, hc5, hc6, hc7⟩ := message_at hm (Below.refl _ _) (j := 0) rfl
  simp only [Nat.zero_mul, Nat.add_zero] at hc0 hc1 hc2 hc3 hc4 hc5 hc6 hc7
  have HP := hide hp
  have HF := hide hf
  have HFW := hide (show fewIx x from ⟨by have := hf.1; omega, fun e he => by have := (hf.2.2 e he).2; omega⟩)
  clear h7 hp hm hf hc1 hc2 hc4 hc5 hc6 hc7
  have HS0 := hide (show St w (w.alloc (.cells #[.slice none 0 0] 33)) [blk w.heap.size #[.slice none 0 0] 33] by (repeat (first | (with_reducible exact St.start w) | (with_reducible apply St.alloc) | (with_reducible apply St.set0) | (with_reducible apply St.set1) | (with_reducible apply St.set2) | (with_reducible apply St.set3) | (with_reducible apply St.drew) | (with_reducible apply St.drewN))); all_goals (try (first | rfl | (simp; done))))
  have hwl := wordsOf_len m.text
  have HAM := hide (show addM x.entries m = putWs m.number (wordsOf m.text) x.entries from rfl)
  obtain ⟨ws, hws⟩ : ∃ ws, ws = wordsOf m.text := ⟨_, rfl⟩
  go_enter Try.func91, Try.ntmps91
  go_wp2_with (first
    | (go_at_call 75
       refine (l08Words_c m.text _ (by omega)).mono ?_
       rintro e w2 ⟨v2, rfl, hm2, hb⟩
       obtain ⟨F2, hS⟩ := (show St w _ (blk w1.heap.size #[.slice A1 x.entries.length c1] 33 :: ownD indexD x [.slice A1 x.entries.length c1] F1 :: [blk w.heap.size #[.slice none 0 0] 33]) from by (repeat (first | (with_reducible exact HS1.out) | (with_reducible apply St.alloc) | (with_reducible apply St.set0) | (with_reducible apply St.set1) | (with_reducible apply St.set2) | (with_reducible apply St.set3) | (with_reducible apply St.drew) | (with_reducible apply St.drewN))); all_goals (try (first | rfl | (simp; done)))).made hm2 hb
       obtain ⟨A2, c2, rfl⟩ := hm2.shape
       have HS2 := hide hS
       clear hm2 hb hS)
    | (go_at_call 136
       refine (l08Copy_c x b 0 _ (HP.out.below HS0.out.below) HFW.out).mono ?_
       rintro e w1 hr
       obtain ⟨cs, F1, rfl, hK, hb, hS⟩ := HS0.out.elem hr
       obtain ⟨v1, rfl, hs⟩ := index_K hK
       obtain ⟨A1, c1, rfl⟩ := hs.shape
       have HS1 := hide hS
       have m3 := cell_below HS1.out.below hc3
       have mz : bm < w1.heap.size := Nat.lt_of_lt_of_le hbz HS1.out.size
       have hne : ¬ bm = w1.heap.size := by omega
       have hne2 : ¬ w1.heap.size = bm := by omega
       clear hr hK hs hb hS))
  rw [← hws] at HS2 HAM hwl ⊢
  clear hws
  go_loopg [7] ws.length (fun gg s7 wr => ∃ (k : Nat) (Fb : List Nat), k ≤ ws.length ∧ ws.length - k ≤ gg ∧ s7 = .int .i64 k ∧ Hid (St w wr (boxP indexD 33 w1.heap.size ⟨putWs m.number (ws.take k) x.entries⟩ Fb :: own strD 9 (.slice A2 ws.length c2) ws F2 :: [blk w.heap.size #[.slice none 0 0] 33])))
  case atStart =>
    refine ⟨0, w1.heap.size :: F1, Nat.zero_le _, by omega, rfl, hide ?_⟩
    rw [List.take_zero]
    have h : St w w2 (ownD indexD x [.slice A1 x.entries.length c1] F1 :: blk w1.heap.size #[.slice A1 x.entries.length c1] 33 :: own strD 9 (.slice A2 ws.length c2) ws F2 :: [blk w.heap.size #[.slice none 0 0] 33]) := HS2.out.pull2.pull2.pull1
    exact St.boxUp h rfl
  case round =>
    obtain ⟨k, Fb, hk, hg, rfl, HS⟩ := hrel
    by_cases hlt : k < ws.length
    · obtain ⟨t, hx⟩ : ∃ t, ws[k]? = some t := ⟨_, List.getElem?_eq_getElem hlt⟩
      have hfit := putWs_fit (n := m.number) (ws := ws.take k) HF.out
      rw [List.length_take, Nat.min_eq_left hk] at hfit
      have HPN := hide (putWs_step (n := m.number) (es := x.entries) hx)
      obtain ⟨es, hes⟩ : ∃ es, es = putWs m.number (ws.take k) x.entries := ⟨_, rfl⟩
      rw [← hes] at HS hfit HPN
      clear hes
      have HFT := hide hfit
      have hel := hfit.1
      clear hfit
      obtain ⟨⟨qs, rfl⟩, -, hcs⟩ := St.hasBlk (d := strD) rfl HS.out.pull1 hx
      obtain ⟨hcell, hqf, hqz⟩ := St.flatCell (d := strD) rfl HS.out.pull1 hx
      have hc : wr.cell? ⟨qs, k, none⟩ = some (.string t) := by simpa using hcell 0 _ rfl
      have m0 := cell_below HS.out.below hc0
      have mz0 : bm < wr.heap.size := Nat.lt_of_lt_of_le hbz HS.out.size
      have hlt2 : (k : Int) < (ws.length : Int) := by omega
      clear hcell hx
      go_wp2_with fail
      go_region_with (
        go_at_call 137
        refine (l08Put_c es t m.number w1.heap.size Fb w _ (own strD 9 (.slice (some ⟨qs, 0, none⟩) ws.length c2) ws F2 :: [blk w.heap.size #[.slice none 0 0] 33]) (by first | exact HS.out | exact HS.out.drew) (by omega) (fun e he => by have := (HFT.out.2.2 e he).2; omega)).mono ?_
        rintro e w5 ⟨v5, F5, u5, rfl, hS5⟩
        obtain ⟨v6, hv6, hs6⟩ := index_K (indexD.M_K hS5.head)
        simp only [List.cons.injEq, and_true] at hv6
        subst hv6
        obtain ⟨A5, c5, rfl⟩ := hs6.shape
        have HS5 := hide hS5
        have x0 := hS5.at1.c1
        have xf := hS5.at1.frozen
        have xz := hS5.at1.lt
        clear hS5 hs6)
      all_goals
        go_wp2_with fail
        go_roundg (ws.length - (k + 1))
        case measure => omega
        case rel =>
          have key : ∀ W', St w W' (ownD indexD ⟨putW t m.number es⟩ [.slice A5 (putW t m.number es).length c5] F5 :: blk w1.heap.size #[.slice A5 (putW t m.number es).length c5] 33 :: own strD 9 (.slice (some ⟨qs, 0, none⟩) ws.length c2) ws F2 :: [blk w.heap.size #[.slice none 0 0] 33]) → St w W' (boxP indexD 33 w1.heap.size ⟨putWs m.number (ws.take (k + 1)) x.entries⟩ (w1.heap.size :: F5) :: own strD 9 (.slice (some ⟨qs, 0, none⟩) ws.length c2) ws F2 :: [blk w.heap.size #[.slice none 0 0] 33]) := by
            intro W' h
            rw [HPN.out]
            exact St.boxUp h rfl
          exact ⟨k + 1, w1.heap.size :: F5, by omega, by omega, by go_num, hide (key _ (by (repeat (first | (with_reducible exact HS5.out) | (with_reducible apply St.alloc) | (with_reducible apply St.set0) | (with_reducible apply St.set1) | (with_reducible apply St.set2) | (with_reducible apply St.set3) | (with_reducible apply St.drew) | (with_reducible apply St.drewN))); all_goals (try (first | rfl | (simp; done)))))⟩
    · obtain rfl : k = ws.length := by omega
      rw [List.take_length, ← HAM.out] at HS
      obtain ⟨cs, G, hK, hS⟩ := St.unbox HS.out
      obtain ⟨v5, rfl, hs⟩ := index_K hK
      obtain ⟨A5, c5, rfl⟩ := hs.shape
      have HU := hide hS
      have x0 := hS.at1.c1
      have xf := hS.at1.frozen
      have xz := hS.at1.lt
      have y0 := hS.at3.c1
      have yf := hS.at3.frozen
      have yz := hS.at3.lt
      clear hK hs hS
      go_wp2_with fail
      refine bodyPost_ret (v := .agg #[.slice A5 (addM x.entries m).length c5]) (by simp [results, Try.results91, go_sem, x0, xf, xz, y0, yf, yz]) rfl ?_
      exact St.ret1 (cs := [.slice A5 (addM x.entries m).length c5]) (F := G) (show St w _ (ownD indexD ⟨addM x.entries m⟩ [.slice A5 (addM x.entries m).length c5] G :: blk w1.heap.size #[.slice A5 (addM x.entries m).length c5] 33 :: own strD 9 (.slice A2 ws.length c2) ws F2 :: [blk w.heap.size #[.slice A5 (addM x.entries m).length c5] 33]) from by (repeat (first | (with_reducible exact HU.out) | (with_reducible apply St.alloc) | (with_reducible apply St.set0) | (with_reducible apply St.set1) | (with_reducible apply St.set2) | (with_reducible apply St.set3) | (with_reducible apply St.drew) | (with_reducible apply St.drewN))); all_goals (try (first | rfl | (simp; done)))) rfl
end Go.Proofs.Yticjphaagmnahaa
