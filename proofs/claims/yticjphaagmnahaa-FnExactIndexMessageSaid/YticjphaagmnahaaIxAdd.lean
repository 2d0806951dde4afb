/- A message is added to an index: the program. -/
import Derived.Test.YticjphaagmnahaaIxHeld
import Derived.Test.YticjphaagmnahaaIxPlain
import Derived.Test.YticjphaagmnahaaRGround
import Derived.Deep.RegionLaw
import Derived.Deep.DrawnRows
import Derived.Test.YticjphaagmnahaaInsIx
import Derived.Deep.RegionWith
namespace Go.Proofs.Yticjphaagmnahaa
open Go Go.RowKit Go.BigFrame
set_option linter.unusedVariables false
set_option linter.unusedSimpArgs false
set_option maxRecDepth 100000

theorem ins_get {α : Type} {l : List α} {i : Nat} {y : α} (h : i ≤ l.length) : (l.take i ++ y :: l.drop i)[i]? = some y := by
  have h1 : (l.take i).length = i := by rw [List.length_take]; omega
  rw [List.getElem?_append_right (by omega), h1, Nat.sub_self, List.getElem?_cons_zero]
theorem ins_set {α : Type} {l : List α} {i : Nat} {y z : α} (h : i ≤ l.length) : (l.take i ++ y :: l.drop i).set i z = l.take i ++ z :: l.drop i := by
  have h1 : (l.take i).length = i := by rw [List.length_take]; omega
  rw [List.set_append_right _ _ (by omega), h1, Nat.sub_self, List.set_cons_zero]
theorem insNum_c (k : Nat) (l : List Int) (A : Option Addr) (c : Nat) (F : List Nat) (w0 W : World) (L : List Piece) (q : Nat) (x : Int) (hS : St w0 W (blk q #[.int .i64 x] 2 :: own intD 2 (.slice A l.length c) l F :: L)) (hk : k ≤ l.length) (hlen : l.length < 1048576) :
    Calls Try.prog 140 #[.slice A l.length c, .int .i64 k, .slice (some ⟨q, 0, none⟩) 1 1] W (RetOwn intD 2 w0 L (insN l k x)) := by
  have hqF : q ∉ F := fun h => by
    have hd := hS.nodup
    rw [feet_cons, feet_cons] at hd
    have hd2 : (q :: (F ++ feet L)).Nodup := hd
    rw [List.nodup_cons] at hd2
    exact hd2.1 (List.mem_append.2 (.inl h))
  refine (insert_c _ l F k q x W hS.drop.head hS.drop.headN hk hlen hS.head hqF).mono ?_
  rintro e w' ⟨v', F', rfl, hM', hn', hfr, hc⟩
  obtain ⟨A2, c2, rfl⟩ := hM'.toK.shape
  exact ⟨A2, c2, F', rfl, hS.drop.turn (A' := own intD 2 (.slice A2 (insN l k x).length c2) (insN l k x) F') hc hM' hn' hfr⟩
set_option maxHeartbeats 16000000 in
set_option maxRecDepth 100000 in
theorem addIx_c (x : Index) (m : Message) (A7 : Option Addr) (n7 c7 : Nat) (a bn b : Nat) (F : List Nat) (w0 W : World) (L : List Piece) (hS : St w0 W (boxP indexD 33 b x F :: L)) (hf : ixFit a bn x.entries) (ht : m.text.size ≤ 80) (ha : a + m.text.size ≤ 1048576) (hbn : bn + m.text.size ≤ 400000) :
    Calls Try.prog 92 #[.pointer (some ⟨b, 0, none⟩), .agg #[.int .i64 m.number, .int .i64 m.sender, .int .i64 m.at_, .string m.text, .int .i64 m.edits, .bool m.gone, .int .i64 m.reply, .slice A7 n7 c7]] W fun r W' => r = .returned (.tuple #[]) ∧ ∃ F', St w0 W' (boxP indexD 33 b ⟨addM x.entries m⟩ F' :: L) := by
  have HS0 := hide hS
  have HF := hide hf
  clear hS hf
  go_enter Try.func92, Try.ntmps92
  go_wp2_with (
    go_at_call 81
    refine (words_c m.text _ (by omega)).mono ?_
    rintro e w1 ⟨v1, rfl, hm, hb⟩
    obtain ⟨F1, hS⟩ := (show St w0 _ (blk W.heap.size #[.int .i64 m.number, .int .i64 m.sender, .int .i64 m.at_, .string m.text, .int .i64 m.edits, .bool m.gone, .int .i64 m.reply, .slice A7 n7 c7] 47 :: boxP indexD 33 b x F :: L) from by (repeat (first | (with_reducible exact HS0.out) | (with_reducible apply St.alloc) | (with_reducible apply St.set0) | (with_reducible apply St.set1) | (with_reducible apply St.set2) | (with_reducible apply St.set3) | (with_reducible apply St.drew) | (with_reducible apply St.drewN))); all_goals (try (first | rfl | (simp; done)))).made hm hb
    obtain ⟨A1, c1, rfl⟩ := hm.shape
    have HS1 := hide hS.pull2
    clear hm hb hS)
  have hwl := wordsOf_len m.text
  have HAM := hide (show addM x.entries m = putWs m.number (wordsOf m.text) x.entries from rfl)
  obtain ⟨ws, hws⟩ : ∃ ws, ws = wordsOf m.text := ⟨_, rfl⟩
  rw [← hws] at HS1 hwl HAM ⊢
  clear hws
  go_loopg [5, 6, 7, 8, 9, 10, 15] ws.length (fun gg s5 s6 s7 s8 s9 s10 s15 wr => ∃ k F2, k ≤ ws.length ∧ ws.length - k ≤ gg ∧ s15 = .int .i64 k ∧ Hid (St w0 wr (boxP indexD 33 b ⟨putWs m.number (ws.take k) x.entries⟩ F2 :: own strD 9 (.slice A1 ws.length c1) ws F1 :: blk W.heap.size #[.int .i64 m.number, .int .i64 m.sender, .int .i64 m.at_, .string m.text, .int .i64 m.edits, .bool m.gone, .int .i64 m.reply, .slice A7 n7 c7] 47 :: L)))
  case atStart => exact ⟨0, F, Nat.zero_le _, by omega, rfl, HS1⟩
  case round =>
    obtain ⟨k, F2, hk, hg, rfl, HS⟩ := hrel
    by_cases hlt : k < ws.length
    · obtain ⟨t, hx⟩ : ∃ t, ws[k]? = some t := ⟨_, List.getElem?_eq_getElem hlt⟩
      have hfit := putWs_fit (n := m.number) (ws := ws.take k) HF.out
      rw [List.length_take, Nat.min_eq_left hk] at hfit
      have HPN := hide (putWs_step (n := m.number) (es := x.entries) hx)
      obtain ⟨es, hes⟩ : ∃ es, es = putWs m.number (ws.take k) x.entries := ⟨_, rfl⟩
      rw [← hes] at HS hfit HPN
      clear hes
      have HFT := hide hfit
      have hel := hfit.1
      clear hfit
      obtain ⟨⟨qs, rfl⟩, -, hcs⟩ := St.hasBlk (d := strD) rfl HS.out.pull1 hx
      obtain ⟨hcell, hqf, hqz⟩ := St.flatCell (d := strD) rfl HS.out.pull1 hx
      have hc : wr.cell? ⟨qs, k, none⟩ = some (.string t) := by simpa using hcell 0 _ rfl
      clear hcell hx
      have hlt2 : (k : Int) < (ws.length : Int) := by omega
      cases hh : hasT Entry.word es t with
      | true =>
        have HH := hide hh
        clear hh
        go_wp2_with (
          go_at_call 117
          refine (ixAt_c ⟨es⟩ b 0 t _ HS.out.boxRow HFT.out.2.1 (by show es.length ≤ 1048576; omega)).mono ?_
          rintro e w1 ⟨⟨i, hlb, rfl⟩, hbw⟩
          rw [show hasT Entry.word (Index.mk es).entries t = true from HH.out]
          replace hlb : isLbT Entry.word es t i := hlb
          obtain ⟨y, hy, hyt⟩ := hlb.foundE HFT.out.2.1 HH.out
          have HYT := hide hyt
          have HLB := hide hlb
          have HBW := hide hbw
          obtain ⟨A, c, rs, F3, Fs, hrl, hO⟩ := St.indexOpen (HS.out.by hbw)
          have hrl2 : rs.length = es.length := hrl
          replace hO : St w0 w1 (blk b #[.slice A rs.length c] 33 :: own (rawD 2) 106 (.slice A rs.length c) rs F3 :: heldsP entryD es rs Fs :: own strD 9 (.slice (some ⟨qs, 0, none⟩) ws.length c1) ws F1 :: blk W.heap.size #[.int .i64 m.number, .int .i64 m.sender, .int .i64 m.at_, .string m.text, .int .i64 m.edits, .bool m.gone, .int .i64 m.reply, .slice A7 n7 c7] 47 :: L) := by rw [hrl2]; exact hO
          have HO := hide hO
          have HRL := hide hrl2
          have hile : i ≤ rs.length := by rw [hrl2]; exact hlb.1
          have hrlb : rs.length < 1048576 := by omega
          have x0 := hO.at0.c1
          have xf := hO.at0.frozen
          have xz := hO.at0.lt
          have hil2 : (i : Int) < (rs.length : Int) := by have := (List.getElem?_eq_some_iff.1 hy).1; omega
          obtain ⟨A3, c3, G, Fs5, hr3, hC⟩ := St.entCut hO.pull2 hy
          obtain ⟨⟨q, rfl⟩, -, hcap2⟩ := St.hasBlk (d := rawD 2) rfl hO.pull1 hr3
          obtain ⟨hcell2, hqf2, hqz2⟩ := St.flatCell (d := rawD 2) rfl hO.pull1 hr3
          have d0 := hcell2 0 _ rfl
          have d1 := hcell2 1 _ rfl
          simp only [Nat.add_zero] at d0
          clear hcell2
          have HR3 := hide hr3
          have HC := hide hC
          have HY := hide hy
          have HYR := hide (HFT.out.2.2 y (List.mem_of_getElem? hy))
          have m0 := hO.pull4.at0.cell 0
          simp only [List.getElem?_toArray, List.getElem?_cons_zero] at m0
          have mz := hO.pull4.at0.lt
          clear hyt hr3 hC hy hlb hbw hO hrl hrl2)
        cases hbb : hasB y.numbers m.number with
        | true =>
          have HBB := hide hbb
          clear hbb
          go_region_with (go_at_call 139
                          refine (binSearch_c _ y.numbers m.number _ (by first | exact (St.toK HC.out) | exact (St.toK HC.out).below (Below.refl _ _).drew) HYR.out.1 (by have := HYR.out.2; omega)).mono ?_
                          rintro e w' ⟨⟨j, hj, rfl⟩, rfl⟩
                          rw [HBB.out]
                          have HJ := hide hj
                          have hjl := hj.1
                          clear hj)
          all_goals
            go_wp2_with fail
            go_roundg (ws.length - (k + 1))
            case measure => omega
            case rel =>
              have e1 : putW t m.number es = es := by
                rw [putW_old HFT.out.2.1 HLB.out HY.out HYT.out, putN_lb HYR.out.1 HJ.out, if_pos HBB.out]
                have e2 : (⟨t, y.numbers⟩ : Entry) = y := by rw [← HYT.out]
                rw [e2]
                obtain ⟨h1, rfl⟩ := List.getElem?_eq_some_iff.1 HY.out
                exact List.set_getElem_self h1
              refine ⟨k + 1, F2, by omega, by omega, by go_num, hide ?_⟩
              rw [HPN.out, e1]
              exact (HS.out.by HBW.out).by (by first | exact Below.refl _ _ | exact (Below.refl _ _).drew)
        | false =>
          have HBB := hide hbb
          clear hbb
          go_region_with (go_at_call 139
                          refine (binSearch_c _ y.numbers m.number _ (by first | exact (St.toK HC.out) | exact (St.toK HC.out).below (Below.refl _ _).drew) HYR.out.1 (by have := HYR.out.2; omega)).mono ?_
                          rintro e w' ⟨⟨j, hj, rfl⟩, rfl⟩
                          rw [HBB.out]
                          have HJ := hide hj
                          have hjl := hj.1
                          clear hj)
          all_goals
            go_wp2_with fail
            go_region_with (go_at_call 140
                            refine (insNum_c j y.numbers A3 c3 G w0 _ (heldsP entryD (es.take i ++ es.drop (i + 1)) (rs.take i ++ rs.drop (i + 1)) Fs5 :: blk b #[.slice (some ⟨q, 0, none⟩) rs.length c] 33 :: own (rawD 2) 106 (.slice (some ⟨q, 0, none⟩) rs.length c) rs F3 :: own strD 9 (.slice (some ⟨qs, 0, none⟩) ws.length c1) ws F1 :: blk W.heap.size #[.int .i64 m.number, .int .i64 m.sender, .int .i64 m.at_, .string m.text, .int .i64 m.edits, .bool m.gone, .int .i64 m.reply, .slice A7 n7 c7] 47 :: L) _ m.number (show St w0 _ (blk _ #[.int .i64 m.number] 2 :: own intD 2 (.slice A3 y.numbers.length c3) y.numbers G :: heldsP entryD (es.take i ++ es.drop (i + 1)) (rs.take i ++ rs.drop (i + 1)) Fs5 :: blk b #[.slice (some ⟨q, 0, none⟩) rs.length c] 33 :: own (rawD 2) 106 (.slice (some ⟨q, 0, none⟩) rs.length c) rs F3 :: own strD 9 (.slice (some ⟨qs, 0, none⟩) ws.length c1) ws F1 :: blk W.heap.size #[.int .i64 m.number, .int .i64 m.sender, .int .i64 m.at_, .string m.text, .int .i64 m.edits, .bool m.gone, .int .i64 m.reply, .slice A7 n7 c7] 47 :: L) from by (repeat (first | (with_reducible exact HC.out) | (with_reducible apply St.alloc) | (with_reducible apply St.set0) | (with_reducible apply St.set1) | (with_reducible apply St.set2) | (with_reducible apply St.set3) | (with_reducible apply St.drew) | (with_reducible apply St.drewN))); all_goals (try (first | rfl | (simp; done)))) hjl (by have := HYR.out.2; omega)).mono ?_
                            rintro e w3 ⟨A5, c5, F5, rfl, hS3⟩
                            have HS3 := hide hS3
                            obtain ⟨hcell3, hqf3, hqz3⟩ := St.flatCell (d := rawD 2) rfl hS3.pull3 HR3.out
                            have g0 := hcell3 0 _ rfl
                            have g1 := hcell3 1 _ rfl
                            simp only [Nat.add_zero] at g0
                            clear hcell3 hS3)
          all_goals
            have HRL2 := HRL
            have HFIN := hide (show ∀ j, isLb y.numbers m.number j → putW t m.number es = es.set i ⟨t, insN y.numbers j m.number⟩ from fun j hj => by
              rw [putW_old HFT.out.2.1 HLB.out HY.out HYT.out, putN_lb HYR.out.1 hj, if_neg (by rw [HBB.out]; simp)])
            go_wp2_with fail
            go_roundg (ws.length - (k + 1))
            case measure => omega
            case rel =>
              have key : ∀ W', St w0 W' (own (rawD 2) 106 (.slice (some ⟨q, 0, none⟩) rs.length c) (rs.set i (entRaw ⟨t, insN y.numbers j m.number⟩ A5 (insN y.numbers j m.number).length c5)) F3 :: own intD 2 (.slice A5 (insN y.numbers j m.number).length c5) (insN y.numbers j m.number) F5 :: heldsP entryD (es.take i ++ es.drop (i + 1)) (rs.take i ++ rs.drop (i + 1)) Fs5 :: blk b #[.slice (some ⟨q, 0, none⟩) rs.length c] 33 :: own strD 9 (.slice (some ⟨qs, 0, none⟩) ws.length c1) ws F1 :: blk W.heap.size #[.int .i64 m.number, .int .i64 m.sender, .int .i64 m.at_, .string m.text, .int .i64 m.edits, .bool m.gone, .int .i64 m.reply, .slice A7 n7 c7] 47 :: L) →
                  ∃ F', St w0 W' (boxP indexD 33 b ⟨putWs m.number (ws.take (k + 1)) x.entries⟩ F' :: own strD 9 (.slice (some ⟨qs, 0, none⟩) ws.length c1) ws F1 :: blk W.heap.size #[.int .i64 m.number, .int .i64 m.sender, .int .i64 m.at_, .string m.text, .int .i64 m.edits, .bool m.gone, .int .i64 m.reply, .slice A7 n7 c7] 47 :: L) := by
                intro W' h
                obtain ⟨Fs6, h6⟩ := St.entBack (xs := es) (rs := rs) (x' := ⟨t, insN y.numbers j m.number⟩) h.pull2.pull2 (List.getElem?_eq_some_iff.1 HY.out).1 HRL2.out
                obtain ⟨F6, h7⟩ := St.indexShut (p := ⟨es.set i ⟨t, insN y.numbers j m.number⟩⟩) h6.pull1.pull2
                rw [HPN.out, HFIN.out j HJ.out]
                exact ⟨F6, h7⟩
              obtain ⟨F9, h9⟩ := key _ (St.setEnt (x' := ⟨t, insN y.numbers j m.number⟩) (A2 := A5) (n2 := (insN y.numbers j m.number).length) (c2 := c5) HS3.out.pull3 HR3.out rfl HYT.out.symm)
              exact ⟨k + 1, F9, by omega, by omega, by go_num, hide h9⟩
      | false =>
        have HH := hide hh
        clear hh
        go_wp2_with (first
          | (go_at_call 138
             have hD := insEntry_c i rs A c F3 w0 _ (blk b #[.slice A rs.length c] 33 :: heldsP entryD es rs Fs :: own strD 9 (.slice (some ⟨qs, 0, none⟩) ws.length c1) ws F1 :: blk W.heap.size #[.int .i64 m.number, .int .i64 m.sender, .int .i64 m.at_, .string m.text, .int .i64 m.edits, .bool m.gone, .int .i64 m.reply, .slice A7 n7 c7] 47 :: L) w1.heap.size (entRaw ⟨t, []⟩ none 0 0) (show St w0 (w1.alloc (.cells #[.string t, .slice none 0 0] 106)) (blk w1.heap.size #[.string t, .slice none 0 0] 106 :: own (rawD 2) 106 (.slice A rs.length c) rs F3 :: blk b #[.slice A rs.length c] 33 :: heldsP entryD es rs Fs :: own strD 9 (.slice (some ⟨qs, 0, none⟩) ws.length c1) ws F1 :: blk W.heap.size #[.int .i64 m.number, .int .i64 m.sender, .int .i64 m.at_, .string m.text, .int .i64 m.edits, .bool m.gone, .int .i64 m.reply, .slice A7 n7 c7] 47 :: L) from by (repeat (first | (with_reducible exact HO.out.pull1) | (with_reducible apply St.alloc) | (with_reducible apply St.set0) | (with_reducible apply St.set1) | (with_reducible apply St.set2) | (with_reducible apply St.set3) | (with_reducible apply St.drew) | (with_reducible apply St.drewN))); all_goals (try (first | rfl | (simp; done)))) hile hrlb
             obtain ⟨ns, hns⟩ : ∃ ns, ns = rs.take i ++ entRaw ⟨t, []⟩ none 0 0 :: rs.drop i := ⟨_, rfl⟩
             rw [← hns] at hD
             have hni : ns[i]? = some (entRaw ⟨t, []⟩ none 0 0) := by rw [hns]; exact ins_get hile
             have HNS := hide hns
             refine hD.mono ?_
             rintro e w2 ⟨A2, c2, F4, rfl, hS2⟩
             have HS2 := hide hS2
             have hil2 : (i : Int) < (ns.length : Int) := by have := (List.getElem?_eq_some_iff.1 hni).1; omega
             obtain ⟨⟨q, rfl⟩, -, hcap2⟩ := St.hasBlk (d := rawD 2) rfl hS2 hni
             have HNI := hide hni
             have x0 := hS2.at1.c1
             have xf := hS2.at1.frozen
             have xz := hS2.at1.lt
             clear hD hns hni hS2)
          | (go_at_call 117
             refine (ixAt_c ⟨es⟩ b 0 t _ HS.out.boxRow HFT.out.2.1 (by show es.length ≤ 1048576; omega)).mono ?_
             rintro e w1 ⟨⟨i, hlb, rfl⟩, hbw⟩
             rw [show hasT Entry.word (Index.mk es).entries t = false from HH.out]
             replace hlb : isLbT Entry.word es t i := hlb
             have HLB := hide hlb
             have HBW := hide hbw
             obtain ⟨A, c, rs, F3, Fs, hrl, hO⟩ := St.indexOpen (HS.out.by hbw)
             have hrl2 : rs.length = es.length := hrl
             replace hO : St w0 w1 (blk b #[.slice A rs.length c] 33 :: own (rawD 2) 106 (.slice A rs.length c) rs F3 :: heldsP entryD es rs Fs :: own strD 9 (.slice (some ⟨qs, 0, none⟩) ws.length c1) ws F1 :: blk W.heap.size #[.int .i64 m.number, .int .i64 m.sender, .int .i64 m.at_, .string m.text, .int .i64 m.edits, .bool m.gone, .int .i64 m.reply, .slice A7 n7 c7] 47 :: L) := by rw [hrl2]; exact hO
             have HO := hide hO
             have HRL := hide hrl2
             have hile : i ≤ rs.length := by rw [hrl2]; exact hlb.1
             have hrlb : rs.length < 1048576 := by omega
             have x0 := hO.at0.c1
             have xf := hO.at0.frozen
             have xz := hO.at0.lt
             clear hlb hbw hO hrl hrl2))
        obtain ⟨wq, hwq⟩ : ∃ V, V = w2.setCell ⟨b, 0, none⟩ (.slice (some ⟨q, 0, none⟩) ns.length c2) := ⟨_, rfl⟩
        rw [← hwq]
        have hS3 : St w0 wq (blk b #[.slice (some ⟨q, 0, none⟩) ns.length c2] 33 :: own (rawD 2) 106 (.slice (some ⟨q, 0, none⟩) ns.length c2) ns F4 :: heldsP entryD es rs Fs :: own strD 9 (.slice (some ⟨qs, 0, none⟩) ws.length c1) ws F1 :: blk W.heap.size #[.int .i64 m.number, .int .i64 m.sender, .int .i64 m.at_, .string m.text, .int .i64 m.edits, .bool m.gone, .int .i64 m.reply, .slice A7 n7 c7] 47 :: L) := by rw [hwq]; (repeat (first | (with_reducible exact HS2.out.pull1) | (with_reducible apply St.alloc) | (with_reducible apply St.set0) | (with_reducible apply St.set1) | (with_reducible apply St.set2) | (with_reducible apply St.set3) | (with_reducible apply St.drew) | (with_reducible apply St.drewN))); all_goals (try (first | rfl | (simp; done)))
        obtain ⟨Fs4, h4⟩ := St.entIns (i := i) (x := ⟨t, []⟩) (A := none) (c := 0) (G := []) (St.nil hS3.pull2)
        obtain ⟨y, hyd⟩ : ∃ y : Entry, y = ⟨t, []⟩ := ⟨_, rfl⟩
        obtain ⟨es2, hes2⟩ : ∃ es2, es2 = es.take i ++ y :: es.drop i := ⟨_, rfl⟩
        have hns := HNS.out
        have hy : es2[i]? = some y := by rw [hes2]; exact ins_get HLB.out.1
        replace h4 : St w0 wq (heldsP entryD (es.take i ++ ⟨t, []⟩ :: es.drop i) (rs.take i ++ entRaw ⟨t, []⟩ none 0 0 :: rs.drop i) Fs4 :: blk b #[.slice (some ⟨q, 0, none⟩) ns.length c2] 33 :: own (rawD 2) 106 (.slice (some ⟨q, 0, none⟩) ns.length c2) ns F4 :: own strD 9 (.slice (some ⟨qs, 0, none⟩) ws.length c1) ws F1 :: blk W.heap.size #[.int .i64 m.number, .int .i64 m.sender, .int .i64 m.at_, .string m.text, .int .i64 m.edits, .bool m.gone, .int .i64 m.reply, .slice A7 n7 c7] 47 :: L) := h4
        rw [← hns, ← hyd, ← hes2] at h4
        have HRL2 := hide h4.entLen
        have HY := hide hy
        have HYT := hide (show y.word = t from by rw [hyd])
        have HYR := hide (show Rises y.numbers ∧ y.numbers.length ≤ bn + k from by rw [hyd]; exact ⟨by rw [rises_pw]; simp, by simp⟩)
        have HBB := hide (show hasB y.numbers m.number = false from by rw [hyd]; simp [hasB])
        have HFIN := hide (show ∀ j, isLb y.numbers m.number j → putW t m.number es = es2.set i ⟨t, insN y.numbers j m.number⟩ from fun j hj => by
          have hj0 : j = 0 := by have := hj.1; rw [hyd] at this; simpa using this
          rw [putW_new HLB.out HH.out, hes2, ins_set HLB.out.1, hj0, hyd]; rfl)
        obtain ⟨A3, c3, G, Fs5, hr3, hC⟩ := St.entCut h4 hy
        have HR3 := hide hr3
        have HC := hide hC
        obtain ⟨hcell2, hqf2, hqz2⟩ := St.flatCell (d := rawD 2) rfl h4.pull2 hr3
        have d0 := hcell2 0 _ rfl
        have d1 := hcell2 1 _ rfl
        simp only [Nat.add_zero] at d0
        clear hcell2 x0 xf xz
        have m0 := h4.pull4.at0.cell 0
        simp only [List.getElem?_toArray, List.getElem?_cons_zero] at m0
        have mz := h4.pull4.at0.lt
        clear hwq hS3 h4 hyd hes2 hns hy hr3 hC
        go_region_with (go_at_call 139
                        refine (binSearch_c _ y.numbers m.number _ (by first | exact (St.toK HC.out) | exact (St.toK HC.out).below (Below.refl _ _).drew) HYR.out.1 (by have := HYR.out.2; omega)).mono ?_
                        rintro e w' ⟨⟨j, hj, rfl⟩, rfl⟩
                        rw [HBB.out]
                        have HJ := hide hj
                        have hjl := hj.1
                        clear hj)
        all_goals
          go_wp2_with fail
          go_region_with (go_at_call 140
                          refine (insNum_c j y.numbers A3 c3 G w0 _ (heldsP entryD (es2.take i ++ es2.drop (i + 1)) (ns.take i ++ ns.drop (i + 1)) Fs5 :: blk b #[.slice (some ⟨q, 0, none⟩) ns.length c2] 33 :: own (rawD 2) 106 (.slice (some ⟨q, 0, none⟩) ns.length c2) ns F4 :: own strD 9 (.slice (some ⟨qs, 0, none⟩) ws.length c1) ws F1 :: blk W.heap.size #[.int .i64 m.number, .int .i64 m.sender, .int .i64 m.at_, .string m.text, .int .i64 m.edits, .bool m.gone, .int .i64 m.reply, .slice A7 n7 c7] 47 :: L) _ m.number (show St w0 _ (blk _ #[.int .i64 m.number] 2 :: own intD 2 (.slice A3 y.numbers.length c3) y.numbers G :: heldsP entryD (es2.take i ++ es2.drop (i + 1)) (ns.take i ++ ns.drop (i + 1)) Fs5 :: blk b #[.slice (some ⟨q, 0, none⟩) ns.length c2] 33 :: own (rawD 2) 106 (.slice (some ⟨q, 0, none⟩) ns.length c2) ns F4 :: own strD 9 (.slice (some ⟨qs, 0, none⟩) ws.length c1) ws F1 :: blk W.heap.size #[.int .i64 m.number, .int .i64 m.sender, .int .i64 m.at_, .string m.text, .int .i64 m.edits, .bool m.gone, .int .i64 m.reply, .slice A7 n7 c7] 47 :: L) from by (repeat (first | (with_reducible exact HC.out) | (with_reducible apply St.alloc) | (with_reducible apply St.set0) | (with_reducible apply St.set1) | (with_reducible apply St.set2) | (with_reducible apply St.set3) | (with_reducible apply St.drew) | (with_reducible apply St.drewN))); all_goals (try (first | rfl | (simp; done)))) hjl (by have := HYR.out.2; omega)).mono ?_
                          rintro e w3 ⟨A5, c5, F5, rfl, hS3⟩
                          have HS3 := hide hS3
                          obtain ⟨hcell3, hqf3, hqz3⟩ := St.flatCell (d := rawD 2) rfl hS3.pull3 HR3.out
                          have g0 := hcell3 0 _ rfl
                          have g1 := hcell3 1 _ rfl
                          simp only [Nat.add_zero] at g0
                          clear hcell3 hS3)
        all_goals
          go_wp2_with fail
          go_roundg (ws.length - (k + 1))
          case measure => omega
          case rel =>
            have key : ∀ W', St w0 W' (own (rawD 2) 106 (.slice (some ⟨q, 0, none⟩) ns.length c2) (ns.set i (entRaw ⟨t, insN y.numbers j m.number⟩ A5 (insN y.numbers j m.number).length c5)) F4 :: own intD 2 (.slice A5 (insN y.numbers j m.number).length c5) (insN y.numbers j m.number) F5 :: heldsP entryD (es2.take i ++ es2.drop (i + 1)) (ns.take i ++ ns.drop (i + 1)) Fs5 :: blk b #[.slice (some ⟨q, 0, none⟩) ns.length c2] 33 :: own strD 9 (.slice (some ⟨qs, 0, none⟩) ws.length c1) ws F1 :: blk W.heap.size #[.int .i64 m.number, .int .i64 m.sender, .int .i64 m.at_, .string m.text, .int .i64 m.edits, .bool m.gone, .int .i64 m.reply, .slice A7 n7 c7] 47 :: L) →
                ∃ F', St w0 W' (boxP indexD 33 b ⟨putWs m.number (ws.take (k + 1)) x.entries⟩ F' :: own strD 9 (.slice (some ⟨qs, 0, none⟩) ws.length c1) ws F1 :: blk W.heap.size #[.int .i64 m.number, .int .i64 m.sender, .int .i64 m.at_, .string m.text, .int .i64 m.edits, .bool m.gone, .int .i64 m.reply, .slice A7 n7 c7] 47 :: L) := by
              intro W' h
              obtain ⟨Fs6, h6⟩ := St.entBack (xs := es2) (rs := ns) (x' := ⟨t, insN y.numbers j m.number⟩) h.pull2.pull2 (List.getElem?_eq_some_iff.1 HY.out).1 HRL2.out
              obtain ⟨F6, h7⟩ := St.indexShut (p := ⟨es2.set i ⟨t, insN y.numbers j m.number⟩⟩) h6.pull1.pull2
              rw [HPN.out, HFIN.out j HJ.out]
              exact ⟨F6, h7⟩
            obtain ⟨F9, h9⟩ := key _ (St.setEnt (x' := ⟨t, insN y.numbers j m.number⟩) (A2 := A5) (n2 := (insN y.numbers j m.number).length) (c2 := c5) HS3.out.pull3 HR3.out rfl HYT.out.symm)
            exact ⟨k + 1, F9, by omega, by omega, by go_num, hide h9⟩
    · obtain rfl : k = ws.length := by omega
      rw [List.take_length] at HS
      go_wp2_with fail
      refine bodyPost_end (v := .tuple #[]) (by simp [results, Try.results92, go_sem]) rfl ⟨rfl, F2, ?_⟩
      rw [HAM.out]
      exact HS.out.drop1.drop1
end Go.Proofs.Yticjphaagmnahaa
