/- The first events of a history go into its base: the program and the reference. -/
import Derived.Test.YtodmongmaoeknaaGreatCurrent
import Derived.Test.YtodmongmaoeknaaGreatStRow
import Derived.Test.YtodmongmaoeknaaGreatFlatEvent
import Derived.Deep.RegionLaw
import Derived.Deep.RegionWith
import Derived.Deep.Cut
namespace Go.Proofs.YtodmongmaoeknaaGreat
open Go Go.RowKit Go.BigFrame
set_option linter.unusedVariables false
set_option linter.unusedSimpArgs false

def noHist : History := ⟨noLog, []⟩
def fgOk (h : History) (n : Int) : Bool := histB h && inB n 0 h.events.length
def fgV (h : History) (n : Int) : History := if fgOk h n then ⟨reL h.base (h.events.take n.toNat), h.events.drop n.toNat⟩ else noHist
theorem fgV_no {h : History} {n : Int} (hk : fgOk h n = false) : fgV h n = noHist := by simp [fgV, hk]
theorem fgV_yes {h : History} {n : Int} (hk : fgOk h n = true) : fgV h n = ⟨reL h.base (h.events.take n.toNat), h.events.drop n.toNat⟩ := by simp [fgV, hk]
theorem evs_take {es : List Event} (h : eventsB es = true) (k : Nat) : eventsB (es.take k) = true := by
  simp only [eventsB, Bool.and_eq_true, decide_eq_true_eq, List.all_eq_true] at h ⊢
  refine ⟨?_, fun x hx => h.2 x (List.mem_of_mem_take hx)⟩
  have h3 : (es.take k).length ≤ es.length := List.length_take_le' k es
  have h4 := h.1
  have h5 : ((es.take k).length : Int) ≤ es.length := by exact_mod_cast h3
  omega
theorem fg_cnt (h : History) (n : Int) : tcntHistory (fgV h n) ≤ 2000 := by
  unfold fgV
  split
  · rename_i hk
    simp only [fgOk, Bool.and_eq_true] at hk
    have h1 := re_cnt h.base (h.events.take n.toNat)
    have h2 := (hist_valid hk.1).2.1
    simp only [eventsB, Bool.and_eq_true, decide_eq_true_eq] at h2
    have h3 := cntEventS_le (h.events.drop n.toNat)
    rw [List.length_drop] at h3
    unfold tcntHistory
    show tcntLog _ + _ ≤ _
    simp only []
    omega
  · have := noLog_cnt
    show tcntLog noLog + 0 ≤ _
    omega
theorem St.hist {w0 w : World} {L : List Piece} {x : History} {v1 v2 : Value} {F1 F2 : List Nat} (h : St w0 w (own eventD 55 v2 x.events F2 :: own messageD 82 v1 x.base.messages F1 :: L)) :
    St w0 w (ownD historyD x [.int .i64 x.base.next, v1, v2] (F1 ++ F2) :: L) := by
  have hf : (feet (ownD historyD x [.int .i64 x.base.next, v1, v2] (F1 ++ F2) :: L)).Perm (feet (own eventD 55 v2 x.events F2 :: own messageD 82 v1 x.base.messages F1 :: L)) := by
    simp only [feet_cons, ownD, own]
    rw [← List.append_assoc]
    exact List.Perm.append_right _ List.perm_append_comm
  refine ⟨h.below, fun p hp => ?_, hf.nodup_iff.2 h.nodup, fun b hb => h.ge b (hf.mem_iff.1 hb)⟩
  rcases List.mem_cons.1 hp with rfl | hp
  · exact history_M_mk h.drop.head h.head
  · exact h.drop.drop.all p hp
theorem St.logIn {w0 w : World} {L : List Piece} {x : Log} {v1 : Value} {F1 : List Nat} (h : St w0 w (ownD logD x [.int .i64 x.next, v1] F1 :: L)) : St w0 w (own messageD 82 v1 x.messages F1 :: L) := by
  have hm : logD.M w x [.int .i64 x.next, v1] F1 := h.head
  obtain ⟨v, F, hc, rfl, hs⟩ := log_M hm
  simp only [List.cons.injEq, and_true, true_and] at hc
  subst hc
  refine ⟨h.below, fun p hp => ?_, h.nodup, h.ge⟩
  rcases List.mem_cons.1 hp with rfl | hp
  · exact hs
  · exact h.drop.all p hp
theorem St.noHist {w0 w : World} {L : List Piece} (h : St w0 w L) : St w0 w (ownD historyD noHist [.int .i64 0, .slice none 0 0, .slice none 0 0] [] :: L) :=
  h.new (Below.refl _ _) (history_M_mk (x := Go.Proofs.YtodmongmaoeknaaGreat.noHist) (F1 := []) (F2 := []) (.inl ⟨rfl, rfl, rfl⟩) (.inl ⟨rfl, rfl, rfl⟩)) (by simp [ownD]) (by simp [ownD])
set_option maxHeartbeats 8000000 in
set_option maxRecDepth 100000 in
theorem forgetEvents_c (h : History) (n : Int) (v1 v2 : Value) (w : World) (h1 : SliceK messageD w v1 h.base.messages) (h2 : SliceK eventD w v2 h.events) (ht : okHist h) :
    Calls Tryz.prog 7 #[.agg #[.int .i64 h.base.next, v1, v2], .int .i64 n] w (RetElem2 historyD w (fgV h n) (fgOk h n)) := by
  obtain ⟨A, c, rfl⟩ := h1.shape
  obtain ⟨A2, c2, rfl⟩ := h2.shape
  have HT := hide ht
  have H1 := hide h1
  have H2 := hide h2
  clear h1 h2 ht
  have HS0 := hide (show St w ((w.alloc (.cells #[.int .i64 h.base.next, .slice A h.base.messages.length c, .slice A2 h.events.length c2] 34)).alloc (.cells #[.int .i64 0, .slice none 0 0, .slice none 0 0] 34)) [blk (w.heap.size + 1) #[.int .i64 0, .slice none 0 0, .slice none 0 0] 34, blk w.heap.size #[.int .i64 h.base.next, .slice A h.base.messages.length c, .slice A2 h.events.length c2] 34] by (repeat (first | (with_reducible exact St.start w) | (with_reducible apply St.alloc) | (with_reducible apply St.set0) | (with_reducible apply St.set1) | (with_reducible apply St.set2) | (with_reducible apply St.set3) | (with_reducible apply St.drew) | (with_reducible apply St.drewN))); all_goals (try (first | rfl | (simp; done))))
  (try clear x0 x1 x2 xf xz y0 y1 y2 yf yz)
  obtain ⟨x0, x1, x2⟩ := HS0.out.at0.c3
  have xf := HS0.out.at0.frozen
  have xz := HS0.out.at0.lt
  obtain ⟨y0, y1, y2⟩ := HS0.out.at1.c3
  have yf := HS0.out.at1.frozen
  have yz := HS0.out.at1.lt
  by_cases hh : histB h = true
  · have HH := hide hh
    by_cases hn : inB n 0 h.events.length = true
    · have HN := hide hn
      have HOK := hide (show fgOk h n = true by simp [fgOk, hh, hn])
      obtain ⟨hn0, hn1⟩ := inB_iff.1 hn
      obtain ⟨k, rfl⟩ : ∃ k : Nat, n = (k : Int) := ⟨n.toNat, by omega⟩
      have hkl : k ≤ h.events.length := by omega
      have HE6 := hide (show h.events.length ≤ 60 by have h2 := (hist_valid hh).2.1; simp only [eventsB, Bool.and_eq_true, decide_eq_true_eq] at h2; omega)
      have hlc : h.events.length ≤ c2 := by obtain ⟨A9, c9, hv, hl, _⟩ := H2.out; simp only [Value.slice.injEq] at hv; omega
      clear hh hn
      go_enter Tryz.func7, Tryz.ntmps7
      go_wp2_with (first
        | (go_at_call 18
           refine (validHistory_c h _ _ _ (H1.out.below HS0.out.below) (H2.out.below HS0.out.below) HT.out).mono ?_
           rintro e w1 ⟨rfl, hb⟩
           rw [HH.out]
           have HS1 := hide (HS0.out.by hb)
           (try clear x0 x1 x2 xf xz y0 y1 y2 yf yz)
           obtain ⟨x0, x1, x2⟩ := HS1.out.at0.c3
           have xf := HS1.out.at0.frozen
           have xz := HS1.out.at0.lt
           obtain ⟨y0, y1, y2⟩ := HS1.out.at1.c3
           have yf := HS1.out.at1.frozen
           have yz := HS1.out.at1.lt
           clear hb)
        | (go_at_call 19; refine (in_c _ _ _ _).mono ?_; rintro e w' ⟨rfl, rfl⟩; rw [HN.out]))
      obtain ⟨Wg, hWg⟩ : ∃ V, V = w1 := ⟨_, rfl⟩
      rw [← hWg] at HS1 x0 x1 x2 xf xz y0 y1 y2 yf yz
      rw [← hWg]
      clear hWg
      go_cut [6, 7] from 20 (fun s6 s7 w' => ∃ (b : Nat) (A9 : Option Addr) (c9 : Nat) (F9 : List Nat), s6 = .pointer (some ⟨b, 0, none⟩) ∧ s7 = .bool (reOk h.base (h.events.take k)) ∧ Hid (St w w' (blk b #[.int .i64 (reL h.base (h.events.take k)).next, .slice A9 (reL h.base (h.events.take k)).messages.length c9] 31 :: own messageD 82 (.slice A9 (reL h.base (h.events.take k)).messages.length c9) (reL h.base (h.events.take k)).messages F9 :: [blk (w.heap.size + 1) #[.int .i64 0, .slice none 0 0, .slice none 0 0] 34, blk w.heap.size #[.int .i64 h.base.next, .slice A h.base.messages.length c, .slice A2 h.events.length c2] 34])))
      case first =>
        go_region_with (first
          | (go_at_call 20
             refine (runEvents_c h.base (h.events.take k) _ _ _ (H1.out.below (show Below w.heap.size w Wg.drew from HS1.out.drew.below)) ((SliceK.front H2.out hkl).below (show Below w.heap.size w Wg.drew from HS1.out.drew.below)) HT.out.1 (fun e he => HT.out.2 e (List.mem_of_mem_take he))).mono ?_
             rintro e w2 he
             obtain ⟨cs, F, rfl, hK, hb, hS⟩ := HS1.out.drew.elem2 he
             obtain ⟨u1, rfl, k1⟩ := log_K hK
             obtain ⟨G1, g1, rfl⟩ := k1.shape
             have HS2 := hide hS.logIn
             clear hK k1 hb hS he)
          | (go_at_call 20
             refine (runEvents_c h.base (h.events.take k) _ _ _ (H1.out.below (show Below w.heap.size w (Wg.alloc (.cells #[.int .i64 0, .slice none 0 0] 31)).drew from (HS1.out.alloc rfl).drew.below)) ((SliceK.front H2.out hkl).below (show Below w.heap.size w (Wg.alloc (.cells #[.int .i64 0, .slice none 0 0] 31)).drew from (HS1.out.alloc rfl).drew.below)) HT.out.1 (fun e he => HT.out.2 e (List.mem_of_mem_take he))).mono ?_
             rintro e w2 he
             obtain ⟨cs, F, rfl, hK, hb, hS⟩ := (HS1.out.alloc (k := Wg.heap.size) (arr := #[.int .i64 0, .slice none 0 0]) (e := 31) rfl).drew.elem2 he
             obtain ⟨u1, rfl, k1⟩ := log_K hK
             obtain ⟨G1, g1, rfl⟩ := k1.shape
             have HS2 := hide hS.logIn
             obtain ⟨z0, z1⟩ := hS.at1.c2
             have zf := hS.at1.frozen
             have zz := hS.at1.lt
             clear hK k1 hb hS he))
        all_goals
          go_wp2_with fail
          go_meet
          case rel =>
            refine ⟨_, G1, g1, F, rfl, rfl, hide ?_⟩
            first
              | (show St w _ (_ :: _ :: [blk (w.heap.size + 1) #[.int .i64 0, .slice none 0 0, .slice none 0 0] 34, blk w.heap.size #[.int .i64 h.base.next, .slice A h.base.messages.length c, .slice A2 h.events.length c2] 34]); (repeat (first | (with_reducible exact HS2.out) | (with_reducible apply St.alloc) | (with_reducible apply St.set0) | (with_reducible apply St.set1) | (with_reducible apply St.set2) | (with_reducible apply St.set3) | (with_reducible apply St.drew) | (with_reducible apply St.drewN))); all_goals (try (first | rfl | (simp; done))); done)
              | (show St w _ (_ :: _ :: [blk (w.heap.size + 1) #[.int .i64 0, .slice none 0 0, .slice none 0 0] 34, blk w.heap.size #[.int .i64 h.base.next, .slice A h.base.messages.length c, .slice A2 h.events.length c2] 34]); (repeat (first | (with_reducible exact HS2.out.pull1) | (with_reducible apply St.alloc) | (with_reducible apply St.set0) | (with_reducible apply St.set1) | (with_reducible apply St.set2) | (with_reducible apply St.set3) | (with_reducible apply St.drew) | (with_reducible apply St.drewN))); all_goals (try (first | rfl | (simp; done))); done)
      case rest =>
        obtain ⟨b, A9, c9, F9, rfl, rfl, HS2⟩ := hcut
        obtain ⟨z0, z1⟩ := HS2.out.at0.c2
        have zf := HS2.out.at0.frozen
        have zz := HS2.out.at0.lt
        clear x0 x1 x2 xf xz y0 y1 y2 yf yz
        obtain ⟨x0, x1, x2⟩ := HS2.out.at2.c3
        have xf := HS2.out.at2.frozen
        have xz := HS2.out.at2.lt
        obtain ⟨y0, y1, y2⟩ := HS2.out.at3.c3
        have yf := HS2.out.at3.frozen
        have yz := HS2.out.at3.lt
        obtain ⟨Wc, hWc⟩ : ∃ V, V = wc := ⟨_, rfl⟩
        rw [← hWc] at HS2 x0 x1 x2 xf xz y0 y1 y2 yf yz z0 z1 zf zz
        rw [← hWc]
        clear hWc
        by_cases hck : c2 = k
        · replace hck := hck.symm
          subst hck
          have HBK := hide (show SliceK eventD w (.slice A2 0 0) (h.events.drop k) by
            have h2 := SliceK.back H2.out hkl
            rw [if_pos rfl, Nat.sub_self, Nat.sub_eq_zero_of_le hlc] at h2
            exact h2)
          go_wp2_with fail
          go_region_with (
            (go_at_call 21
             refine (cloneEvent_c _ (h.events.drop k) _ (HBK.out.below (show Below w.heap.size w _ from HS2.out.drew.below)) (by rw [List.length_drop]; have := HE6.out; omega)).mono ?_
             rintro e w3 ⟨v3, rfl, hM, hb⟩
             obtain ⟨A3, c3, rfl⟩ := hM.shape
             obtain ⟨F3, hS⟩ := HS2.out.drew.made hM hb
             have HS3 := hide hS
             (try clear z0 z1 zf zz)
             obtain ⟨z0, z1⟩ := hS.at1.c2
             clear x0 x1 x2 xf xz
             obtain ⟨x0, x1, x2⟩ := hS.at3.c3
             have xf := hS.at3.frozen
             have xz := hS.at3.lt
             clear hM hb hS))
          all_goals
            go_wp2_with fail
            have hS3 := HS3.out
            rw [show (h.events.drop k).length = 0 by rw [List.length_drop]; omega] at hS3
            refine bodyPost_ret (v := .tuple #[.agg #[.int .i64 (reL h.base (h.events.take k)).next, .slice A9 (reL h.base (h.events.take k)).messages.length c9, .slice A3 0 c3], .bool true]) (by simp [results, Tryz.results7, go_sem, x0, x1, x2, xf, xz, Nat.sub_eq_zero_of_le hlc]) rfl ?_
            rw [fgV_yes HOK.out, HOK.out]
            exact St.ret2 (cs := [.int .i64 (reL h.base (h.events.take k)).next, .slice A9 (reL h.base (h.events.take k)).messages.length c9, .slice A3 0 c3]) (F := F9 ++ F3) (St.hist (x := ⟨reL h.base (h.events.take k), h.events.drop k⟩) (show St w _ (_ :: _ :: blk b #[.int .i64 (reL h.base (h.events.take k)).next, .slice A9 (reL h.base (h.events.take k)).messages.length c9] 31 :: blk (w.heap.size + 1) #[.int .i64 (reL h.base (h.events.take k)).next, .slice A9 (reL h.base (h.events.take k)).messages.length c9, .slice A3 0 c3] 34 :: [blk w.heap.size #[.int .i64 h.base.next, .slice A h.base.messages.length c, .slice A2 h.events.length k] 34]) from by (repeat (first | (with_reducible exact hS3.pull2.pull1) | (with_reducible apply St.alloc) | (with_reducible apply St.set0) | (with_reducible apply St.set1) | (with_reducible apply St.set2) | (with_reducible apply St.set3) | (with_reducible apply St.drew) | (with_reducible apply St.drewN))); all_goals (try (first | rfl | (simp; done))))) rfl
        · have hb2 := SliceK.back H2.out hkl
          rw [if_neg hck] at hb2
          have HBK := hide hb2
          clear hb2
          go_wp2_with fail
          go_region_with (
            (go_at_call 21
             refine (cloneEvent_c _ (h.events.drop k) _ (HBK.out.below (show Below w.heap.size w _ from HS2.out.drew.below)) (by rw [List.length_drop]; have := HE6.out; omega)).mono ?_
             rintro e w3 ⟨v3, rfl, hM, hb⟩
             obtain ⟨A3, c3, rfl⟩ := hM.shape
             obtain ⟨F3, hS⟩ := HS2.out.drew.made hM hb
             have HS3 := hide hS
             (try clear z0 z1 zf zz)
             obtain ⟨z0, z1⟩ := hS.at1.c2
             clear x0 x1 x2 xf xz
             obtain ⟨x0, x1, x2⟩ := hS.at3.c3
             have xf := hS.at3.frozen
             have xz := hS.at3.lt
             clear hM hb hS))
          all_goals
            go_wp2_with fail
            refine bodyPost_ret (v := .tuple #[.agg #[.int .i64 (reL h.base (h.events.take k)).next, .slice A9 (reL h.base (h.events.take k)).messages.length c9, .slice A3 (h.events.drop k).length c3], .bool true]) (by simp [results, Tryz.results7, go_sem, x0, x1, x2, xf, xz, Nat.sub_eq_zero_of_le hlc]) rfl ?_
            rw [fgV_yes HOK.out, HOK.out]
            exact St.ret2 (cs := [.int .i64 (reL h.base (h.events.take k)).next, .slice A9 (reL h.base (h.events.take k)).messages.length c9, .slice A3 (h.events.drop k).length c3]) (F := F9 ++ F3) (St.hist (x := ⟨reL h.base (h.events.take k), h.events.drop k⟩) (show St w _ (_ :: _ :: blk b #[.int .i64 (reL h.base (h.events.take k)).next, .slice A9 (reL h.base (h.events.take k)).messages.length c9] 31 :: blk (w.heap.size + 1) #[.int .i64 (reL h.base (h.events.take k)).next, .slice A9 (reL h.base (h.events.take k)).messages.length c9, .slice A3 (h.events.drop k).length c3] 34 :: [blk w.heap.size #[.int .i64 h.base.next, .slice A h.base.messages.length c, .slice A2 h.events.length c2] 34]) from by (repeat (first | (with_reducible exact HS3.out.pull2.pull1) | (with_reducible apply St.alloc) | (with_reducible apply St.set0) | (with_reducible apply St.set1) | (with_reducible apply St.set2) | (with_reducible apply St.set3) | (with_reducible apply St.drew) | (with_reducible apply St.drewN))); all_goals (try (first | rfl | (simp; done))))) rfl
    · have HN := hide (show inB n 0 h.events.length = false by simpa using hn)
      have HOK := hide (show fgOk h n = false by simp [fgOk, HN.out])
      clear hh hn
      go_enter Tryz.func7, Tryz.ntmps7
      go_wp2_with (first
        | (go_at_call 18
           refine (validHistory_c h _ _ _ (H1.out.below HS0.out.below) (H2.out.below HS0.out.below) HT.out).mono ?_
           rintro e w1 ⟨rfl, hb⟩
           rw [HH.out]
           have HS1 := hide (HS0.out.by hb)
           (try clear x0 x1 x2 xf xz y0 y1 y2 yf yz)
           obtain ⟨x0, x1, x2⟩ := HS1.out.at0.c3
           have xf := HS1.out.at0.frozen
           have xz := HS1.out.at0.lt
           obtain ⟨y0, y1, y2⟩ := HS1.out.at1.c3
           have yf := HS1.out.at1.frozen
           have yz := HS1.out.at1.lt
           clear hb)
        | (go_at_call 19; refine (in_c _ _ _ _).mono ?_; rintro e w' ⟨rfl, rfl⟩; rw [HN.out]))
      refine bodyPost_ret (v := .tuple #[.agg #[.int .i64 0, .slice none 0 0, .slice none 0 0], .bool false]) (by simp [results, Tryz.results7, go_sem, x0, x1, x2, xf, xz]) rfl ?_
      rw [fgV_no HOK.out, HOK.out]
      exact St.ret2 (cs := [.int .i64 0, .slice none 0 0, .slice none 0 0]) (F := []) (St.noHist (by (repeat (first | (with_reducible exact HS1.out) | (with_reducible apply St.alloc) | (with_reducible apply St.set0) | (with_reducible apply St.set1) | (with_reducible apply St.set2) | (with_reducible apply St.set3) | (with_reducible apply St.drew) | (with_reducible apply St.drewN))); all_goals (try (first | rfl | (simp; done))))) rfl
  · have HH := hide (show histB h = false by simpa using hh)
    have HOK := hide (show fgOk h n = false by simp [fgOk, HH.out])
    clear hh
    go_enter Tryz.func7, Tryz.ntmps7
    go_wp2_with (go_at_call 18
                 refine (validHistory_c h _ _ _ (H1.out.below HS0.out.below) (H2.out.below HS0.out.below) HT.out).mono ?_
                 rintro e w1 ⟨rfl, hb⟩
                 rw [HH.out]
                 have HS1 := hide (HS0.out.by hb)
                 (try clear x0 x1 x2 xf xz y0 y1 y2 yf yz)
                 obtain ⟨x0, x1, x2⟩ := HS1.out.at0.c3
                 have xf := HS1.out.at0.frozen
                 have xz := HS1.out.at0.lt
                 obtain ⟨y0, y1, y2⟩ := HS1.out.at1.c3
                 have yf := HS1.out.at1.frozen
                 have yz := HS1.out.at1.lt
                 clear hb)
    refine bodyPost_ret (v := .tuple #[.agg #[.int .i64 0, .slice none 0 0, .slice none 0 0], .bool false]) (by simp [results, Tryz.results7, go_sem, x0, x1, x2, xf, xz]) rfl ?_
    rw [fgV_no HOK.out, HOK.out]
    exact St.ret2 (cs := [.int .i64 0, .slice none 0 0, .slice none 0 0]) (F := []) (St.noHist (by (repeat (first | (with_reducible exact HS1.out) | (with_reducible apply St.alloc) | (with_reducible apply St.set0) | (with_reducible apply St.set1) | (with_reducible apply St.set2) | (with_reducible apply St.set3) | (with_reducible apply St.drew) | (with_reducible apply St.drewN))); all_goals (try (first | rfl | (simp; done))))) rfl
set_option maxHeartbeats 8000000 in
set_option maxRecDepth 100000 in
theorem specForgetEvents_c (h : History) (n : Int) (v1 v2 : Value) (w : World) (h1 : SliceK messageD w v1 h.base.messages) (h2 : SliceK eventD w v2 h.events) (ht : okHist h) :
    Calls Tryz.prog 5 #[.agg #[.int .i64 h.base.next, v1, v2], .int .i64 n] w (RetElem2 historyD w (fgV h n) (fgOk h n)) := by
  obtain ⟨A, c, rfl⟩ := h1.shape
  obtain ⟨A2, c2, rfl⟩ := h2.shape
  have HT := hide ht
  have HBX := hide (RowAt.box (d := historyD) (x := h) (history_K_mk h1 h2) (arr := #[.int .i64 h.base.next, .slice A h.base.messages.length c, .slice A2 h.events.length c2]) rfl 34)
  have H1 := hide h1
  have H2 := hide h2
  clear h1 h2 ht
  have HS0 := hide (show St w ((w.alloc (.cells #[.int .i64 h.base.next, .slice A h.base.messages.length c, .slice A2 h.events.length c2] 34)).alloc (.cells #[.int .i64 0, .slice none 0 0, .slice none 0 0] 34)) [blk (w.heap.size + 1) #[.int .i64 0, .slice none 0 0, .slice none 0 0] 34, blk w.heap.size #[.int .i64 h.base.next, .slice A h.base.messages.length c, .slice A2 h.events.length c2] 34] by (repeat (first | (with_reducible exact St.start w) | (with_reducible apply St.alloc) | (with_reducible apply St.set0) | (with_reducible apply St.set1) | (with_reducible apply St.set2) | (with_reducible apply St.set3) | (with_reducible apply St.drew) | (with_reducible apply St.drewN))); all_goals (try (first | rfl | (simp; done))))
  (try clear x0 x1 x2 xf xz y0 y1 y2 yf yz)
  obtain ⟨x0, x1, x2⟩ := HS0.out.at0.c3
  have xf := HS0.out.at0.frozen
  have xz := HS0.out.at0.lt
  obtain ⟨y0, y1, y2⟩ := HS0.out.at1.c3
  have yf := HS0.out.at1.frozen
  have yz := HS0.out.at1.lt
  by_cases hh : histB h = true
  · have HH := hide hh
    by_cases hn : inB n 0 h.events.length = true
    · have HN := hide hn
      have HOK := hide (show fgOk h n = true by simp [fgOk, hh, hn])
      obtain ⟨hn0, hn1⟩ := inB_iff.1 hn
      obtain ⟨k, rfl⟩ : ∃ k : Nat, n = (k : Int) := ⟨n.toNat, by omega⟩
      have hkl : k ≤ h.events.length := by omega
      have HE6 := hide (show h.events.length ≤ 60 by have h2 := (hist_valid hh).2.1; simp only [eventsB, Bool.and_eq_true, decide_eq_true_eq] at h2; omega)
      have hlc : h.events.length ≤ c2 := by obtain ⟨A9, c9, hv, hl, _⟩ := H2.out; simp only [Value.slice.injEq] at hv; omega
      have HRR := hide (show rrL h.base (h.events.take k) = reL h.base (h.events.take k) from (re_rr (evs_take (hist_valid hh).2.1 k) (hist_valid hh).1).symm)
      clear hh hn
      by_cases hck : c2 = k
      · replace hck := hck.symm
        subst hck
        have HBK := hide (show SliceK eventD w (.slice A2 0 0) (h.events.drop k) by
          have h2 := SliceK.back H2.out hkl
          rw [if_pos rfl, Nat.sub_self, Nat.sub_eq_zero_of_le hlc] at h2
          exact h2)
        go_enter Tryz.func5, Tryz.ntmps5
        go_wp2_with (first
          | (go_at_call 13
             refine (l07Is_c h _ _ _ (HBX.out.below (show Below (w.alloc (.cells #[.int .i64 h.base.next, .slice A h.base.messages.length c, .slice A2 h.events.length k] 34)).heap.size (w.alloc (.cells #[.int .i64 h.base.next, .slice A h.base.messages.length c, .slice A2 h.events.length k] 34)) _ from (Below.refl _ _).alloc (Nat.le_refl _) _)) HT.out).mono ?_
             rintro e w1 ⟨rfl, hb⟩
             rw [HH.out]
             have HS1 := hide (HS0.out.by hb)
             have HP1 := hide ((HBX.out.below ((Below.refl _ _).alloc (Nat.le_refl _) (.cells #[.int .i64 0, .slice none 0 0, .slice none 0 0] 34))).below hb)
             (try clear x0 x1 x2 xf xz y0 y1 y2 yf yz)
             obtain ⟨x0, x1, x2⟩ := HS1.out.at0.c3
             have xf := HS1.out.at0.frozen
             have xz := HS1.out.at0.lt
             obtain ⟨y0, y1, y2⟩ := HS1.out.at1.c3
             have yf := HS1.out.at1.frozen
             have yz := HS1.out.at1.lt
             clear hb)
          | (go_at_call 14; refine (l00In_c _ _ _ _).mono ?_; rintro e w' ⟨rfl, rfl⟩; rw [HN.out])
          | (go_at_call 15
             refine (l07Run_c h.base (h.events.take k) _ _ _ _ (hist_parts HP1.out).1 ((SliceK.front H2.out hkl).below HS1.out.below) HT.out.1 (hist_valid HH.out).1 (fun e he => HT.out.2 e (List.mem_of_mem_take he))).mono ?_
             rintro e w2 he
             rw [HRR.out] at he
             obtain ⟨cs, F, rfl, hK, hb, hS⟩ := HS1.out.elem2 he
             obtain ⟨u1, rfl, k1⟩ := log_K hK
             obtain ⟨G1, g1, rfl⟩ := k1.shape
             have HS2 := hide hS.logIn
             clear x0 x1 x2 xf xz y0 y1 y2 yf yz
             obtain ⟨x0, x1, x2⟩ := hS.at1.c3
             have xf := hS.at1.frozen
             have xz := hS.at1.lt
             obtain ⟨y0, y1, y2⟩ := hS.at2.c3
             have yf := hS.at2.frozen
             have yz := hS.at2.lt
             clear hK k1 hb hS he))
        obtain ⟨Wc, hWc⟩ : ∃ V, V = w2.alloc (.cells #[.int .i64 (reL h.base (h.events.take k)).next, .slice G1 (reL h.base (h.events.take k)).messages.length g1] 31) := ⟨_, rfl⟩
        have HSC := hide (show St w Wc (blk w2.heap.size #[.int .i64 (reL h.base (h.events.take k)).next, .slice G1 (reL h.base (h.events.take k)).messages.length g1] 31 :: _ :: _ :: [_]) by rw [hWc]; (repeat (first | (with_reducible exact HS2.out) | (with_reducible apply St.alloc) | (with_reducible apply St.set0) | (with_reducible apply St.set1) | (with_reducible apply St.set2) | (with_reducible apply St.set3) | (with_reducible apply St.drew) | (with_reducible apply St.drewN))); all_goals (try (first | rfl | (simp; done))))
        rw [← hWc]
        clear hWc x0 x1 x2 xf xz y0 y1 y2 yf yz
        obtain ⟨z0, z1⟩ := HSC.out.at0.c2
        have zf := HSC.out.at0.frozen
        have zz := HSC.out.at0.lt
        obtain ⟨x0, x1, x2⟩ := HSC.out.at2.c3
        have xf := HSC.out.at2.frozen
        have xz := HSC.out.at2.lt
        obtain ⟨y0, y1, y2⟩ := HSC.out.at3.c3
        have yf := HSC.out.at3.frozen
        have yz := HSC.out.at3.lt
        go_region_law (
          refine step_row_st (d := eventD) (w0 := w) rfl rfl (.tmp 29) (.tmp 33) 32 rfl (.agg #[.int .i64 0, .int .i64 0, .int .i64 0, .int .i64 0, .string ⟨#[]⟩, .int .i64 0]) 56 Tryz.underlying32 infoEvent rfl (by omega) (by omega) (.slice (some ⟨Wc.heap.size, 0, none⟩) 0 0) [] [Wc.heap.size] (by simp [Act.eval, Act.put]) (St.empty (show St w _ (blk Wc.heap.size #[] 55 :: _ :: _ :: _ :: [_]) from by (repeat (first | (with_reducible exact HSC.out) | (with_reducible apply St.alloc) | (with_reducible apply St.set0) | (with_reducible apply St.set1) | (with_reducible apply St.set2) | (with_reducible apply St.set3) | (with_reducible apply St.drew) | (with_reducible apply St.drewN))); all_goals (try (first | rfl | (simp; done))))) _ 0 0 (h.events.drop k) (by first | (simp [Act.eval, Act.put]; done) | (simp [Act.eval, Act.put]; rfl)) (by simp only [List.length_drop]; try omega) (HBK.out.below (St.below (show St w _ (blk Wc.heap.size #[] 55 :: _ :: _ :: _ :: [_]) from by (repeat (first | (with_reducible exact HSC.out) | (with_reducible apply St.alloc) | (with_reducible apply St.set0) | (with_reducible apply St.set1) | (with_reducible apply St.set2) | (with_reducible apply St.set3) | (with_reducible apply St.drew) | (with_reducible apply St.drewN))); all_goals (try (first | rfl | (simp; done)))))) (by rw [List.length_drop]; simp; have := HE6.out; omega) ?_
          intro A3 c3 w3 F3 hS
          rw [List.nil_append] at hS
          have HS3 := hide hS
          clear z0 z1 zf zz x0 x1 x2 xf xz y0 y1 y2 yf yz
          obtain ⟨z0, z1⟩ := hS.at1.c2
          obtain ⟨x0, x1, x2⟩ := hS.at3.c3
          have xf := hS.at3.frozen
          have xz := hS.at3.lt
          clear hS)
        all_goals
          go_wp2_with fail
          have hS3 := HS3.out
          rw [show (h.events.drop k).length = 0 by rw [List.length_drop]; omega] at hS3
          have HS3 := hide hS3
          refine bodyPost_ret (v := .tuple #[.agg #[.int .i64 (reL h.base (h.events.take k)).next, .slice G1 (reL h.base (h.events.take k)).messages.length g1, .slice A3 0 c3], .bool true]) (by simp [results, Tryz.results5, go_sem, x0, x1, x2, xf, xz, Nat.sub_eq_zero_of_le hlc]) rfl ?_
          rw [fgV_yes HOK.out, HOK.out]
          exact St.ret2 (cs := [.int .i64 (reL h.base (h.events.take k)).next, .slice G1 (reL h.base (h.events.take k)).messages.length g1, .slice A3 0 c3]) (F := F ++ F3) (St.hist (x := ⟨reL h.base (h.events.take k), h.events.drop k⟩) (show St w _ (_ :: _ :: blk w2.heap.size #[.int .i64 (reL h.base (h.events.take k)).next, .slice G1 (reL h.base (h.events.take k)).messages.length g1] 31 :: blk (w.heap.size + 1) #[.int .i64 (reL h.base (h.events.take k)).next, .slice G1 (reL h.base (h.events.take k)).messages.length g1, .slice A3 0 c3] 34 :: [blk w.heap.size #[.int .i64 h.base.next, .slice A h.base.messages.length c, .slice A2 h.events.length k] 34]) from by (repeat (first | (with_reducible exact HS3.out.pull2.pull1) | (with_reducible apply St.alloc) | (with_reducible apply St.set0) | (with_reducible apply St.set1) | (with_reducible apply St.set2) | (with_reducible apply St.set3) | (with_reducible apply St.drew) | (with_reducible apply St.drewN))); all_goals (try (first | rfl | (simp; done))))) rfl
      · have hb2 := SliceK.back H2.out hkl
        rw [if_neg hck] at hb2
        have HBK := hide hb2
        clear hb2
        go_enter Tryz.func5, Tryz.ntmps5
        go_wp2_with (first
          | (go_at_call 13
             refine (l07Is_c h _ _ _ (HBX.out.below (show Below (w.alloc (.cells #[.int .i64 h.base.next, .slice A h.base.messages.length c, .slice A2 h.events.length c2] 34)).heap.size (w.alloc (.cells #[.int .i64 h.base.next, .slice A h.base.messages.length c, .slice A2 h.events.length c2] 34)) _ from (Below.refl _ _).alloc (Nat.le_refl _) _)) HT.out).mono ?_
             rintro e w1 ⟨rfl, hb⟩
             rw [HH.out]
             have HS1 := hide (HS0.out.by hb)
             have HP1 := hide ((HBX.out.below ((Below.refl _ _).alloc (Nat.le_refl _) (.cells #[.int .i64 0, .slice none 0 0, .slice none 0 0] 34))).below hb)
             (try clear x0 x1 x2 xf xz y0 y1 y2 yf yz)
             obtain ⟨x0, x1, x2⟩ := HS1.out.at0.c3
             have xf := HS1.out.at0.frozen
             have xz := HS1.out.at0.lt
             obtain ⟨y0, y1, y2⟩ := HS1.out.at1.c3
             have yf := HS1.out.at1.frozen
             have yz := HS1.out.at1.lt
             clear hb)
          | (go_at_call 14; refine (l00In_c _ _ _ _).mono ?_; rintro e w' ⟨rfl, rfl⟩; rw [HN.out])
          | (go_at_call 15
             refine (l07Run_c h.base (h.events.take k) _ _ _ _ (hist_parts HP1.out).1 ((SliceK.front H2.out hkl).below HS1.out.below) HT.out.1 (hist_valid HH.out).1 (fun e he => HT.out.2 e (List.mem_of_mem_take he))).mono ?_
             rintro e w2 he
             rw [HRR.out] at he
             obtain ⟨cs, F, rfl, hK, hb, hS⟩ := HS1.out.elem2 he
             obtain ⟨u1, rfl, k1⟩ := log_K hK
             obtain ⟨G1, g1, rfl⟩ := k1.shape
             have HS2 := hide hS.logIn
             clear x0 x1 x2 xf xz y0 y1 y2 yf yz
             obtain ⟨x0, x1, x2⟩ := hS.at1.c3
             have xf := hS.at1.frozen
             have xz := hS.at1.lt
             obtain ⟨y0, y1, y2⟩ := hS.at2.c3
             have yf := hS.at2.frozen
             have yz := hS.at2.lt
             clear hK k1 hb hS he))
        obtain ⟨Wc, hWc⟩ : ∃ V, V = w2.alloc (.cells #[.int .i64 (reL h.base (h.events.take k)).next, .slice G1 (reL h.base (h.events.take k)).messages.length g1] 31) := ⟨_, rfl⟩
        have HSC := hide (show St w Wc (blk w2.heap.size #[.int .i64 (reL h.base (h.events.take k)).next, .slice G1 (reL h.base (h.events.take k)).messages.length g1] 31 :: _ :: _ :: [_]) by rw [hWc]; (repeat (first | (with_reducible exact HS2.out) | (with_reducible apply St.alloc) | (with_reducible apply St.set0) | (with_reducible apply St.set1) | (with_reducible apply St.set2) | (with_reducible apply St.set3) | (with_reducible apply St.drew) | (with_reducible apply St.drewN))); all_goals (try (first | rfl | (simp; done))))
        rw [← hWc]
        clear hWc x0 x1 x2 xf xz y0 y1 y2 yf yz
        obtain ⟨z0, z1⟩ := HSC.out.at0.c2
        have zf := HSC.out.at0.frozen
        have zz := HSC.out.at0.lt
        obtain ⟨x0, x1, x2⟩ := HSC.out.at2.c3
        have xf := HSC.out.at2.frozen
        have xz := HSC.out.at2.lt
        obtain ⟨y0, y1, y2⟩ := HSC.out.at3.c3
        have yf := HSC.out.at3.frozen
        have yz := HSC.out.at3.lt
        go_region_law (
          refine step_row_st (d := eventD) (w0 := w) rfl rfl (.tmp 29) (.tmp 33) 32 rfl (.agg #[.int .i64 0, .int .i64 0, .int .i64 0, .int .i64 0, .string ⟨#[]⟩, .int .i64 0]) 56 Tryz.underlying32 infoEvent rfl (by omega) (by omega) (.slice (some ⟨Wc.heap.size, 0, none⟩) 0 0) [] [Wc.heap.size] (by simp [Act.eval, Act.put]) (St.empty (show St w _ (blk Wc.heap.size #[] 55 :: _ :: _ :: _ :: [_]) from by (repeat (first | (with_reducible exact HSC.out) | (with_reducible apply St.alloc) | (with_reducible apply St.set0) | (with_reducible apply St.set1) | (with_reducible apply St.set2) | (with_reducible apply St.set3) | (with_reducible apply St.drew) | (with_reducible apply St.drewN))); all_goals (try (first | rfl | (simp; done))))) _ (h.events.length - k) (c2 - k) (h.events.drop k) (by first | (simp [Act.eval, Act.put]; done) | (simp [Act.eval, Act.put]; rfl)) (by simp only [List.length_drop]; try omega) (HBK.out.below (St.below (show St w _ (blk Wc.heap.size #[] 55 :: _ :: _ :: _ :: [_]) from by (repeat (first | (with_reducible exact HSC.out) | (with_reducible apply St.alloc) | (with_reducible apply St.set0) | (with_reducible apply St.set1) | (with_reducible apply St.set2) | (with_reducible apply St.set3) | (with_reducible apply St.drew) | (with_reducible apply St.drewN))); all_goals (try (first | rfl | (simp; done)))))) (by rw [List.length_drop]; simp; have := HE6.out; omega) ?_
          intro A3 c3 w3 F3 hS
          rw [List.nil_append] at hS
          have HS3 := hide hS
          clear z0 z1 zf zz x0 x1 x2 xf xz y0 y1 y2 yf yz
          obtain ⟨z0, z1⟩ := hS.at1.c2
          obtain ⟨x0, x1, x2⟩ := hS.at3.c3
          have xf := hS.at3.frozen
          have xz := hS.at3.lt
          clear hS)
        all_goals
          go_wp2_with fail
          refine bodyPost_ret (v := .tuple #[.agg #[.int .i64 (reL h.base (h.events.take k)).next, .slice G1 (reL h.base (h.events.take k)).messages.length g1, .slice A3 (h.events.drop k).length c3], .bool true]) (by simp [results, Tryz.results5, go_sem, x0, x1, x2, xf, xz, Nat.sub_eq_zero_of_le hlc]) rfl ?_
          rw [fgV_yes HOK.out, HOK.out]
          exact St.ret2 (cs := [.int .i64 (reL h.base (h.events.take k)).next, .slice G1 (reL h.base (h.events.take k)).messages.length g1, .slice A3 (h.events.drop k).length c3]) (F := F ++ F3) (St.hist (x := ⟨reL h.base (h.events.take k), h.events.drop k⟩) (show St w _ (_ :: _ :: blk w2.heap.size #[.int .i64 (reL h.base (h.events.take k)).next, .slice G1 (reL h.base (h.events.take k)).messages.length g1] 31 :: blk (w.heap.size + 1) #[.int .i64 (reL h.base (h.events.take k)).next, .slice G1 (reL h.base (h.events.take k)).messages.length g1, .slice A3 (h.events.drop k).length c3] 34 :: [blk w.heap.size #[.int .i64 h.base.next, .slice A h.base.messages.length c, .slice A2 h.events.length c2] 34]) from by (repeat (first | (with_reducible exact HS3.out.pull2.pull1) | (with_reducible apply St.alloc) | (with_reducible apply St.set0) | (with_reducible apply St.set1) | (with_reducible apply St.set2) | (with_reducible apply St.set3) | (with_reducible apply St.drew) | (with_reducible apply St.drewN))); all_goals (try (first | rfl | (simp; done))))) rfl
    · have HN := hide (show inB n 0 h.events.length = false by simpa using hn)
      have HOK := hide (show fgOk h n = false by simp [fgOk, HN.out])
      clear hh hn
      go_enter Tryz.func5, Tryz.ntmps5
      go_wp2_with (first
        | (go_at_call 13
           refine (l07Is_c h _ _ _ (HBX.out.below (show Below (w.alloc (.cells #[.int .i64 h.base.next, .slice A h.base.messages.length c, .slice A2 h.events.length c2] 34)).heap.size (w.alloc (.cells #[.int .i64 h.base.next, .slice A h.base.messages.length c, .slice A2 h.events.length c2] 34)) _ from (Below.refl _ _).alloc (Nat.le_refl _) _)) HT.out).mono ?_
           rintro e w1 ⟨rfl, hb⟩
           rw [HH.out]
           have HS1 := hide (HS0.out.by hb)
           have HP1 := hide ((HBX.out.below ((Below.refl _ _).alloc (Nat.le_refl _) (.cells #[.int .i64 0, .slice none 0 0, .slice none 0 0] 34))).below hb)
           (try clear x0 x1 x2 xf xz y0 y1 y2 yf yz)
           obtain ⟨x0, x1, x2⟩ := HS1.out.at0.c3
           have xf := HS1.out.at0.frozen
           have xz := HS1.out.at0.lt
           obtain ⟨y0, y1, y2⟩ := HS1.out.at1.c3
           have yf := HS1.out.at1.frozen
           have yz := HS1.out.at1.lt
           clear hb)
        | (go_at_call 14; refine (l00In_c _ _ _ _).mono ?_; rintro e w' ⟨rfl, rfl⟩; rw [HN.out]))
      refine bodyPost_ret (v := .tuple #[.agg #[.int .i64 0, .slice none 0 0, .slice none 0 0], .bool false]) (by simp [results, Tryz.results5, go_sem, x0, x1, x2, xf, xz]) rfl ?_
      rw [fgV_no HOK.out, HOK.out]
      exact St.ret2 (cs := [.int .i64 0, .slice none 0 0, .slice none 0 0]) (F := []) (St.noHist (by (repeat (first | (with_reducible exact HS1.out) | (with_reducible apply St.alloc) | (with_reducible apply St.set0) | (with_reducible apply St.set1) | (with_reducible apply St.set2) | (with_reducible apply St.set3) | (with_reducible apply St.drew) | (with_reducible apply St.drewN))); all_goals (try (first | rfl | (simp; done))))) rfl
  · have HH := hide (show histB h = false by simpa using hh)
    have HOK := hide (show fgOk h n = false by simp [fgOk, HH.out])
    clear hh
    go_enter Tryz.func5, Tryz.ntmps5
    go_wp2_with (go_at_call 13
                 refine (l07Is_c h _ _ _ (HBX.out.below (show Below (w.alloc (.cells #[.int .i64 h.base.next, .slice A h.base.messages.length c, .slice A2 h.events.length c2] 34)).heap.size (w.alloc (.cells #[.int .i64 h.base.next, .slice A h.base.messages.length c, .slice A2 h.events.length c2] 34)) _ from (Below.refl _ _).alloc (Nat.le_refl _) _)) HT.out).mono ?_
                 rintro e w1 ⟨rfl, hb⟩
                 rw [HH.out]
                 have HS1 := hide (HS0.out.by hb)
                 have HP1 := hide ((HBX.out.below ((Below.refl _ _).alloc (Nat.le_refl _) (.cells #[.int .i64 0, .slice none 0 0, .slice none 0 0] 34))).below hb)
                 (try clear x0 x1 x2 xf xz y0 y1 y2 yf yz)
                 obtain ⟨x0, x1, x2⟩ := HS1.out.at0.c3
                 have xf := HS1.out.at0.frozen
                 have xz := HS1.out.at0.lt
                 obtain ⟨y0, y1, y2⟩ := HS1.out.at1.c3
                 have yf := HS1.out.at1.frozen
                 have yz := HS1.out.at1.lt
                 clear hb)
    refine bodyPost_ret (v := .tuple #[.agg #[.int .i64 0, .slice none 0 0, .slice none 0 0], .bool false]) (by simp [results, Tryz.results5, go_sem, x0, x1, x2, xf, xz]) rfl ?_
    rw [fgV_no HOK.out, HOK.out]
    exact St.ret2 (cs := [.int .i64 0, .slice none 0 0, .slice none 0 0]) (F := []) (St.noHist (by (repeat (first | (with_reducible exact HS1.out) | (with_reducible apply St.alloc) | (with_reducible apply St.set0) | (with_reducible apply St.set1) | (with_reducible apply St.set2) | (with_reducible apply St.set3) | (with_reducible apply St.drew) | (with_reducible apply St.drewN))); all_goals (try (first | rfl | (simp; done))))) rfl
end Go.Proofs.YtodmongmaoeknaaGreat
