/- Parcels are taken out of a box: the reference. -/
import Derived.Test.YtdmhjfajicclaaaTake
import Derived.Test.YtdmhjfajicclaaaRetSpec
import Derived.Deep.RegionLaw
import Derived.Deep.RegionWith
import Derived.Deep.CutRange
import Derived.Deep.DrawnRows
namespace Go.Proofs.Ytdmhjfajicclaaa
open Go Go.RowKit Go.BigFrame
set_option linter.unusedVariables false
set_option linter.unusedSimpArgs false
attribute [local go_sem ↓] Go.wp_at_zero Go.wp_at_succ
/-- Boxes with the same tokens, each right, are right boxes. -/
theorem adj_same {lim lim' : Int} {xs ys : List Box} (h : adjB (boxF lim) none xs = true) (hl : ys.length = xs.length) (hy : ∀ (j : Nat) (x y : Box), xs[j]? = some x → ys[j]? = some y → y.token = x.token ∧ boxOkB lim' y = true) : adjB (boxF lim') none ys = true := by
  rw [adjB_iff] at h ⊢
  intro j y hj
  have hjl := (List.getElem?_eq_some_iff.1 hj).1
  obtain ⟨x, hx⟩ : ∃ x, xs[j]? = some x := ⟨_, List.getElem?_eq_getElem (by omega)⟩
  obtain ⟨e1, e2⟩ := hy j x y hx hj
  have h2 := h j x hx
  by_cases h0 : j = 0
  · rw [if_pos h0]; exact boxF_none e2
  · rw [if_neg h0] at h2 ⊢
    obtain ⟨x', hx'⟩ : ∃ x, xs[j - 1]? = some x := ⟨_, List.getElem?_eq_getElem (by omega)⟩
    obtain ⟨y', hy'⟩ : ∃ y, ys[j - 1]? = some y := ⟨_, List.getElem?_eq_getElem (by omega)⟩
    rw [hx'] at h2
    rw [hy']
    simp only [boxF, Bool.and_eq_true] at h2
    exact boxF_some e2 (by rw [e1, (hy _ _ _ hx' hy').1]; exact h2.2)
theorem inB_mk {n a b : Int} (h : a ≤ n) (h2 : n ≤ b) : inB n a b = true := inB_iff.2 ⟨h, h2⟩
theorem tkB_ok {lim : Int} {k : Nat} {m : Box} (h : boxOkB lim m = true) : boxOkB lim (tkB k m) = true := by
  simp only [boxOkB, parsOkB, Bool.and_eq_true, decide_eq_true_eq, List.all_eq_true] at h ⊢
  refine ⟨⟨⟨⟨h.1.1.1.1, h.1.1.1.2⟩, inB_mk (n := 0) (Int.le_refl 0) (by decide)⟩, ?_, fun x hx => h.1.2.2 x (List.mem_of_mem_drop hx)⟩, ?_⟩
  · show ((m.held.drop k).length : Int) ≤ 64
    rw [List.length_drop]; have := h.1.2.1; omega
  · show ((m.held.drop k).length : Int) ≤ lim
    rw [List.length_drop]; have := h.2; omega
theorem tk_valid {p : Post} {t : ByteArray} {n : Int} (hv : validPostB p = true) : validPostB (tkF t n p).1 = true := by
  have h := hv
  simp only [validPostB, Bool.and_eq_true, decide_eq_true_eq] at h ⊢
  show (inB p.limit 1 64 = true ∧ ((tkBs t n p.boxes).length : Int) ≤ 32) ∧ adjB (boxF p.limit) none (tkBs t n p.boxes) = true
  unfold tkBs
  split
  · rename_i m hm
    refine ⟨⟨h.1.1, by rw [List.length_set]; exact h.1.2⟩, adj_same h.2 (List.length_set ..) fun j x y hx hy => ?_⟩
    rw [List.getElem?_set] at hy
    split at hy
    · rename_i e
      subst e
      rw [if_pos (List.getElem?_eq_some_iff.1 hx).1] at hy
      rw [hm] at hx
      cases hx; cases hy
      exact ⟨rfl, tkB_ok (boxes_ok hv m (List.mem_of_getElem? hm))⟩
    · rw [hx] at hy; cases hy
      exact ⟨rfl, boxes_ok hv x (List.mem_of_getElem? hx)⟩
  · exact ⟨⟨h.1.1, h.1.2⟩, h.2⟩
theorem l00Min_c (a b : Int) (w : World) : Calls Try.prog 38 #[.int .i64 a, .int .i64 b] w fun e w' => e = .returned (.int .i64 (min a b)) ∧ w = w' := by
  by_cases h : a < b
  · have hm : min a b = a := by omega
    have HM := hide hm
    clear hm
    go_enter Try.func38, Try.ntmps38
    go_wp2
    go_ret
    exact ⟨by rw [HM.out]; rfl, rfl⟩
  · have hm : min a b = b := by omega
    have HM := hide hm
    have hd : decide (a < b) = false := decide_eq_false h
    clear hm
    go_enter Try.func38, Try.ntmps38
    go_wp2
    go_ret
    exact ⟨by rw [HM.out]; rfl, rfl⟩
set_option maxHeartbeats 8000000 in
set_option maxRecDepth 100000 in
theorem specTakeFrom_c (p : Post) (t : ByteArray) (n : Int) (v1 : Value) (w : World) (h1 : SliceK boxD w v1 p.boxes) (ht : okPost p) :
    Calls Try.prog 14 #[.agg #[.int .i64 p.limit, v1], .string t, .int .i64 n] w (RetTk w (tkV p t n) (tkVL p t n) (tkVM p t n) (tkOk p t n)) := by
  obtain ⟨A1, c1, rfl⟩ := h1.shape
  have H1 := hide h1
  have HT := hide ht
  clear h1 ht
  have HS0 := hide (show St w ((w.alloc (.cells #[.int .i64 p.limit, .slice A1 p.boxes.length c1] 28)).alloc (.cells #[.int .i64 0, .slice none 0 0] 28)) (blk (w.heap.size + 1) #[.int .i64 0, .slice none 0 0] 28 :: [blk w.heap.size #[.int .i64 p.limit, .slice A1 p.boxes.length c1] 28]) by (repeat (first | (with_reducible exact St.start w) | (with_reducible apply St.alloc) | (with_reducible apply St.set0) | (with_reducible apply St.set1) | (with_reducible apply St.set2) | (with_reducible apply St.set3) | (with_reducible apply St.drew) | (with_reducible apply St.drewN))); all_goals (try (first | rfl | (simp; done))))
  (try clear x0 x1 xf xz)
  obtain ⟨x0, x1⟩ := HS0.out.at0.c2
  have xf := HS0.out.at0.frozen
  have xz := HS0.out.at0.lt
  obtain ⟨y0, y1⟩ := HS0.out.at1.c2
  have yz := HS0.out.at1.lt
  by_cases hv : validPostB p = true
  · have HV := hide hv
    have HR := hide (rises_valid hv)
    have HFEW := hide (fewP_of hv)
    have hlen := (fewP_of hv).1
    by_cases hi : hasT Box.token p.boxes t = true
    · have HI := hide hi
      by_cases hp : inB n 0 64 = true
      · have HN := hide hp
        have HOK := hide (show tkOk p t n = true by unfold tkOk chpOk; rw [hv, tk_valid hv, show (tkF t n p).2 = true by simp [tkF, hi, hp]]; rfl)
        have HPV := hide (show tkV p t n = (tkF t n p).1 by unfold tkV; exact chP_yes HOK.out)
        have HL := hide (show tkVL p t n = tkL t n p by unfold tkVL; rw [if_pos HOK.out])
        have HMI := hide (show tkVM p t n = tkM t p by unfold tkVM; rw [if_pos HOK.out])
        have hpos0 : ¬ idxP (tokIs t) p.boxes < 0 := by
          rw [idx_has, decide_eq_true_iff] at hi; omega
        obtain ⟨i, m, hxi, hil, hm, hmt⟩ := idxP_found (by omega : 0 ≤ idxP (tokIs t) p.boxes)
        have HXI := hide hxi
        have HM := hide (And.intro hm hmt)
        have hpos : ¬ ((i : Int) < 0) := by omega
        clear hv hi hp hxi hm hmt hpos0
        go_enter Try.func14, Try.ntmps14
        go_wp2_with (first
          | (go_at_call 26
             refine (l04Is_c p _ _ _ (Blk.rowAt (d := postD) (x := p) (St.at1 HS0.out) (post_K_mk (H1.out.below HS0.out.below)) rfl) HT.out).mono ?_
             rintro e w1 ⟨rfl, hb⟩
             rw [HV.out]
             have HS1 := hide (HS0.out.by hb)
             (try clear x0 x1 xf xz)
             obtain ⟨x0, x1⟩ := HS1.out.at0.c2
             have xf := HS1.out.at0.frozen
             have xz := HS1.out.at0.lt
             obtain ⟨y0, y1⟩ := HS1.out.at1.c2
             have yz := HS1.out.at1.lt
             clear hb)
          | (go_at_call 27; refine (l04Find_c p _ _ t _ (Blk.rowAt (d := postD) (x := p) (St.at1 HS1.out) (post_K_mk (H1.out.below HS1.out.below)) rfl)).mono ?_; rintro e w' ⟨rfl, rfl⟩; rw [HXI.out])
          | (go_at_call 37; refine (l00In_c _ _ _ _).mono ?_; rintro e w' ⟨rfl, rfl⟩; rw [HN.out])
          | (go_at_call 28
             refine (l04Copy_c p _ _ _ (Blk.rowAt (d := postD) (x := p) (St.at1 HS1.out) (post_K_mk (H1.out.below HS1.out.below)) rfl) HFEW.out).mono ?_
             rintro e w2 he
             obtain ⟨cs, F, rfl, hK, hb, hS⟩ := HS1.out.elem he
             obtain ⟨u1, rfl, k1⟩ := post_K hK
             obtain ⟨B1, e1, rfl⟩ := k1.shape
             obtain ⟨rs, F1, Fs, hrl, hP⟩ := hS.postParts
             have HPP := hide hP
             have HRL := hide hrl
             (try clear x0 x1 xf xz)
             obtain ⟨x0, x1⟩ := (St.at2 hP).c2
             have xf := (St.at2 hP).frozen
             have xz := (St.at2 hP).lt
             (try clear y0 y1 yz)
             obtain ⟨y0, y1⟩ := (St.at3 hP).c2
             have yz := (St.at3 hP).lt
             clear hK k1 hb hS he hrl hP))
        clear hpos
        obtain ⟨A3, c3, G3, Fs3, hr, hS3⟩ := (St.pull1 HPP.out).boxCut HM.out.1
        have hrl := HRL.out
        obtain ⟨⟨q, rfl⟩, -, -⟩ := St.hasBlk (d := rawD 4) rfl HPP.out hr
        have HRI := hide hr
        have hii : (i : Int) < (p.boxes.length : Int) := by omega
        have hin : (0 : Int) ≤ (i : Int) := by omega
        clear hr hS3 hrl
        go_cut [11, 33] from 29 to 33 (fun s11 s33 w' => s11 = .pointer (some ⟨q, i * 4, none⟩) ∧ Hid (St w w' (blk w2.heap.size #[.int .i64 p.limit, .slice (some ⟨q, 0, none⟩) p.boxes.length e1] 28 :: own (rawD 4) 53 (.slice (some ⟨q, 0, none⟩) p.boxes.length e1) rs F1 :: heldsP boxD p.boxes rs Fs :: blk (w.heap.size + 1) #[.int .i64 0, .slice none 0 0] 28 :: [blk w.heap.size #[.int .i64 p.limit, .slice A1 p.boxes.length c1] 28])))
        case first =>
          go_region_with ((go_at_call 27; refine (l04Find_c p _ _ t _ (Blk.rowAt (d := postD) (x := p) (St.at3 (St.drop (show St w _ (_ :: _ :: _ :: _ :: [_]) from by (repeat (first | (with_reducible exact HPP.out) | (with_reducible apply St.alloc) | (with_reducible apply St.set0) | (with_reducible apply St.set1) | (with_reducible apply St.set2) | (with_reducible apply St.set3) | (with_reducible apply St.drew) | (with_reducible apply St.drewN))); all_goals (try (first | rfl | (simp; done)))))) (post_K_mk (H1.out.below (St.below (show St w _ (_ :: _ :: _ :: _ :: [_]) from by (repeat (first | (with_reducible exact HPP.out) | (with_reducible apply St.alloc) | (with_reducible apply St.set0) | (with_reducible apply St.set1) | (with_reducible apply St.set2) | (with_reducible apply St.set3) | (with_reducible apply St.drew) | (with_reducible apply St.drewN))); all_goals (try (first | rfl | (simp; done))))))) rfl)).mono ?_; rintro e w' ⟨rfl, rfl⟩; rw [HXI.out]))
          all_goals
            go_wp2_with fail
            go_meet
            case rel => exact ⟨by first | rfl | (simp [Act.eval, Act.put]; done), hide (by (repeat (first | (with_reducible exact HPP.out) | (with_reducible apply St.alloc) | (with_reducible apply St.set0) | (with_reducible apply St.set1) | (with_reducible apply St.set2) | (with_reducible apply St.set3) | (with_reducible apply St.drew) | (with_reducible apply St.drewN))); all_goals (try (first | rfl | (simp; done))))⟩
        case rest =>
          clear HPP x0 x1 xf xz y0 y1 yz
          obtain ⟨rfl, HX⟩ := hcut
          obtain ⟨A3, c3, G3, Fs3, hr, hS3⟩ := (St.pull2 HX.out).boxCut HM.out.1
          have hQ := St.pull3 hS3
          rw [← HRL.out] at hQ
          clear HRI
          have HRI := hide hr
          have hh64 : m.held.length ≤ 64 := (box_parts (boxes_ok HV.out m (List.mem_of_getElem? HM.out.1))).2
          obtain ⟨j, hj⟩ : ∃ j, j = tkN n m := ⟨_, rfl⟩
          have HJ := hide hj
          have HLB := hide (show isLbT Box.token p.boxes t i from by
            obtain ⟨x, hx, hxt⟩ := (lb_is HR.out).found HR.out HI.out
            have h3 := only_one HR.out hx hxt i m HM.out.1 (tokIs_iff.1 HM.out.2)
            rw [h3]; exact lb_is HR.out)
          obtain ⟨hn0, hn1⟩ := inB_iff.1 HN.out
          have hjl : j ≤ m.held.length := by rw [hj]; exact Nat.min_le_right _ _
          have HMN := hide (show min n (m.held.length : Int) = (j : Int) by rw [hj]; unfold tkN; omega)
          have hlc : m.held.length ≤ c3 := by obtain ⟨A2, c2, hv, h2, h3, _⟩ := (St.pull1 hQ).toK; simp only [Value.slice.injEq] at hv; omega
          have hj0 : (0 : Int) ≤ (j : Int) := by omega
          have hlim : IntKind.i64.wrap (j : Int) = (j : Int) := IntWalk.i64_in _ (by omega)
          have hjc : (j : Int) ≤ (c3 : Int) := by omega
          have hkl : i < rs.length := (List.getElem?_eq_some_iff.1 hr).1
          obtain ⟨q0, q1, q2, q3, qf, qz⟩ := hQ.rawBox hr
          have hfk := SliceK.front (St.pull1 hQ).toK hjl
          by_cases hck : c3 = j
          · replace hck := hck.symm
            subst hck
            have HBK := hide (show SliceK parcelD wc (.slice A3 (m.held.length - j) 0) (m.held.drop j) by
              have h2 := SliceK.back (St.pull1 hQ).toK hjl
              rw [if_pos rfl, Nat.sub_self] at h2
              exact h2)
            have HFK := hide hfk
            have HQ := hide hQ
            clear hQ HX hS3 hr hj hfk hn0 hn1 hlc
            go_wp2_with (first
              | (go_at_call 38; refine (l00Min_c _ _ _).mono ?_; rintro e w' ⟨rfl, rfl⟩; rw [HMN.out])
              | (at_builtin
                 have hx := HS5
                 refine wpList_copy_st (d := parcelD) rfl (w0 := w) (L := own parcelD 68 (.slice A5 (m.held.take j).length c5) (m.held.take j) F5 :: own (rawD 4) 53 (.slice (some ⟨q, 0, none⟩) rs.length e1) rs F1 :: own parcelD 68 (.slice A3 m.held.length j) m.held G3 :: heldsP boxD (p.boxes.take i ++ p.boxes.drop (i + 1)) (rs.take i ++ rs.drop (i + 1)) Fs3 :: blk w2.heap.size #[.int .i64 p.limit, .slice (some ⟨q, 0, none⟩) rs.length e1] 28 :: blk (w.heap.size + 1) #[.int .i64 0, .slice none 0 0] 28 :: [blk w.heap.size #[.int .i64 p.limit, .slice A1 rs.length c1] 28]) _ rfl _ _ _ rfl (.agg #[.int .i64 0, .int .i64 0]) 16 Try.underlying35 infoParcel rfl (by omega) (by omega) _ rfl (by (repeat (first | (with_reducible exact HS5.out) | (with_reducible apply St.alloc) | (with_reducible apply St.set0) | (with_reducible apply St.set1) | (with_reducible apply St.set2) | (with_reducible apply St.set3) | (with_reducible apply St.drew) | (with_reducible apply St.drewN))); all_goals (try (first | rfl | (simp; done)))) _ _ _ (m.held.drop j) rfl (by rw [List.length_drop]; try omega) (HBK5.out.below ((Below.refl _ _).alloc (Nat.le_refl _) _)) (by rw [List.length_drop]; omega) ?_
                 intro A2 c2 w6 G2 hch hS
                 have HS6 := hide (St.drop3 (St.pull2 hS))
                 obtain ⟨q0, q1, q2, q3, qf, qz⟩ := HS6.out.rawBox HRI.out
                 obtain ⟨x0, x1⟩ := (St.at1 (St.drop (St.drop (St.drop HS6.out)))).c2
                 have xz := (St.at1 (St.drop (St.drop (St.drop HS6.out)))).lt
                 obtain ⟨y0, y1⟩ := (St.at2 (St.drop (St.drop (St.drop HS6.out)))).c2
                 have yf := (St.at2 (St.drop (St.drop (St.drop HS6.out)))).frozen
                 have yz := (St.at2 (St.drop (St.drop (St.drop HS6.out)))).lt
                 obtain ⟨xn1, xn2⟩ := St.apart (d := rawD 4) rfl (St.pull4 HS6.out)
                 obtain ⟨yn1, yn2⟩ := St.apart (d := rawD 4) rfl (St.pull5 HS6.out)
                 clear hch hS)
              | (at_builtin
                 refine wpList_copy_st (d := parcelD) rfl (w0 := w) (L := own (rawD 4) 53 (.slice (some ⟨q, 0, none⟩) rs.length e1) rs F1 :: own parcelD 68 (.slice A3 m.held.length j) m.held G3 :: heldsP boxD (p.boxes.take i ++ p.boxes.drop (i + 1)) (rs.take i ++ rs.drop (i + 1)) Fs3 :: blk w2.heap.size #[.int .i64 p.limit, .slice (some ⟨q, 0, none⟩) rs.length e1] 28 :: blk (w.heap.size + 1) #[.int .i64 0, .slice none 0 0] 28 :: [blk w.heap.size #[.int .i64 p.limit, .slice A1 rs.length c1] 28]) _ rfl _ _ _ rfl (.agg #[.int .i64 0, .int .i64 0]) 16 Try.underlying35 infoParcel rfl (by omega) (by omega) _ rfl (by (repeat (first | (with_reducible exact HQ.out) | (with_reducible apply St.alloc) | (with_reducible apply St.set0) | (with_reducible apply St.set1) | (with_reducible apply St.set2) | (with_reducible apply St.set3) | (with_reducible apply St.drew) | (with_reducible apply St.drewN))); all_goals (try (first | rfl | (simp; done)))) _ _ _ (m.held.take j) rfl (by rw [List.length_take]; omega) (HFK.out.below ((Below.refl _ _).alloc (Nat.le_refl _) _)) (by rw [List.length_take]; omega) ?_
                 intro A5 c5 w5 F5 hch hS
                 have HS5 := hide hS
                 have HBK5 := hide (HBK.out.below (((Below.refl _ wc).alloc (Nat.le_refl _) _).trans (hch.below (by simp) (by simp))))
                 clear q0 q1 q2 q3 qf qz
                 obtain ⟨q0, q1, q2, q3, qf, qz⟩ := (St.drop hS).rawBox HRI.out
                 clear hch hS))
            have hD2 := (List.length_drop : (m.held.drop j).length = m.held.length - j)
            have h9 : St w ((w6.setCell ⟨q, i * 4 + 3, none⟩ (.slice A2 (m.held.drop j).length c2)).setCell ⟨q, i * 4 + 2, none⟩ (.int .i64 0)) _ := St.setMissed (A := A2) (n := (m.held.drop j).length) (c3 := c2) (m := { m with held := m.held.drop j }) (m' := tkB j m) (St.setHeld (A2 := A2) (n2 := (m.held.drop j).length) (c2 := c2) (m' := { m with held := m.held.drop j }) HS6.out HRI.out rfl ⟨rfl, rfl, rfl⟩) hkl rfl ⟨rfl, rfl⟩
            obtain ⟨Fs', h4⟩ := St.boxBack (y := tkB j m) (A := A2) (c := c2) (St.pull3 (St.pull1 h9)).pull1 hil HRL.out
            refine bodyPost_ret (v := .tuple #[.agg #[.int .i64 p.limit, .slice (some ⟨q, 0, none⟩) rs.length e1], .slice A5 (m.held.take j).length c5, .int .i64 m.missed, .bool true]) (by simp [results, Try.results14, go_sem, y0, y1, yf, yz]; omega) rfl ?_
            obtain ⟨F7, h5⟩ := St.post (p := { p with boxes := p.boxes.take i ++ tkB j m :: p.boxes.drop (i + 1) }) (St.pull1 h4)
            have h6 := HLB
            obtain ⟨e1', e2, e3⟩ := tkF_at (n := n) HR.out h6.out HM.out.1
            rw [HPV.out, HL.out, HMI.out, HOK.out, e1', e2, e3, ← HJ.out, ← hD2]
            exact ⟨_, F7, _, F5, rfl, St.left (M := [_, _]) (show St w _ (ownD postD _ [.int .i64 p.limit, .slice (some ⟨q, 0, none⟩) rs.length e1] F7 :: own parcelD 68 (.slice A5 (m.held.take j).length c5) (m.held.take j) F5 :: blk w2.heap.size #[.int .i64 p.limit, .slice (some ⟨q, 0, none⟩) rs.length e1] 28 :: blk (w.heap.size + 1) #[.int .i64 p.limit, .slice (some ⟨q, 0, none⟩) rs.length e1] 28 :: [_]) from by (repeat (first | (with_reducible exact h5) | (with_reducible apply St.alloc) | (with_reducible apply St.set0) | (with_reducible apply St.set1) | (with_reducible apply St.set2) | (with_reducible apply St.set3) | (with_reducible apply St.drew) | (with_reducible apply St.drewN))); all_goals (try (first | rfl | (simp; done))))⟩
          · have hb2 := SliceK.back (St.pull1 hQ).toK hjl
            rw [if_neg hck] at hb2
            have HBK := hide hb2
            have HFK := hide hfk
            have HQ := hide hQ
            clear hQ HX hS3 hr hj hfk hb2 hn0 hn1 hlc
            go_wp2_with (first
              | (go_at_call 38; refine (l00Min_c _ _ _).mono ?_; rintro e w' ⟨rfl, rfl⟩; rw [HMN.out])
              | (at_builtin
                 have hx := HS5
                 refine wpList_copy_st (d := parcelD) rfl (w0 := w) (L := own parcelD 68 (.slice A5 (m.held.take j).length c5) (m.held.take j) F5 :: own (rawD 4) 53 (.slice (some ⟨q, 0, none⟩) rs.length e1) rs F1 :: own parcelD 68 (.slice A3 m.held.length c3) m.held G3 :: heldsP boxD (p.boxes.take i ++ p.boxes.drop (i + 1)) (rs.take i ++ rs.drop (i + 1)) Fs3 :: blk w2.heap.size #[.int .i64 p.limit, .slice (some ⟨q, 0, none⟩) rs.length e1] 28 :: blk (w.heap.size + 1) #[.int .i64 0, .slice none 0 0] 28 :: [blk w.heap.size #[.int .i64 p.limit, .slice A1 rs.length c1] 28]) _ rfl _ _ _ rfl (.agg #[.int .i64 0, .int .i64 0]) 16 Try.underlying35 infoParcel rfl (by omega) (by omega) _ rfl (by (repeat (first | (with_reducible exact HS5.out) | (with_reducible apply St.alloc) | (with_reducible apply St.set0) | (with_reducible apply St.set1) | (with_reducible apply St.set2) | (with_reducible apply St.set3) | (with_reducible apply St.drew) | (with_reducible apply St.drewN))); all_goals (try (first | rfl | (simp; done)))) _ _ _ (m.held.drop j) rfl (by rw [List.length_drop]; try omega) (HBK5.out.below ((Below.refl _ _).alloc (Nat.le_refl _) _)) (by rw [List.length_drop]; omega) ?_
                 intro A2 c2 w6 G2 hch hS
                 have HS6 := hide (St.drop3 (St.pull2 hS))
                 obtain ⟨q0, q1, q2, q3, qf, qz⟩ := HS6.out.rawBox HRI.out
                 obtain ⟨x0, x1⟩ := (St.at1 (St.drop (St.drop (St.drop HS6.out)))).c2
                 have xz := (St.at1 (St.drop (St.drop (St.drop HS6.out)))).lt
                 obtain ⟨y0, y1⟩ := (St.at2 (St.drop (St.drop (St.drop HS6.out)))).c2
                 have yf := (St.at2 (St.drop (St.drop (St.drop HS6.out)))).frozen
                 have yz := (St.at2 (St.drop (St.drop (St.drop HS6.out)))).lt
                 obtain ⟨xn1, xn2⟩ := St.apart (d := rawD 4) rfl (St.pull4 HS6.out)
                 obtain ⟨yn1, yn2⟩ := St.apart (d := rawD 4) rfl (St.pull5 HS6.out)
                 clear hch hS)
              | (at_builtin
                 refine wpList_copy_st (d := parcelD) rfl (w0 := w) (L := own (rawD 4) 53 (.slice (some ⟨q, 0, none⟩) rs.length e1) rs F1 :: own parcelD 68 (.slice A3 m.held.length c3) m.held G3 :: heldsP boxD (p.boxes.take i ++ p.boxes.drop (i + 1)) (rs.take i ++ rs.drop (i + 1)) Fs3 :: blk w2.heap.size #[.int .i64 p.limit, .slice (some ⟨q, 0, none⟩) rs.length e1] 28 :: blk (w.heap.size + 1) #[.int .i64 0, .slice none 0 0] 28 :: [blk w.heap.size #[.int .i64 p.limit, .slice A1 rs.length c1] 28]) _ rfl _ _ _ rfl (.agg #[.int .i64 0, .int .i64 0]) 16 Try.underlying35 infoParcel rfl (by omega) (by omega) _ rfl (by (repeat (first | (with_reducible exact HQ.out) | (with_reducible apply St.alloc) | (with_reducible apply St.set0) | (with_reducible apply St.set1) | (with_reducible apply St.set2) | (with_reducible apply St.set3) | (with_reducible apply St.drew) | (with_reducible apply St.drewN))); all_goals (try (first | rfl | (simp; done)))) _ _ _ (m.held.take j) rfl (by rw [List.length_take]; omega) (HFK.out.below ((Below.refl _ _).alloc (Nat.le_refl _) _)) (by rw [List.length_take]; omega) ?_
                 intro A5 c5 w5 F5 hch hS
                 have HS5 := hide hS
                 have HBK5 := hide (HBK.out.below (((Below.refl _ wc).alloc (Nat.le_refl _) _).trans (hch.below (by simp) (by simp))))
                 clear q0 q1 q2 q3 qf qz
                 obtain ⟨q0, q1, q2, q3, qf, qz⟩ := (St.drop hS).rawBox HRI.out
                 clear hch hS))
            have hD2 := (List.length_drop : (m.held.drop j).length = m.held.length - j)
            have h9 : St w ((w6.setCell ⟨q, i * 4 + 3, none⟩ (.slice A2 (m.held.drop j).length c2)).setCell ⟨q, i * 4 + 2, none⟩ (.int .i64 0)) _ := St.setMissed (A := A2) (n := (m.held.drop j).length) (c3 := c2) (m := { m with held := m.held.drop j }) (m' := tkB j m) (St.setHeld (A2 := A2) (n2 := (m.held.drop j).length) (c2 := c2) (m' := { m with held := m.held.drop j }) HS6.out HRI.out rfl ⟨rfl, rfl, rfl⟩) hkl rfl ⟨rfl, rfl⟩
            obtain ⟨Fs', h4⟩ := St.boxBack (y := tkB j m) (A := A2) (c := c2) (St.pull3 (St.pull1 h9)).pull1 hil HRL.out
            refine bodyPost_ret (v := .tuple #[.agg #[.int .i64 p.limit, .slice (some ⟨q, 0, none⟩) rs.length e1], .slice A5 (m.held.take j).length c5, .int .i64 m.missed, .bool true]) (by simp [results, Try.results14, go_sem, y0, y1, yf, yz]; omega) rfl ?_
            obtain ⟨F7, h5⟩ := St.post (p := { p with boxes := p.boxes.take i ++ tkB j m :: p.boxes.drop (i + 1) }) (St.pull1 h4)
            have h6 := HLB
            obtain ⟨e1', e2, e3⟩ := tkF_at (n := n) HR.out h6.out HM.out.1
            rw [HPV.out, HL.out, HMI.out, HOK.out, e1', e2, e3, ← HJ.out, ← hD2]
            exact ⟨_, F7, _, F5, rfl, St.left (M := [_, _]) (show St w _ (ownD postD _ [.int .i64 p.limit, .slice (some ⟨q, 0, none⟩) rs.length e1] F7 :: own parcelD 68 (.slice A5 (m.held.take j).length c5) (m.held.take j) F5 :: blk w2.heap.size #[.int .i64 p.limit, .slice (some ⟨q, 0, none⟩) rs.length e1] 28 :: blk (w.heap.size + 1) #[.int .i64 p.limit, .slice (some ⟨q, 0, none⟩) rs.length e1] 28 :: [_]) from by (repeat (first | (with_reducible exact h5) | (with_reducible apply St.alloc) | (with_reducible apply St.set0) | (with_reducible apply St.set1) | (with_reducible apply St.set2) | (with_reducible apply St.set3) | (with_reducible apply St.drew) | (with_reducible apply St.drewN))); all_goals (try (first | rfl | (simp; done))))⟩
      · have HN := hide (show inB n 0 64 = false by simpa using hp)
        have HOK := hide (show tkOk p t n = false by simp [tkOk, chpOk, tkF, HN.out])
        have HP := hide (show tkV p t n = noPost by unfold tkV; exact chP_no HOK.out)
        have HL := hide (show tkVL p t n = [] by unfold tkVL; rw [HOK.out]; rfl)
        have HM := hide (show tkVM p t n = 0 by unfold tkVM; rw [HOK.out]; rfl)
        have hpos : ¬ idxP (tokIs t) p.boxes < 0 := by
          rw [idx_has, decide_eq_true_iff] at hi; omega
        clear hv hi hp
        go_enter Try.func14, Try.ntmps14
        go_wp2_with (first
          | (go_at_call 26
             refine (l04Is_c p _ _ _ (Blk.rowAt (d := postD) (x := p) (St.at1 HS0.out) (post_K_mk (H1.out.below HS0.out.below)) rfl) HT.out).mono ?_
             rintro e w1 ⟨rfl, hb⟩
             rw [HV.out]
             have HS1 := hide (HS0.out.by hb)
             (try clear x0 x1 xf xz)
             obtain ⟨x0, x1⟩ := HS1.out.at0.c2
             have xf := HS1.out.at0.frozen
             have xz := HS1.out.at0.lt
             obtain ⟨y0, y1⟩ := HS1.out.at1.c2
             have yz := HS1.out.at1.lt
             clear hb)
          | (go_at_call 27; refine (l04Find_c p _ _ t _ (Blk.rowAt (d := postD) (x := p) (St.at1 HS1.out) (post_K_mk (H1.out.below HS1.out.below)) rfl)).mono ?_; rintro e w' ⟨rfl, rfl⟩)
          | (go_at_call 37; refine (l00In_c _ _ _ _).mono ?_; rintro e w' ⟨rfl, rfl⟩; rw [HN.out]))
        refine bodyPost_ret (v := .tuple #[.agg #[.int .i64 0, .slice none 0 0], .slice none 0 0, .int .i64 0, .bool false]) (by simp [results, Try.results14, go_sem, x0, x1, xf, xz]) rfl ?_
        rw [HP.out, HL.out, HM.out, HOK.out]
        exact ⟨[.int .i64 0, .slice none 0 0], [], _, [], rfl, St.left (M := [_, _]) (St.noPost (St.nil (show St w _ (blk (w.heap.size + 1) #[.int .i64 0, .slice none 0 0] 28 :: [blk w.heap.size #[.int .i64 p.limit, .slice A1 p.boxes.length c1] 28]) from by (repeat (first | (with_reducible exact HS1.out) | (with_reducible apply St.alloc) | (with_reducible apply St.set0) | (with_reducible apply St.set1) | (with_reducible apply St.set2) | (with_reducible apply St.set3) | (with_reducible apply St.drew) | (with_reducible apply St.drewN))); all_goals (try (first | rfl | (simp; done))))))⟩
    · have hif : hasT Box.token p.boxes t = false := by simpa using hi
      have HOK := hide (show tkOk p t n = false by simp [tkOk, chpOk, tkF, hif])
      have HP := hide (show tkV p t n = noPost by unfold tkV; exact chP_no HOK.out)
      have HL := hide (show tkVL p t n = [] by unfold tkVL; rw [HOK.out]; rfl)
      have HM := hide (show tkVM p t n = 0 by unfold tkVM; rw [HOK.out]; rfl)
      have hneg : idxP (tokIs t) p.boxes < 0 := by
        rw [idx_has, decide_eq_false_iff_not] at hif; omega
      clear hv hi hif
      go_enter Try.func14, Try.ntmps14
      go_wp2_with (first
        | (go_at_call 26
           refine (l04Is_c p _ _ _ (Blk.rowAt (d := postD) (x := p) (St.at1 HS0.out) (post_K_mk (H1.out.below HS0.out.below)) rfl) HT.out).mono ?_
           rintro e w1 ⟨rfl, hb⟩
           rw [HV.out]
           have HS1 := hide (HS0.out.by hb)
           (try clear x0 x1 xf xz)
           obtain ⟨x0, x1⟩ := HS1.out.at0.c2
           have xf := HS1.out.at0.frozen
           have xz := HS1.out.at0.lt
           obtain ⟨y0, y1⟩ := HS1.out.at1.c2
           have yz := HS1.out.at1.lt
           clear hb)
        | (go_at_call 27; refine (l04Find_c p _ _ t _ (Blk.rowAt (d := postD) (x := p) (St.at1 HS1.out) (post_K_mk (H1.out.below HS1.out.below)) rfl)).mono ?_; rintro e w' ⟨rfl, rfl⟩))
      refine bodyPost_ret (v := .tuple #[.agg #[.int .i64 0, .slice none 0 0], .slice none 0 0, .int .i64 0, .bool false]) (by simp [results, Try.results14, go_sem, x0, x1, xf, xz]) rfl ?_
      rw [HP.out, HL.out, HM.out, HOK.out]
      exact ⟨[.int .i64 0, .slice none 0 0], [], _, [], rfl, St.left (M := [_, _]) (St.noPost (St.nil (show St w _ (blk (w.heap.size + 1) #[.int .i64 0, .slice none 0 0] 28 :: [blk w.heap.size #[.int .i64 p.limit, .slice A1 p.boxes.length c1] 28]) from by (repeat (first | (with_reducible exact HS1.out) | (with_reducible apply St.alloc) | (with_reducible apply St.set0) | (with_reducible apply St.set1) | (with_reducible apply St.set2) | (with_reducible apply St.set3) | (with_reducible apply St.drew) | (with_reducible apply St.drewN))); all_goals (try (first | rfl | (simp; done))))))⟩
  · have HV := hide (show validPostB p = false by simpa using hv)
    have HOK := hide (show tkOk p t n = false by simp [tkOk, chpOk, HV.out])
    have HP := hide (show tkV p t n = noPost by unfold tkV; exact chP_no HOK.out)
    have HL := hide (show tkVL p t n = [] by unfold tkVL; rw [HOK.out]; rfl)
    have HM := hide (show tkVM p t n = 0 by unfold tkVM; rw [HOK.out]; rfl)
    clear hv
    go_enter Try.func14, Try.ntmps14
    go_wp2_with (go_at_call 26
                 refine (l04Is_c p _ _ _ (Blk.rowAt (d := postD) (x := p) (St.at1 HS0.out) (post_K_mk (H1.out.below HS0.out.below)) rfl) HT.out).mono ?_
                 rintro e w1 ⟨rfl, hb⟩
                 rw [HV.out]
                 have HS1 := hide (HS0.out.by hb)
                 (try clear x0 x1 xf xz)
                 obtain ⟨x0, x1⟩ := HS1.out.at0.c2
                 have xf := HS1.out.at0.frozen
                 have xz := HS1.out.at0.lt
                 obtain ⟨y0, y1⟩ := HS1.out.at1.c2
                 have yz := HS1.out.at1.lt
                 clear hb)
    refine bodyPost_ret (v := .tuple #[.agg #[.int .i64 0, .slice none 0 0], .slice none 0 0, .int .i64 0, .bool false]) (by simp [results, Try.results14, go_sem, x0, x1, xf, xz]) rfl ?_
    rw [HP.out, HL.out, HM.out, HOK.out]
    exact ⟨[.int .i64 0, .slice none 0 0], [], _, [], rfl, St.left (M := [_, _]) (St.noPost (St.nil (show St w _ (blk (w.heap.size + 1) #[.int .i64 0, .slice none 0 0] 28 :: [blk w.heap.size #[.int .i64 p.limit, .slice A1 p.boxes.length c1] 28]) from by (repeat (first | (with_reducible exact HS1.out) | (with_reducible apply St.alloc) | (with_reducible apply St.set0) | (with_reducible apply St.set1) | (with_reducible apply St.set2) | (with_reducible apply St.set3) | (with_reducible apply St.drew) | (with_reducible apply St.drewN))); all_goals (try (first | rfl | (simp; done))))))⟩
end Go.Proofs.Ytdmhjfajicclaaa
