/- Parcels go back into a box: the program's wrapper. -/
import Derived.Test.YtdmhjfajicclaaaPostRet
import Derived.Test.YtdmhjfajicclaaaAddSpec
import Derived.Deep.RegionLaw
import Derived.Deep.RegionWith
import Derived.Deep.CutRange
import Derived.Deep.DrawnRows
namespace Go.Proofs.Ytdmhjfajicclaaa
open Go Go.RowKit Go.BigFrame
set_option linter.unusedVariables false
set_option linter.unusedSimpArgs false
attribute [local go_sem ↓] Go.wp_at_zero Go.wp_at_succ
def retOk (p : Post) (t : ByteArray) (ps : List Parcel) : Bool := chpOk p (retF t ps)
def retV (p : Post) (t : ByteArray) (ps : List Parcel) : Post := chP p (retF t ps)
theorem put_token (ps : List Parcel) (lim : Int) (m : Box) : (putB ps lim m).token = m.token := by
  unfold putB fitB; split <;> rfl
theorem ret_ok {p : Post} {t : ByteArray} {ps : List Parcel} (h : okPost p) : okPost (retF t ps p).1 := fun b hb => by
  have hb : b ∈ retBs t ps p.limit p.boxes := hb
  unfold retBs at hb
  split at hb
  · rename_i m hm
    rcases List.mem_or_eq_of_mem_set hb with h1 | rfl
    · exact h b h1
    · have h2 := h m (List.mem_of_getElem? hm)
      show (putB ps p.limit m).token.size ≤ _
      rw [put_token]; exact h2
  · exact h b hb
set_option maxHeartbeats 4000000 in
set_option maxRecDepth 100000 in
theorem returnTo_c (p : Post) (t : ByteArray) (ps : List Parcel) (v1 v2 : Value) (w : World) (h1 : SliceK boxD w v1 p.boxes) (h2 : SliceK parcelD w v2 ps) (ht : okPost p) :
    Calls Try.prog 22 #[.agg #[.int .i64 p.limit, v1], .string t, v2] w (RetElem2 postD w (retV p t ps) (retOk p t ps)) := by
  show Calls Try.prog 22 #[.agg #[.int .i64 p.limit, v1], .string t, v2] w (RetElem2 postD w (chP p (retF t ps)) (chpOk p (retF t ps)))
  obtain ⟨A1, c1, rfl⟩ := h1.shape
  obtain ⟨A0, c0, rfl⟩ := h2.shape
  have H1 := hide h1
  have H2 := hide h2
  have HT := hide ht
  clear h1 h2 ht
  have HS0 := hide (show St w ((((w.alloc (.cells #[.int .i64 p.limit, .slice A1 p.boxes.length c1] 28)).alloc (.cells #[.string t] 9)).alloc (.cells #[.slice A0 ps.length c0] 35)).alloc (.cells #[.int .i64 0, .slice none 0 0] 28)) [blk (w.heap.size + 1 + 1 + 1) #[.int .i64 0, .slice none 0 0] 28, blk (w.heap.size + 1 + 1) #[.slice A0 ps.length c0] 35, blk (w.heap.size + 1) #[.string t] 9, blk w.heap.size #[.int .i64 p.limit, .slice A1 p.boxes.length c1] 28] by (repeat (first | (with_reducible exact St.start w) | (with_reducible apply St.alloc) | (with_reducible apply St.set0) | (with_reducible apply St.set1) | (with_reducible apply St.set2) | (with_reducible apply St.set3) | (with_reducible apply St.drew) | (with_reducible apply St.drewN))); all_goals (try (first | rfl | (simp; done))))
  have HE0 := hide (St.at2 HS0.out).c1
  have HE1 := hide (St.at1 HS0.out).c1
  have eg := enters_of Try.func47 (by kernel_rfl) rfl
  go_enter Try.func22, Try.ntmps22
  go_wp2_with (
    go_at_call 30
    refine (changedPost0_c _ _ (retF t ps) p _ _ _ (H1.out.below HS0.out.below) HT.out eg (returnTo1_c t ps A0 c0 _ HE0.out HE1.out (H2.out.below HS0.out.below)) (fun _ => ret_ok HT.out)).mono ?_
    rintro e w1 he
    obtain ⟨cs, F, rfl, hK, hb, hS⟩ := HS0.out.elem2 he
    obtain ⟨u1, rfl, k1⟩ := post_K hK
    obtain ⟨G1, g1, rfl⟩ := k1.shape
    have HS1 := hide hS
    (try clear x0 x1 xf xz)
    obtain ⟨x0, x1⟩ := hS.at1.c2
    have xf := hS.at1.frozen
    have xz := hS.at1.lt
    clear hK k1 hb hS he)
  refine bodyPost_ret (v := .tuple #[.agg #[.int .i64 (chP p (retF t ps)).limit, .slice G1 (chP p (retF t ps)).boxes.length g1], .bool (chpOk p (retF t ps))]) (by simp [results, Try.results22, go_sem, x0, x1, xf, xz]) rfl ?_
  exact St.ret2 (cs := [.int .i64 (chP p (retF t ps)).limit, .slice G1 (chP p (retF t ps)).boxes.length g1]) (F := F) (by (repeat (first | (with_reducible exact HS1.out) | (with_reducible apply St.alloc) | (with_reducible apply St.set0) | (with_reducible apply St.set1) | (with_reducible apply St.set2) | (with_reducible apply St.set3) | (with_reducible apply St.drew) | (with_reducible apply St.drewN))); all_goals (try (first | rfl | (simp; done)))) rfl
set_option maxHeartbeats 8000000 in
set_option maxRecDepth 100000 in
theorem specReturnTo_c (p : Post) (t : ByteArray) (ps : List Parcel) (v1 v2 : Value) (w : World) (h1 : SliceK boxD w v1 p.boxes) (h2 : SliceK parcelD w v2 ps) (ht : okPost p) :
    Calls Try.prog 20 #[.agg #[.int .i64 p.limit, v1], .string t, v2] w (RetElem2 postD w (retV p t ps) (retOk p t ps)) := by
  show Calls Try.prog 20 #[.agg #[.int .i64 p.limit, v1], .string t, v2] w (RetElem2 postD w (chP p (retF t ps)) (chpOk p (retF t ps)))
  obtain ⟨A0, c0, rfl⟩ := h2.shape
  have H2 := hide h2
  clear h2
  obtain ⟨A1, c1, rfl⟩ := h1.shape
  have H1 := hide h1
  have HT := hide ht
  clear h1 ht
  have HS0 := hide (show St w ((w.alloc (.cells #[.int .i64 p.limit, .slice A1 p.boxes.length c1] 28)).alloc (.cells #[.int .i64 0, .slice none 0 0] 28)) (blk (w.heap.size + 1) #[.int .i64 0, .slice none 0 0] 28 :: [blk w.heap.size #[.int .i64 p.limit, .slice A1 p.boxes.length c1] 28]) by (repeat (first | (with_reducible exact St.start w) | (with_reducible apply St.alloc) | (with_reducible apply St.set0) | (with_reducible apply St.set1) | (with_reducible apply St.set2) | (with_reducible apply St.set3) | (with_reducible apply St.drew) | (with_reducible apply St.drewN))); all_goals (try (first | rfl | (simp; done))))
  (try clear x0 x1 xf xz)
  obtain ⟨x0, x1⟩ := HS0.out.at0.c2
  have xf := HS0.out.at0.frozen
  have xz := HS0.out.at0.lt
  obtain ⟨y0, y1⟩ := HS0.out.at1.c2
  have yz := HS0.out.at1.lt
  by_cases hv : validPostB p = true
  · have HV := hide hv
    have HR := hide (rises_valid hv)
    have HFEW := hide (fewP_of hv)
    have hlen := (fewP_of hv).1
    by_cases hi : hasT Box.token p.boxes t = true
    · have HI := hide hi
      have hpos : ¬ idxP (tokIs t) p.boxes < 0 := by
        rw [idx_has, decide_eq_true_iff] at hi; omega
      by_cases hp : parsOkB ps = true
      · have HP := hide hp
        obtain ⟨i, m, hxi, hil, hm, hmt⟩ := idxP_found (by omega : 0 ≤ idxP (tokIs t) p.boxes)
        have HXI := hide hxi
        have HM := hide (And.intro hm hmt)
        clear hv hi hp hxi hm hmt hpos
        have hpos : ¬ ((i : Int) < 0) := by omega
        go_enter Try.func20, Try.ntmps20
        go_wp2_with (first
          | (go_at_call 26
             refine (l04Is_c p _ _ _ (Blk.rowAt (d := postD) (x := p) (St.at1 HS0.out) (post_K_mk (H1.out.below HS0.out.below)) rfl) HT.out).mono ?_
             rintro e w1 ⟨rfl, hb⟩
             rw [HV.out]
             have HS1 := hide (HS0.out.by hb)
             (try clear x0 x1 xf xz)
             obtain ⟨x0, x1⟩ := HS1.out.at0.c2
             have xf := HS1.out.at0.frozen
             have xz := HS1.out.at0.lt
             obtain ⟨y0, y1⟩ := HS1.out.at1.c2
             have yz := HS1.out.at1.lt
             clear hb)
          | (go_at_call 27; refine (l04Find_c p _ _ t _ (Blk.rowAt (d := postD) (x := p) (St.at1 HS1.out) (post_K_mk (H1.out.below HS1.out.below)) rfl)).mono ?_; rintro e w' ⟨rfl, rfl⟩; rw [HXI.out])
          | (go_at_call 43
             refine (l04Parcels_c ps _ _ (H2.out.below HS1.out.below)).mono ?_
             rintro e w3 ⟨rfl, hb3⟩
             rw [HP.out]
             have HS3 := hide (HS1.out.by hb3)
             (try clear x0 x1 xf xz)
             obtain ⟨x0, x1⟩ := HS3.out.at0.c2
             have xf := HS3.out.at0.frozen
             have xz := HS3.out.at0.lt
             (try clear y0 y1 yz)
             obtain ⟨y0, y1⟩ := HS3.out.at1.c2
             have yz := HS3.out.at1.lt
             clear hb3)
          | (go_at_call 28
             refine (l04Copy_c p _ _ _ (Blk.rowAt (d := postD) (x := p) (St.at1 HS3.out) (post_K_mk (H1.out.below HS3.out.below)) rfl) HFEW.out).mono ?_
             rintro e w2 he
             obtain ⟨cs, F, rfl, hK, hb, hS⟩ := HS3.out.elem he
             obtain ⟨u1, rfl, k1⟩ := post_K hK
             obtain ⟨B1, e1, rfl⟩ := k1.shape
             obtain ⟨rs, F1, Fs, hrl, hP⟩ := hS.postParts
             have HPP := hide hP
             have HRL := hide hrl
             (try clear x0 x1 xf xz)
             obtain ⟨x0, x1⟩ := (St.at2 hP).c2
             have xf := (St.at2 hP).frozen
             have xz := (St.at2 hP).lt
             (try clear y0 y1 yz)
             obtain ⟨y0, y1⟩ := (St.at3 hP).c2
             have yz := (St.at3 hP).lt
             clear hK k1 hb hS he hrl hP))
        clear hpos
        obtain ⟨A3, c3, G3, Fs3, hr, hS3⟩ := (St.pull1 HPP.out).boxCut HM.out.1
        have hrl := HRL.out
        obtain ⟨⟨q, rfl⟩, -, -⟩ := St.hasBlk (d := rawD 4) rfl HPP.out hr
        have HRI := hide hr
        have hii : (i : Int) < (p.boxes.length : Int) := by omega
        have hin : (0 : Int) ≤ (i : Int) := by omega
        clear hr hS3 hrl
        go_cut [9, 28] from 24 to 28 (fun s9 s28 w' => s9 = .pointer (some ⟨q, i * 4, none⟩) ∧ Hid (St w w' (blk w2.heap.size #[.int .i64 p.limit, .slice (some ⟨q, 0, none⟩) p.boxes.length e1] 28 :: own (rawD 4) 53 (.slice (some ⟨q, 0, none⟩) p.boxes.length e1) rs F1 :: heldsP boxD p.boxes rs Fs :: blk (w.heap.size + 1) #[.int .i64 0, .slice none 0 0] 28 :: [blk w.heap.size #[.int .i64 p.limit, .slice A1 p.boxes.length c1] 28])))
        case first =>
          go_region_with ((go_at_call 27; refine (l04Find_c p _ _ t _ (Blk.rowAt (d := postD) (x := p) (St.at3 (St.drop (show St w _ (_ :: _ :: _ :: _ :: [_]) from by (repeat (first | (with_reducible exact HPP.out) | (with_reducible apply St.alloc) | (with_reducible apply St.set0) | (with_reducible apply St.set1) | (with_reducible apply St.set2) | (with_reducible apply St.set3) | (with_reducible apply St.drew) | (with_reducible apply St.drewN))); all_goals (try (first | rfl | (simp; done)))))) (post_K_mk (H1.out.below (St.below (show St w _ (_ :: _ :: _ :: _ :: [_]) from by (repeat (first | (with_reducible exact HPP.out) | (with_reducible apply St.alloc) | (with_reducible apply St.set0) | (with_reducible apply St.set1) | (with_reducible apply St.set2) | (with_reducible apply St.set3) | (with_reducible apply St.drew) | (with_reducible apply St.drewN))); all_goals (try (first | rfl | (simp; done))))))) rfl)).mono ?_; rintro e w' ⟨rfl, rfl⟩; rw [HXI.out]))
          all_goals
            go_wp2_with fail
            go_meet
            case rel => exact ⟨by first | rfl | (simp [Act.eval, Act.put]; done), hide (by (repeat (first | (with_reducible exact HPP.out) | (with_reducible apply St.alloc) | (with_reducible apply St.set0) | (with_reducible apply St.set1) | (with_reducible apply St.set2) | (with_reducible apply St.set3) | (with_reducible apply St.drew) | (with_reducible apply St.drewN))); all_goals (try (first | rfl | (simp; done))))⟩
        case rest =>
          clear HPP x0 x1 xf xz y0 y1 yz
          obtain ⟨rfl, HX⟩ := hcut
          obtain ⟨A3, c3, G3, Fs3, hr, hS3⟩ := (St.pull2 HX.out).boxCut HM.out.1
          have hQ := St.pull1 (St.pull3 hS3)
          rw [← HRL.out] at hQ
          have HQ := hide hQ
          obtain ⟨q0, q1, q2, q3, qf, qz⟩ := (St.pull1 hQ).rawBox hr
          clear HRI
          have HRI := hide hr
          obtain ⟨hm0, hm1⟩ := box_parts (boxes_ok HV.out m (List.mem_of_getElem? HM.out.1))
          have hpl := pars_len HP.out
          have HLM := hide (show inB p.limit 1 64 = true from by have h := HV.out; simp only [validPostB, Bool.and_eq_true] at h; exact h.1.1)
          have HLB := hide (show isLbT Box.token p.boxes t i from by
            obtain ⟨x, hx, hxt⟩ := (lb_is HR.out).found HR.out HI.out
            have h3 := only_one HR.out hx hxt i m HM.out.1 (tokIs_iff.1 HM.out.2)
            rw [h3]; exact lb_is HR.out)
          have HKEY := hide (show ∀ (W : World) (A8 : Option Addr) (c8 : Nat) (F8 : List Nat), St w W (own (rawD 4) 53 (.slice (some ⟨q, 0, none⟩) rs.length e1) (rs.set i (boxRaw (putB ps p.limit m) A8 (putB ps p.limit m).held.length c8)) F1 :: own parcelD 68 (.slice A8 (putB ps p.limit m).held.length c8) (putB ps p.limit m).held F8 :: heldsP boxD (p.boxes.take i ++ p.boxes.drop (i + 1)) (rs.take i ++ rs.drop (i + 1)) Fs3 :: blk w2.heap.size #[.int .i64 p.limit, .slice (some ⟨q, 0, none⟩) rs.length e1] 28 :: blk (w.heap.size + 1) #[.int .i64 0, .slice none 0 0] 28 :: [blk w.heap.size #[.int .i64 p.limit, .slice A1 rs.length c1] 28]) → ∃ F', St w W (ownD postD (retF t ps p).1 [.int .i64 p.limit, .slice (some ⟨q, 0, none⟩) rs.length e1] F' :: [blk w2.heap.size #[.int .i64 p.limit, .slice (some ⟨q, 0, none⟩) rs.length e1] 28, blk (w.heap.size + 1) #[.int .i64 0, .slice none 0 0] 28, blk w.heap.size #[.int .i64 p.limit, .slice A1 rs.length c1] 28]) from by
            intro W A8 c8 F8 h
            rw [retF_at HR.out HLB.out HM.out.1]
            obtain ⟨Fs', h4⟩ := St.boxBack (y := putB ps p.limit m) (St.pull2 (St.pull2 h)) hil HRL.out
            exact St.post (p := { p with boxes := p.boxes.take i ++ putB ps p.limit m :: p.boxes.drop (i + 1) }) (St.pull1 h4))
          clear HX hS3 hQ hr
          go_wp2_with fail
          go_region_law (first
            | (refine step_row_st (d := parcelD) (w0 := w) rfl rfl (.tmp 32) (.tmp 36) 35 rfl (.agg #[.int .i64 0, .int .i64 0]) 16 Try.underlying35 infoParcel rfl (by omega) (by omega) (.slice A5 ps.length c5) ps F5 (by simp [Act.eval, Act.put]) HS5.out A3 m.held.length c3 m.held (by simp [Act.eval, Act.put]) rfl (St.toK (St.pull1 HS5.out)) (by omega) ?_
               intro A6 c6 w6 F6 hS
               have HS6 := hide hS
               clear q0 q1 q2 q3 qf qz
               obtain ⟨q0, q1, q2, q3, qf, qz⟩ := (St.pull2 hS).rawBox HRI.out
               obtain ⟨x0, x1⟩ := (St.at3 (St.drop (St.drop (St.drop hS)))).c2
               have xf := (St.at3 (St.drop (St.drop (St.drop hS)))).frozen
               have xz := (St.at3 (St.drop (St.drop (St.drop hS)))).lt
               clear hS)
            | (refine step_row_st (d := parcelD) (w0 := w) rfl rfl (.tmp 30) (.tmp 31) 35 rfl (.agg #[.int .i64 0, .int .i64 0]) 16 Try.underlying35 infoParcel rfl (by omega) (by omega) (.slice (some ⟨wc.heap.size, 0, none⟩) 0 0) [] [wc.heap.size] (by simp [Act.eval, Act.put]) (St.empty (show St w _ (blk wc.heap.size #[] 68 :: own parcelD 68 (.slice A3 m.held.length c3) m.held G3 :: _) from by (repeat (first | (with_reducible exact HQ.out) | (with_reducible apply St.alloc) | (with_reducible apply St.set0) | (with_reducible apply St.set1) | (with_reducible apply St.set2) | (with_reducible apply St.set3) | (with_reducible apply St.drew) | (with_reducible apply St.drewN))); all_goals (try (first | rfl | (simp; done))))) A0 ps.length c0 ps (by simp [Act.eval, Act.put]) rfl (H2.out.below (St.below (show St w _ (blk wc.heap.size #[] 68 :: own parcelD 68 (.slice A3 m.held.length c3) m.held G3 :: _) from by (repeat (first | (with_reducible exact HQ.out) | (with_reducible apply St.alloc) | (with_reducible apply St.set0) | (with_reducible apply St.set1) | (with_reducible apply St.set2) | (with_reducible apply St.set3) | (with_reducible apply St.drew) | (with_reducible apply St.drewN))); all_goals (try (first | rfl | (simp; done)))))) (by simp; omega) ?_
               intro A5 c5 w5 F5 hS
               rw [List.nil_append] at hS
               have HS5 := hide hS
               clear q0 q1 q2 q3 qf qz
               obtain ⟨q0, q1, q2, q3, qf, qz⟩ := (St.pull2 hS).rawBox HRI.out
               clear hS))
          all_goals
            by_cases hv2 : validPostB (retF t ps p).1 = true
            · have HV2 := hide hv2
              have HOK := hide (show chpOk p (retF t ps) = true by simp only [chpOk, HV.out, HV2.out, Bool.true_and, Bool.and_true]; show (hasT Box.token p.boxes t && parsOkB ps) = true; rw [HI.out, HP.out]; rfl)
              clear hv2
              go_wp2_with (first
                | (go_at_call 44
                   rw [show ps.length + m.held.length = (ps ++ m.held).length from List.length_append.symm]
                   refine Calls.mono (l04Fit_c p.limit q e1 i (rs.set i (boxRaw { m with held := ps ++ m.held } A6 (ps ++ m.held).length c6)) F1 { m with held := ps ++ m.held } A6 c6 F6 w _ (heldsP boxD (p.boxes.take i ++ p.boxes.drop (i + 1)) (rs.take i ++ rs.drop (i + 1)) Fs3 :: blk w2.heap.size #[.int .i64 p.limit, .slice (some ⟨q, 0, none⟩) rs.length e1] 28 :: blk (w.heap.size + 1) #[.int .i64 0, .slice none 0 0] 28 :: [blk w.heap.size #[.int .i64 p.limit, .slice A1 rs.length c1] 28]) (by rw [List.length_set]; exact St.setHeld (m' := { m with held := ps ++ m.held }) (St.pull1 (St.drop1 HS6.out)) HRI.out rfl ⟨rfl, rfl, rfl⟩) (set_at HRI.out) HLM.out hm0 (by simp only [List.length_append]; omega)) ?_
                   rintro e w7 ⟨rfl, A8, c8, F8, hS7⟩
                   rw [List.length_set, List.set_set] at hS7
                   have HS7 := hide hS7
                   clear x0 x1 xf xz
                   obtain ⟨x0, x1⟩ := (St.at3 hS7).c2
                   have xf := (St.at3 hS7).frozen
                   have xz := (St.at3 hS7).lt
                   clear hS7)
                | (go_at_call 45
                   refine (giveYes_st (w0 := w) (p := (retF t ps p).1) (lim := p.limit) (v := .slice (some ⟨q, 0, none⟩) rs.length e1) rfl (L := [blk w2.heap.size #[.int .i64 p.limit, .slice (some ⟨q, 0, none⟩) rs.length e1] 28, blk (w.heap.size + 1) #[.int .i64 0, .slice none 0 0] 28, blk w.heap.size #[.int .i64 p.limit, .slice A1 rs.length c1] 28]) (HKEY.out _ _ _ _ HS7.out) HV2.out (ret_ok HT.out)).mono ?_
                   rintro e w8 ⟨rfl, FD, hS8⟩
                   have HD8 := hide hS8
                   obtain ⟨rz0, rz1⟩ := (St.at2 hS8).c2
                   have rzf := (St.at2 hS8).frozen
                   have rzz := (St.at2 hS8).lt
                   clear hS8))
              refine bodyPost_ret (v := .tuple #[.agg #[.int .i64 p.limit, .slice (some ⟨q, 0, none⟩) rs.length e1], .bool true]) (by simp [results, Try.results20, go_sem, rz0, rz1, rzf, rzz]) rfl ?_
              rw [chP_yes HOK.out, HOK.out]
              exact St.ret2 (cs := [.int .i64 p.limit, .slice (some ⟨q, 0, none⟩) rs.length e1]) (F := FD) (show St w _ (ownD postD (retF t ps p).1 [.int .i64 p.limit, .slice (some ⟨q, 0, none⟩) rs.length e1] FD :: blk w2.heap.size #[.int .i64 p.limit, .slice (some ⟨q, 0, none⟩) rs.length e1] 28 :: blk (w.heap.size + 1) #[.int .i64 p.limit, .slice (some ⟨q, 0, none⟩) rs.length e1] 28 :: [blk w.heap.size #[.int .i64 p.limit, .slice A1 rs.length c1] 28]) from by (repeat (first | (with_reducible exact HD8.out) | (with_reducible apply St.alloc) | (with_reducible apply St.set0) | (with_reducible apply St.set1) | (with_reducible apply St.set2) | (with_reducible apply St.set3) | (with_reducible apply St.drew) | (with_reducible apply St.drewN))); all_goals (try (first | rfl | (simp; done)))) rfl
            · have HV2 := hide (show validPostB (retF t ps p).1 = false by simpa using hv2)
              have HOK := hide (show chpOk p (retF t ps) = false by simp only [chpOk, HV2.out, Bool.and_false])
              clear hv2
              go_wp2_with (first
                | (go_at_call 44
                   rw [show ps.length + m.held.length = (ps ++ m.held).length from List.length_append.symm]
                   refine Calls.mono (l04Fit_c p.limit q e1 i (rs.set i (boxRaw { m with held := ps ++ m.held } A6 (ps ++ m.held).length c6)) F1 { m with held := ps ++ m.held } A6 c6 F6 w _ (heldsP boxD (p.boxes.take i ++ p.boxes.drop (i + 1)) (rs.take i ++ rs.drop (i + 1)) Fs3 :: blk w2.heap.size #[.int .i64 p.limit, .slice (some ⟨q, 0, none⟩) rs.length e1] 28 :: blk (w.heap.size + 1) #[.int .i64 0, .slice none 0 0] 28 :: [blk w.heap.size #[.int .i64 p.limit, .slice A1 rs.length c1] 28]) (by rw [List.length_set]; exact St.setHeld (m' := { m with held := ps ++ m.held }) (St.pull1 (St.drop1 HS6.out)) HRI.out rfl ⟨rfl, rfl, rfl⟩) (set_at HRI.out) HLM.out hm0 (by simp only [List.length_append]; omega)) ?_
                   rintro e w7 ⟨rfl, A8, c8, F8, hS7⟩
                   rw [List.length_set, List.set_set] at hS7
                   have HS7 := hide hS7
                   clear x0 x1 xf xz
                   obtain ⟨x0, x1⟩ := (St.at3 hS7).c2
                   have xf := (St.at3 hS7).frozen
                   have xz := (St.at3 hS7).lt
                   clear hS7)
                | (go_at_call 45
                   refine (giveNo_st (w0 := w) (p := (retF t ps p).1) (lim := p.limit) (v := .slice (some ⟨q, 0, none⟩) rs.length e1) rfl (L := [blk w2.heap.size #[.int .i64 p.limit, .slice (some ⟨q, 0, none⟩) rs.length e1] 28, blk (w.heap.size + 1) #[.int .i64 0, .slice none 0 0] 28, blk w.heap.size #[.int .i64 p.limit, .slice A1 rs.length c1] 28]) (HKEY.out _ _ _ _ HS7.out) HV2.out (ret_ok HT.out)).mono ?_
                   rintro e w8 ⟨rfl, FD, hS8⟩
                   have HD8 := hide hS8
                   obtain ⟨rz0, rz1⟩ := (St.at2 hS8).c2
                   have rzf := (St.at2 hS8).frozen
                   have rzz := (St.at2 hS8).lt
                   clear hS8))
              refine bodyPost_ret (v := .tuple #[.agg #[.int .i64 0, .slice none 0 0], .bool false]) (by simp [results, Try.results20, go_sem, rz0, rz1, rzf, rzz]) rfl ?_
              rw [chP_no HOK.out, HOK.out]
              exact St.ret2 (cs := [.int .i64 0, .slice none 0 0]) (F := []) (St.noPost (show St w _ (ownD postD (retF t ps p).1 [.int .i64 p.limit, .slice (some ⟨q, 0, none⟩) rs.length e1] FD :: blk w2.heap.size #[.int .i64 p.limit, .slice (some ⟨q, 0, none⟩) rs.length e1] 28 :: blk (w.heap.size + 1) #[.int .i64 0, .slice none 0 0] 28 :: [blk w.heap.size #[.int .i64 p.limit, .slice A1 rs.length c1] 28]) from by (repeat (first | (with_reducible exact HD8.out) | (with_reducible apply St.alloc) | (with_reducible apply St.set0) | (with_reducible apply St.set1) | (with_reducible apply St.set2) | (with_reducible apply St.set3) | (with_reducible apply St.drew) | (with_reducible apply St.drewN))); all_goals (try (first | rfl | (simp; done))))) rfl
      · have HP := hide (show parsOkB ps = false by simpa using hp)
        have HOK := hide (show chpOk p (retF t ps) = false by simp [chpOk, retF, HP.out])
        clear hv hi hp
        go_enter Try.func20, Try.ntmps20
        go_wp2_with (first
          | (go_at_call 26
             refine (l04Is_c p _ _ _ (Blk.rowAt (d := postD) (x := p) (St.at1 HS0.out) (post_K_mk (H1.out.below HS0.out.below)) rfl) HT.out).mono ?_
             rintro e w1 ⟨rfl, hb⟩
             rw [HV.out]
             have HS1 := hide (HS0.out.by hb)
             (try clear x0 x1 xf xz)
             obtain ⟨x0, x1⟩ := HS1.out.at0.c2
             have xf := HS1.out.at0.frozen
             have xz := HS1.out.at0.lt
             obtain ⟨y0, y1⟩ := HS1.out.at1.c2
             have yz := HS1.out.at1.lt
             clear hb)
          | (go_at_call 27; refine (l04Find_c p _ _ t _ (Blk.rowAt (d := postD) (x := p) (St.at1 HS1.out) (post_K_mk (H1.out.below HS1.out.below)) rfl)).mono ?_; rintro e w' ⟨rfl, rfl⟩)
          | (go_at_call 43
             refine (l04Parcels_c ps _ _ (H2.out.below HS1.out.below)).mono ?_
             rintro e w3 ⟨rfl, hb3⟩
             rw [HP.out]
             have HS3 := hide (HS1.out.by hb3)
             (try clear x0 x1 xf xz)
             obtain ⟨x0, x1⟩ := HS3.out.at0.c2
             have xf := HS3.out.at0.frozen
             have xz := HS3.out.at0.lt
             (try clear y0 y1 yz)
             obtain ⟨y0, y1⟩ := HS3.out.at1.c2
             have yz := HS3.out.at1.lt
             clear hb3))
        refine bodyPost_ret (v := .tuple #[.agg #[.int .i64 0, .slice none 0 0], .bool false]) (by simp [results, Try.results20, go_sem, x0, x1, xf, xz]) rfl ?_
        rw [chP_no HOK.out, HOK.out]
        exact St.ret2 (cs := [.int .i64 0, .slice none 0 0]) (F := []) (St.noPost (by (repeat (first | (with_reducible exact HS3.out) | (with_reducible apply St.alloc) | (with_reducible apply St.set0) | (with_reducible apply St.set1) | (with_reducible apply St.set2) | (with_reducible apply St.set3) | (with_reducible apply St.drew) | (with_reducible apply St.drewN))); all_goals (try (first | rfl | (simp; done))))) rfl
    · have hif : hasT Box.token p.boxes t = false := by simpa using hi
      have HOK := hide (show chpOk p (retF t ps) = false by simp [chpOk, retF, hif])
      have hneg : idxP (tokIs t) p.boxes < 0 := by
        rw [idx_has, decide_eq_false_iff_not] at hif; omega
      clear hv hi hif
      go_enter Try.func20, Try.ntmps20
      go_wp2_with (first
        | (go_at_call 26
           refine (l04Is_c p _ _ _ (Blk.rowAt (d := postD) (x := p) (St.at1 HS0.out) (post_K_mk (H1.out.below HS0.out.below)) rfl) HT.out).mono ?_
           rintro e w1 ⟨rfl, hb⟩
           rw [HV.out]
           have HS1 := hide (HS0.out.by hb)
           (try clear x0 x1 xf xz)
           obtain ⟨x0, x1⟩ := HS1.out.at0.c2
           have xf := HS1.out.at0.frozen
           have xz := HS1.out.at0.lt
           obtain ⟨y0, y1⟩ := HS1.out.at1.c2
           have yz := HS1.out.at1.lt
           clear hb)
        | (go_at_call 27; refine (l04Find_c p _ _ t _ (Blk.rowAt (d := postD) (x := p) (St.at1 HS1.out) (post_K_mk (H1.out.below HS1.out.below)) rfl)).mono ?_; rintro e w' ⟨rfl, rfl⟩))
      refine bodyPost_ret (v := .tuple #[.agg #[.int .i64 0, .slice none 0 0], .bool false]) (by simp [results, Try.results20, go_sem, x0, x1, xf, xz]) rfl ?_
      rw [chP_no HOK.out, HOK.out]
      exact St.ret2 (cs := [.int .i64 0, .slice none 0 0]) (F := []) (St.noPost (by (repeat (first | (with_reducible exact HS1.out) | (with_reducible apply St.alloc) | (with_reducible apply St.set0) | (with_reducible apply St.set1) | (with_reducible apply St.set2) | (with_reducible apply St.set3) | (with_reducible apply St.drew) | (with_reducible apply St.drewN))); all_goals (try (first | rfl | (simp; done))))) rfl
  · have HV := hide (show validPostB p = false by simpa using hv)
    have HOK := hide (show chpOk p (retF t ps) = false by simp [chpOk, HV.out])
    clear hv
    go_enter Try.func20, Try.ntmps20
    go_wp2_with (go_at_call 26
                 refine (l04Is_c p _ _ _ (Blk.rowAt (d := postD) (x := p) (St.at1 HS0.out) (post_K_mk (H1.out.below HS0.out.below)) rfl) HT.out).mono ?_
                 rintro e w1 ⟨rfl, hb⟩
                 rw [HV.out]
                 have HS1 := hide (HS0.out.by hb)
                 (try clear x0 x1 xf xz)
                 obtain ⟨x0, x1⟩ := HS1.out.at0.c2
                 have xf := HS1.out.at0.frozen
                 have xz := HS1.out.at0.lt
                 obtain ⟨y0, y1⟩ := HS1.out.at1.c2
                 have yz := HS1.out.at1.lt
                 clear hb)
    refine bodyPost_ret (v := .tuple #[.agg #[.int .i64 0, .slice none 0 0], .bool false]) (by simp [results, Try.results20, go_sem, x0, x1, xf, xz]) rfl ?_
    rw [chP_no HOK.out, HOK.out]
    exact St.ret2 (cs := [.int .i64 0, .slice none 0 0]) (F := []) (St.noPost (by (repeat (first | (with_reducible exact HS1.out) | (with_reducible apply St.alloc) | (with_reducible apply St.set0) | (with_reducible apply St.set1) | (with_reducible apply St.set2) | (with_reducible apply St.set3) | (with_reducible apply St.drew) | (with_reducible apply St.drewN))); all_goals (try (first | rfl | (simp; done))))) rfl
end Go.Proofs.Ytdmhjfajicclaaa
