/- The law of TakeFrom: its walk. -/
import Derived.Test.YtdmhjfajicclaaaTakeSpec
import Derived.Test.YtdmhjfajicclaaaPostCnt
import Derived.Test.YtdmhjfajicclaaaRTypes
import Derived.Deep.RegionHeld3
import Derived.Deep.Cut
namespace Go.Proofs.Ytdmhjfajicclaaa
open Go Go.RowKit Go.BigFrame
set_option linter.unusedVariables false
set_option linter.unusedSimpArgs false

theorem tkVL_len (p : Post) (t : ByteArray) (n : Int) : (tkVL p t n).length ≤ 64 := by
  unfold tkVL
  split
  · rename_i h
    have hv : validPostB p = true := by
      unfold tkOk chpOk at h
      simp only [Bool.and_eq_true] at h
      exact h.1.1
    unfold tkL
    split
    · rename_i m hm
      have := (box_parts (boxes_ok hv m (List.mem_of_getElem? hm))).2
      rw [List.length_take]; omega
    · simp
  · simp
set_option maxHeartbeats 16000000 in
set_option maxRecDepth 100000 in
theorem fnExactTakeFrom_c (p : Post) (v0_1 : Value) (t : ByteArray) (n : Int) (w : World) (h0_1 : SliceK boxD w v0_1 p.boxes) (ok0 : okPost p) (hs_t : t.size ≤ 9223372036854775807) :
    Calls Try.prog 4 #[.agg #[.int .i64 p.limit, v0_1], .string t, .int .i64 n] w fun e w' => e = .returned (.bool true) ∧ Below w.heap.size w w' := by
  obtain ⟨A0, c0, rfl⟩ := h0_1.shape
  obtain ⟨W0, hW0⟩ : ∃ W, W = w.alloc (.cells #[.int .i64 p.limit, .slice A0 p.boxes.length c0] 24) := ⟨_, rfl⟩
  have HS0 := hide (show St w W0 [blk w.heap.size #[.int .i64 p.limit, .slice A0 p.boxes.length c0] 24] by rw [hW0]; (repeat (first | (with_reducible exact St.start w) | (with_reducible apply St.alloc) | (with_reducible apply St.set0) | (with_reducible apply St.set1) | (with_reducible apply St.set2) | (with_reducible apply St.set3) | (with_reducible apply St.drew) | (with_reducible apply St.drewN))); all_goals (try (first | rfl | (simp; done))))
  have H0 := hide h0_1
  have HO0 := hide ok0
  clear h0_1 ok0
  by_cases hb_t : (t.size : Int) ≤ 1048576
  rotate_left
  · have hd_t : decide ((1048576 : Int) < (t.size : Int)) = true := by simp; omega
    go_enter Try.func4, Try.ntmps4
    go_wp2_with fail
    go_ret
    exact ⟨rfl, by rw [← hW0]; exact HS0.out.below⟩
  have hd_t : decide ((1048576 : Int) < (t.size : Int)) = false := by simp; omega
  obtain ⟨a_0, a_1⟩ := (St.at0 HS0.out).c2
  have a_z := (St.at0 HS0.out).lt
  rw [hW0] at a_0 a_1 a_z
  go_enter Try.func4, Try.ntmps4
  go_wp2_with fail
  clear a_0 a_1 a_z
  rw [← hW0]
  clear hW0
  refine (szPost_c p _ _ _ (H0.out.below HS0.out.below) (by omega) (by omega) HO0.out).mono ?_
  rintro e w1 ⟨⟨r0, rfl, hr0⟩, hb⟩
  have HS1 := hide (HS0.out.by hb)
  clear hb HS0
  rcases szR_spec hr0 (by omega) with ⟨hr, hs0⟩ | ⟨hr, hs0⟩
  rotate_left
  · have hneg : r0 < 0 := by omega
    clear hr hr0 hs0
    go_wp2_with fail
    go_ret
    exact ⟨rfl, HS1.out.below⟩
  have hn0 : 0 ≤ r0 ∧ r0 ≤ 1048576 := by omega
  have hq0 : (sizePost p : Int) ≤ 1048576 := by omega
  have hnn0 : 0 ≤ r0 := by omega
  clear hr hr0 hs0
  have HF0 := hide (fewPost_of (l := p) (by omega))
  have hcn0 := tcntPost_le p
  have HN0 := hide (show (1 : Int) + (tcntPost p : Int) ≤ 1000000000000 by omega)
  have hcv : tcntPost (tkV p t n) ≤ 4192 := chp_cnt p (tkF t n)
  have hcl := cntParcelS_le (tkVL p t n)
  have hll := tkVL_len p t n
  have HSM := hide (show (1 : Int) + tcntPost (tkV p t n) ≤ 1000000000000 by omega)
  have HSL := hide (show (1 : Int) + (tcntPost (tkV p t n) : Int) + (cntAll cntParcel (tkVL p t n) : Int) ≤ 1000000000000 by omega)
  clear hq0 hn0 hcn0 hcv hcl hll
  -- the reference's answer
  obtain ⟨a_0, a_1⟩ := (St.at0 HS1.out).c2
  have a_z := (St.at0 HS1.out).lt
  go_wp2_with fail
  clear a_0 a_1 a_z
  refine (toPost_c p _ _ (H0.out.below HS1.out.below) HF0.out).mono ?_
  rintro e w2 he
  obtain ⟨cs0, F0, rfl, hK, hb, hS⟩ := HS1.out.elem he
  obtain ⟨u0, rfl, hk0⟩ := post_K hK
  have HK0 := hide hk0
  have HS2 := hide hS
  clear hb hS he hK hk0 HS1
  go_wp2_with fail
  refine (specTakeFrom_c p t n _ _ HK0.out HO0.out).mono ?_
  rintro e w3 ⟨cs3, F3, v3, G3, rfl, hS⟩
  obtain ⟨u3, hcs, k3⟩ := post_K (postD.M_K hS.head)
  subst hcs
  obtain ⟨A3, c3, rfl⟩ := k3.shape
  obtain ⟨B3, d3, rfl⟩ := (St.toK hS.drop).shape
  have HS3 := hide (show St w w3 (_ :: _ :: [_]) from St.over HS2.out.drop hS)
  clear k3 hS HK0 HS2
  obtain ⟨a_0, a_1⟩ := (St.at2 HS3.out).c2
  have a_z := (St.at2 HS3.out).lt
  have hlt : w.heap.size < w3.heap.size := a_z
  go_wp2_with fail
  clear a_0 a_1 a_z hlt
  obtain ⟨V3, hV3⟩ : ∃ V, V = w3.alloc (.cells #[.int .i64 (tkV p t n).limit, .slice A3 (tkV p t n).boxes.length c3] 28) := ⟨_, rfl⟩
  rw [← hV3]
  have HS4 := hide (show St w V3 (blk w3.heap.size #[.int .i64 (tkV p t n).limit, .slice A3 (tkV p t n).boxes.length c3] 28 :: _ :: _ :: [_]) by rw [hV3]; exact HS3.out.alloc rfl)
  clear hV3 HS3
  -- the program's answer
  refine (toPost_c p _ _ (H0.out.below HS4.out.below) HF0.out).mono ?_
  rintro e w4 he
  obtain ⟨cs4, F4, rfl, hK, hb, hS⟩ := HS4.out.elem he
  obtain ⟨u4, rfl, hk4⟩ := post_K hK
  obtain ⟨A4, c4, rfl⟩ := hk4.shape
  have HS5 := hide hS
  clear hb hS he hK hk4 HS4
  go_wp2_with fail
  obtain ⟨V4, hV4⟩ : ∃ V, V = w4.alloc (.cells #[.int .i64 p.limit, .slice A4 p.boxes.length c4] 28) := ⟨_, rfl⟩
  rw [← hV4]
  have HS6 := hide (show St w V4 (blk w4.heap.size #[.int .i64 p.limit, .slice A4 p.boxes.length c4] 28 :: _ :: _ :: _ :: _ :: [_]) by rw [hV4]; exact HS5.out.alloc rfl)
  clear hV4 HS5
  obtain ⟨x_0, x_1⟩ := (St.at0 HS6.out).c2
  have x_z := (St.at0 HS6.out).lt
  go_wp2_with fail
  clear x_0 x_1 x_z
  refine (takeFrom_c p t n _ _ (post_MK (St.head (St.drop HS6.out))) HO0.out).mono ?_
  rintro e w5 ⟨cs5, F5, v5, G5, rfl, hS⟩
  obtain ⟨u5, hcs, k5⟩ := post_K (postD.M_K hS.head)
  subst hcs
  obtain ⟨A5, c5, rfl⟩ := k5.shape
  obtain ⟨B5, d5, rfl⟩ := (St.toK hS.drop).shape
  have HS7 := hide (show St w w5 (_ :: _ :: _ :: _ :: _ :: _ :: _ :: [_]) from St.over HS6.out hS)
  clear k5 hS HS6
  obtain ⟨s_0, s_1⟩ := (St.at0 (St.pull4 HS7.out)).c2
  have s_z := (St.at0 (St.pull4 HS7.out)).lt
  have hlt : w3.heap.size < w5.heap.size := s_z
  go_wp2_with fail
  clear s_0 s_1 s_z hlt
  obtain ⟨V5, hV5⟩ : ∃ V, V = w5.alloc (.cells #[.int .i64 (tkV p t n).limit, .slice A5 (tkV p t n).boxes.length c5] 28) := ⟨_, rfl⟩
  rw [← hV5]
  have HS8 := hide (show St w V5 (blk w5.heap.size #[.int .i64 (tkV p t n).limit, .slice A5 (tkV p t n).boxes.length c5] 28 :: _ :: _ :: _ :: _ :: _ :: _ :: _ :: [_]) by rw [hV5]; exact HS7.out.alloc rfl)
  clear hV5 HS7
  refine (eqPost_c (tkV p t n) (tkV p t n) _ _ _ (post_MK (HS8.out.drop).head) (post_MK (HS8.out.drop.drop.drop.drop.drop.drop).head)).mono ?_
  rintro e w6 ⟨rfl, hb⟩
  rw [eqPostB_eq, dec_same]
  have HA := hide (HS8.out.by hb)
  clear hb HS8
  go_wp2_with fail
  refine (eqParcelS_c _ _ _ _ _ (St.toK (HA.out.drop.drop)) (St.toK (HA.out.drop.drop.drop.drop.drop.drop.drop))).mono ?_
  rintro e w7 ⟨rfl, hb⟩
  rw [dec_same]
  have HS9 := hide (HA.out.by hb)
  clear hb HA
  -- the argument
  obtain ⟨a_0, a_1⟩ := (St.at0 (HS9.out.drop.drop.drop.drop.drop.drop.drop.drop)).c2
  have a_z := (St.at0 (HS9.out.drop.drop.drop.drop.drop.drop.drop.drop)).lt
  obtain ⟨x_0, x_1⟩ := (St.at0 (HS9.out.drop.drop.drop)).c2
  have x_z := (St.at0 (HS9.out.drop.drop.drop)).lt
  go_wp2_with fail
  go_region_held3 (fun w' : World => w'.cell? ⟨w.heap.size, 0, none⟩ = some (.int .i64 p.limit) ∧ w'.cell? ⟨w.heap.size, 1, none⟩ = some (.slice A0 p.boxes.length c0) ∧ w'.cell? ⟨w4.heap.size, 0, none⟩ = some (.int .i64 p.limit) ∧ w'.cell? ⟨w4.heap.size, 1, none⟩ = some (.slice A4 p.boxes.length c4)) (first | with_reducible exact ⟨a_0, a_1, x_0, x_1⟩ | with_reducible exact ⟨ya_0, ya_1, yx_0, yx_1⟩ | go_keep) (first
    | (go_at_call 9
       refine (toPost_c p _ _ (H0.out.below HS9.out.below.drew) HF0.out).mono ?_
       rintro e w8 ⟨cs, F, rfl, hM, -, -, hb⟩
       obtain ⟨u_1, rfl, hK_1⟩ := post_K (postD.M_K hM)
       have hb1 : Below w7.heap.size w7 w8 := (Below.refl _ w7).drew.trans hb
       have ya_0 := cell_below hb1 a_0
       have ya_1 := cell_below hb1 a_1
       have yx_0 := cell_below hb1 x_0
       have yx_1 := cell_below hb1 x_1
       clear hM hb)
    | (go_at_call 11
       refine (eqPost_c p p _ _ _ ((post_MK (HS9.out.drop.drop.drop.drop).head).below hb1) hK_1).mono ?_
       rintro e w9 ⟨rfl, hb2⟩
       rw [eqPostB_eq, dec_same]
       replace ya_0 := cell_below hb2 ya_0
       replace ya_1 := cell_below hb2 ya_1
       replace yx_0 := cell_below hb2 yx_0
       replace yx_1 := cell_below hb2 yx_1
       skip))
  have HS10 := hide (HS9.out.by (below_step hb1 hb2))
  clear hb1 hb2 a_0 a_1 x_0 x_1 ya_0 ya_1 yx_0 yx_1 a_z x_z hK_1 HS9
  obtain ⟨x_0, x_1⟩ := (St.at0 (HS10.out.drop.drop.drop)).c2
  have x_z := (St.at0 (HS10.out.drop.drop.drop)).lt
  go_wp2_with fail
  clear x_0 x_1 x_z
  refine (markPost_c p _ F4 ((1 : Int)) _ (HS10.out.drop.drop.drop.drop).head (HS10.out.drop.drop.drop.drop).headN (by omega) HN0.out).mono ?_
  rintro e w10 ⟨rfl, -, hc⟩
  have HS11 := hide (St.lose (HS10.out.pull4) hc)
  clear hc HS10
  have hk : decide ((1 : Int) + (tcntPost p : Int) < 0) = false := by simp; omega
  obtain ⟨g_0, g_1⟩ := (St.at0 HS11.out).c2
  have g_z := (St.at0 HS11.out).lt
  obtain ⟨s_0, s_1⟩ := (St.at0 (HS11.out.drop.drop.drop.drop)).c2
  have s_z := (St.at0 (HS11.out.drop.drop.drop.drop)).lt
  go_wp2_with fail
  clear g_0 g_1 g_z s_0 s_1 s_z
  refine (eqPost_c (tkV p t n) (tkV p t n) _ _ _ (post_MK (HS11.out.drop).head) (post_MK (HS11.out.drop.drop.drop.drop.drop).head)).mono ?_
  rintro e w11 ⟨rfl, hb⟩
  rw [eqPostB_eq, dec_same]
  have HA := hide (HS11.out.by hb)
  clear hb HS11
  go_wp2_with fail
  refine (eqParcelS_c _ _ _ _ _ (St.toK (HA.out.drop.drop)) (St.toK (HA.out.drop.drop.drop.drop.drop.drop))).mono ?_
  rintro e w12 ⟨rfl, hb⟩
  rw [dec_same]
  have HS12 := hide (HA.out.by hb)
  clear hb HA
  clear hk
  -- marks of the answer
  obtain ⟨g_0, g_1⟩ := (St.at0 HS12.out).c2
  have g_z := (St.at0 HS12.out).lt
  go_wp2_with fail
  clear g_0 g_1 g_z
  refine (markPost_c (tkV p t n) _ F5 1 _ (HS12.out.drop).head (HS12.out.drop).headN (by decide) HSM.out).mono ?_
  rintro e w13 ⟨rfl, hM, hc⟩
  have HS13 := hide (St.turn (A' := ownD postD (tmkPost 1 (tkV p t n)) [.int .i64 (tkV p t n).limit, .slice A5 (tkV p t n).boxes.length c5] F5) HS12.out.pull1 hc hM (HS12.out.drop).headN (fun b hb => .inl hb))
  clear hM hc HS12
  go_wp2_with fail
  refine (markParcelS_c _ _ G5 (1 + (tcntPost (tkV p t n) : Int)) _ (HS13.out.drop.drop).head (HS13.out.drop.drop).headN (by omega) HSL.out).mono ?_
  rintro e w14 ⟨rfl, hM, hc⟩
  have HS14 := hide (St.turn (A' := own parcelD 68 (.slice B5 (tkVL p t n).length d5) (markAll cntParcel mkParcel (1 + (tcntPost (tkV p t n) : Int)) (tkVL p t n)) G5) HS13.out.pull2 hc hM (HS13.out.drop.drop).headN (fun b hb => .inl hb))
  clear hM hc HS13
  have hk2 : decide ((1 : Int) + (tcntPost (tkV p t n) : Int) < 0) = false := by simp; omega
  have hk3 : decide ((1 : Int) + (tcntPost (tkV p t n) : Int) + (cntAll cntParcel (tkVL p t n) : Int) < 0) = false := by simp; omega
  obtain ⟨g_0, g_1⟩ := (St.at0 (HS14.out.drop.drop)).c2
  have g_z := (St.at0 (HS14.out.drop.drop)).lt
  go_wp2_with fail
  clear g_0 g_1 g_z
  refine (heldPost_c (tmkPost 1 (tkV p t n)) _ 1 _ (post_MK (x := tmkPost 1 (tkV p t n)) (HS14.out.drop).head) (by decide) (by rw [tcntPost_mk]; exact HSM.out)).mono ?_
  rintro e w15 ⟨rfl, hb⟩
  rw [theldPost_mk]
  have HA := hide (HS14.out.by hb)
  clear hb HS14
  go_wp2_with fail
  refine (heldParcelS_c _ _ (1 + (tcntPost (tkV p t n) : Int)) _ (St.toK HA.out) (by omega) (by rw [cntAll_mark cntParcel_mk]; exact HSL.out)).mono ?_
  rintro e w16 ⟨rfl, hb⟩
  rw [heldAll_mark cntParcel_mk mkParcel_mk]
  have HS15 := hide (HA.out.by hb)
  clear hb HA
  -- the second call
  obtain ⟨a_0, a_1⟩ := (St.at0 (HS15.out.drop.drop.drop.drop.drop.drop.drop)).c2
  have a_z := (St.at0 (HS15.out.drop.drop.drop.drop.drop.drop.drop)).lt
  go_wp2_with fail
  clear a_0 a_1 a_z
  refine (toPost_c p _ _ (H0.out.below HS15.out.below) HF0.out).mono ?_
  rintro e w17 he
  obtain ⟨cs7, F7, rfl, hK, hb, hS⟩ := HS15.out.elem he
  obtain ⟨u7, rfl, hk7⟩ := post_K hK
  have HK7 := hide hk7
  have HS16 := hide hS.drop
  clear hb hS he hK hk7 HS15
  go_wp2_with fail
  refine (takeFrom_c p t n _ _ HK7.out HO0.out).mono ?_
  rintro e w18 ⟨cs8, F8, v8, G8, rfl, hS⟩
  obtain ⟨u8, hcs, k8⟩ := post_K (postD.M_K hS.head)
  subst hcs
  obtain ⟨A8, c8, rfl⟩ := k8.shape
  obtain ⟨B8, d8, rfl⟩ := (St.toK hS.drop).shape
  have HS17 := hide (show St w w18 (_ :: _ :: _ :: _ :: _ :: _ :: _ :: _ :: _ :: [_]) from St.over HS16.out hS)
  clear k8 hS HK7 HS16
  obtain ⟨s_0, s_1⟩ := (St.at0 (HS17.out.drop.drop.drop.drop.drop.drop)).c2
  have s_z := (St.at0 (HS17.out.drop.drop.drop.drop.drop.drop)).lt
  have hlt : w3.heap.size < w18.heap.size := s_z
  go_wp2_with fail
  clear s_0 s_1 s_z hlt
  obtain ⟨V8, hV8⟩ : ∃ V, V = w18.alloc (.cells #[.int .i64 (tkV p t n).limit, .slice A8 (tkV p t n).boxes.length c8] 28) := ⟨_, rfl⟩
  rw [← hV8]
  have HS18 := hide (show St w V8 (blk w18.heap.size #[.int .i64 (tkV p t n).limit, .slice A8 (tkV p t n).boxes.length c8] 28 :: _ :: _ :: _ :: _ :: _ :: _ :: _ :: _ :: _ :: [_]) by rw [hV8]; exact HS17.out.alloc rfl)
  clear hV8 HS17
  refine (eqPost_c (tkV p t n) (tkV p t n) _ _ _ (post_MK (HS18.out.drop).head) (post_MK (HS18.out.drop.drop.drop.drop.drop.drop.drop.drop).head)).mono ?_
  rintro e w19 ⟨rfl, hb⟩
  rw [eqPostB_eq, dec_same]
  have HA := hide (HS18.out.by hb)
  clear hb HS18
  go_wp2_with fail
  refine (eqParcelS_c _ _ _ _ _ (St.toK (HA.out.drop.drop)) (St.toK (HA.out.drop.drop.drop.drop.drop.drop.drop.drop.drop))).mono ?_
  rintro e w20 ⟨rfl, hb⟩
  rw [dec_same]
  have HS19 := hide (HA.out.by hb)
  clear hb HA
  obtain ⟨g_0, g_1⟩ := (St.at0 (HS19.out.drop.drop.drop.drop.drop)).c2
  have g_z := (St.at0 (HS19.out.drop.drop.drop.drop.drop)).lt
  go_wp2_with fail
  clear g_0 g_1 g_z
  refine (heldPost_c (tmkPost 1 (tkV p t n)) _ 1 _ (post_MK (x := tmkPost 1 (tkV p t n)) (HS19.out.drop.drop.drop.drop).head) (by decide) (by rw [tcntPost_mk]; exact HSM.out)).mono ?_
  rintro e w21 ⟨rfl, hb⟩
  rw [theldPost_mk]
  have HA := hide (HS19.out.by hb)
  clear hb HS19
  go_wp2_with fail
  refine (heldParcelS_c _ _ (1 + (tcntPost (tkV p t n) : Int)) _ (St.toK (HA.out.drop.drop.drop)) (by omega) (by rw [cntAll_mark cntParcel_mk]; exact HSL.out)).mono ?_
  rintro e w22 ⟨rfl, hb⟩
  rw [heldAll_mark cntParcel_mk mkParcel_mk]
  have HS20 := hide (HA.out.by hb)
  clear hb HA
  go_wp2_with fail
  go_ret
  exact ⟨rfl, HS20.out.below⟩
end Go.Proofs.Ytdmhjfajicclaaa
