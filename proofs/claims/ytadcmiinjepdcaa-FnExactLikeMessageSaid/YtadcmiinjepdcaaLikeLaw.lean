/- The law of LikeMessage: its walk. -/
import Derived.Test.YtadcmiinjepdcaaLikeCall
import Derived.Test.YtadcmiinjepdcaaLogBase
import Derived.Deep.RegionWith
namespace Go.Proofs.Ytadcmiinjepdcaa
open Go Go.RowKit Go.BigFrame
set_option linter.unusedVariables false
set_option linter.unusedSimpArgs false

set_option maxHeartbeats 8000000 in
theorem fnExactLikeMessage_c (l : Log) (v1 : Value) (n : Int) (s : Int) (w : World) (h1 : SliceK messageD w v1 l.messages) (ht : okLog l) :
    Calls Try.prog 3 #[.agg #[.int .i64 l.next, v1], .int .i64 n, .int .i64 s] w fun e w' => e = .returned (.bool true) ∧ Below w.heap.size w w' := by
  obtain ⟨A1, c1, rfl⟩ := h1.shape
  obtain ⟨W0, hW0⟩ : ∃ W0, W0 = w.alloc (.cells #[.int .i64 l.next, .slice A1 l.messages.length c1] 24) := ⟨_, rfl⟩
  have HW := hide (boxed hW0).1
  have hz0 := (boxed hW0).2
  have H1 := hide (h1.below HW.out)
  have HC := hide (Cells.new hW0)
  clear h1
  have HT := hide (okTexts_of ht)
  go_enter Try.func3, Try.ntmps3
  go_wp2_with fail
  rw [← hW0]
  refine (szLog_c l _ _ _ H1.out (by decide) (by decide) ht).mono ?_
  rintro e w1 ⟨⟨r, rfl, hr⟩, hb1⟩
  have HX1 := hide hb1
  clear hb1 hW0 ht
  rcases szR_spec hr (by decide) with ⟨hr1, hr2⟩ | ⟨hr1, hr2⟩
  · have hfew := fewLog_of (l := l) (by omega)
    have hr0 : 0 ≤ r := by omega
    have HN := hide (show (1 : Int) + tcntLog l ≤ 1000000000000 by have := tcntLog_le l; omega)
    have HF := hide hfew
    have HS := hide (show (1 : Int) + tcntLog (likeL l n s) ≤ 1000000000000 by have := like_cnt l n s; omega)
    clear hfew hr hr1 hr2
    have HC1 := hide (HC.out.below HX1.out)
    have c0 := HC1.out 0 _ rfl
    have c1 := HC1.out 1 _ rfl
    go_wp2_with fail
    -- the reference's answer
    refine (toLog_c l _ _ (H1.out.below HX1.out) HF.out).mono ?_
    rintro e w2 ⟨cs2, F2, rfl, hM2, hn2, hl2, hb2⟩
    obtain ⟨u2_1, rfl, hK2_1⟩ := log_K (logD.M_K hM2)
    have HX2 := hide (below_step HX1.out hb2)
    have HK2_1 := hide hK2_1
    clear hM2 hn2 hl2 hb2 hK2_1 c0 c1
    go_wp2_with fail
    refine (specLikeMessage_c l _ n s _ HK2_1.out HT.out).mono ?_
    rintro e w3 ⟨cs3, F3, rfl, hM3, hn3, hl3, hb3⟩
    obtain ⟨r3_1, rfl, -⟩ := log_K (logD.M_K hM3)
    obtain ⟨ra3_1, rc3_1, rfl⟩ := (log_MK hM3).shape
    have HX3 := hide (below_step HX2.out hb3)
    have lt3 : ∀ b ∈ F3, b < w3.heap.size := logD.M_lt hM3
    have HC3 := hide (HC.out.below HX3.out)
    have c0 := HC3.out 0 _ rfl
    have c1 := HC3.out 1 _ rfl
    have hbw3 := HC3.out.lt (by simp)
    go_wp2_with fail
    obtain ⟨V3, hV3⟩ : ∃ V, V = w3.alloc (.cells #[.int .i64 (likeL l n s).next, .slice ra3_1 (likeL l n s).messages.length rc3_1] 28) := ⟨_, rfl⟩
    rw [← hV3]
    clear c0 c1 hbw3
    have hV3b := (boxed hV3).1
    have hz3 := (boxed hV3).2
    have M3 := hide (Dt.by hM3 hV3b)
    have C3 := hide (Cells.new hV3)
    have HX3v := hide (below_step HX3.out hV3b)
    have hn0 := HX3.out.size
    clear hV3 hb3 hM3 hn3 hl3 hV3b
    -- the program's answer
    refine (toLog_c l _ _ (H1.out.below HX3v.out) HF.out).mono ?_
    rintro e w4 ⟨cs4, F4, rfl, hM4, hn4, hl4, hb4⟩
    obtain ⟨u4_1, rfl, hK4_1⟩ := log_K (logD.M_K hM4)
    have HX4 := hide (below_step HX3v.out hb4)
    have M3_4 := hide (Dt.by M3.out hb4)
    have C3_4 := hide (C3.out.below hb4)
    have lt4 : ∀ b ∈ F4, b < w4.heap.size := logD.M_lt hM4
    have ge4V : ∀ b ∈ F4, V3.heap.size ≤ b := hl4
    have ge4 : ∀ b ∈ F4, w3.heap.size ≤ b := fun b hb => Nat.le_trans (by omega) (hl4 b hb)
    have hzb4 := hb4.size
    obtain ⟨B4_1, e4_1, rfl⟩ := hK4_1.shape
    have M4 := hide hM4
    have N4 := hide hn4
    have HK4_1 := hide hK4_1
    clear hM4 hn4 hl4 hb4 hK4_1 
    go_wp2_with fail
    obtain ⟨V4, hV4⟩ : ∃ V, V = w4.alloc (.cells #[.int .i64 l.next, .slice B4_1 l.messages.length e4_1] 28) := ⟨_, rfl⟩
    rw [← hV4]
    have hb4v := (boxed hV4).1
    have hz4 := (boxed hV4).2
    have HX4v := hide (below_step HX4.out hb4v)
    have M3_4v := hide (Dt.by M3_4.out hb4v)
    have C3_4v := hide (C3_4.out.below hb4v)
    have C4 := hide (Cells.new hV4)
    have M4v := hide (Dt.by M4.out hb4v)
    have h34 : w3.heap.size ≤ V4.heap.size := by omega
    have h34V : V3.heap.size ≤ V4.heap.size := by omega
    have x0 := C4.out 0 _ rfl
    have x1 := C4.out 1 _ rfl
    have HV4b := hide hb4v
    clear hb4v hV4
    refine (likeMessage_c l _ n s _ (HK4_1.out.below HV4b.out) HT.out).mono ?_
    rintro e w5 ⟨cs5, F5, rfl, hM5, hn5, hl5, hb5⟩
    obtain ⟨r5_1, rfl, -⟩ := log_K (logD.M_K hM5)
    obtain ⟨ra5_1, rc5_1, rfl⟩ := (log_MK hM5).shape
    have HX5 := hide (below_step HX4v.out hb5)
    have M3_5 := hide (Dt.by M3_4v.out hb5)
    have C3_5 := hide (C3_4v.out.below hb5)
    have C4_5 := hide (C4.out.below hb5)
    have M4_5 := hide (Dt.by M4v.out hb5)
    have ge5 : ∀ b ∈ F5, V4.heap.size ≤ b := hl5
    have lt5 : ∀ b ∈ F5, b < w5.heap.size := logD.M_lt hM5
    have ge5x : ∀ b ∈ F5, w3.heap.size ≤ b := fun b hb => Nat.le_trans h34 (ge5 b hb)
    have hzb5 := hb5.size
    have N5 := hide hn5
    have HQ5 := hide hM5
    clear hM5 hn5 hl5 hb5
    have s0 := C3_5.out 0 _ rfl
    have s1 := C3_5.out 1 _ rfl
    have hbs5 := C3_5.out.lt (by simp)
    go_wp2_with fail
    obtain ⟨V5, hV5⟩ : ∃ V, V = w5.alloc (.cells #[.int .i64 (likeL l n s).next, .slice ra5_1 (likeL l n s).messages.length rc5_1] 28) := ⟨_, rfl⟩
    rw [← hV5]
    clear s0 s1 hbs5
    have hV5b := (boxed hV5).1
    have hz5 := (boxed hV5).2
    have M5 := hide (Dt.by HQ5.out hV5b)
    have HX5v := hide (below_step HX5.out hV5b)
    have M3_5v := hide (Dt.by M3_5.out hV5b)
    have C3_5v := hide (C3_5.out.below hV5b)
    have C4_5v := hide (C4_5.out.below hV5b)
    have M4_5v := hide (Dt.by M4_5.out hV5b)
    have C5 := hide (Cells.new hV5)
    clear hV5 hV5b HQ5
    clear x0 x1
    refine (eqLog_c (likeL l n s) (likeL l n s) _ _ _ (log_MK M5.out) (log_MK M3_5v.out)).mono ?_
    rintro e w6 ⟨rfl, hb6⟩
    rw [eqLogB_eq, dec_same]
    have HX6 := hide (below_step HX5v.out hb6)
    have M3_6 := hide (Dt.by M3_5v.out hb6)
    have C3_6 := hide (C3_5v.out.below hb6)
    have C4_6 := hide (C4_5v.out.below hb6)
    have M4_6 := hide (Dt.by M4_5v.out hb6)
    have M5_6 := hide (Dt.by M5.out hb6)
    have C5_6 := hide (C5.out.below hb6)
    clear hb6
    have HC6 := hide (HC.out.below HX6.out)
    have c0 := HC6.out 0 _ rfl
    have c1 := HC6.out 1 _ rfl
    have x0 := C4_6.out 0 _ rfl
    have x1 := C4_6.out 1 _ rfl
    go_wp2_with fail
    go_region_with (first
      | (go_at_call 10
         refine (toLog_c l _ _ (H1.out.below (below_step HX6.out (Below.refl _ _).drew)) HF.out).mono ?_
         rintro e w7 ⟨cs7, F7, rfl, hM7, -, -, hb7⟩
         obtain ⟨u7_1, rfl, hK7_1⟩ := log_K (logD.M_K hM7)
         have hb7 := (Below.refl _ w6).drew.trans hb7
         have y0 := cell_below hb7 x0
         have y1 := cell_below hb7 x1
         clear hM7)
      | (go_at_call 12
         refine (eqLog_c l l _ _ _ (((log_MK M4_6.out)).below hb7) hK7_1).mono ?_
         rintro e w8 ⟨rfl, hb8⟩
         rw [eqLogB_eq, dec_same]))
    all_goals
      have Z8 : Below w6.heap.size w6 w8 := below_step hb7 hb8
      have HX8 := hide (below_step HX6.out Z8)
      have M3_8 := hide (Dt.by M3_6.out Z8)
      have C3_8 := hide (C3_6.out.below Z8)
      have C4_8 := hide (C4_6.out.below Z8)
      have M4_8 := hide (Dt.by M4_6.out Z8)
      have M5_8 := hide (Dt.by M5_6.out Z8)
      have C5_8 := hide (C5_6.out.below Z8)
      have xx0 := C4_8.out 0 _ rfl
      have xx1 := C4_8.out 1 _ rfl
      clear Z8 hb7 hb8 c0 c1 x0 x1
      go_wp2_with fail
      refine (markLog_c l _ F4 1 _ M4_8.out N4.out (by decide) HN.out).mono ?_
      rintro e w9 ⟨rfl, -, hc9⟩
      have HX9 := hide (HX8.out.trans (hc9.below (B := W0.heap.size) HX8.out.size (fun b hb => Nat.le_trans hn0 (ge4 b hb))))
      have M3_9 := hide (Dt.chg M3_8.out hc9 (apart lt3 ge4))
      have C3_9 := hide (C3_8.out.chg hc9 (out_ge (n := V3.heap.size) (by omega) ge4V))
      have M5_9 := hide (Dt.chg M5_8.out hc9 (apart' (fun b hb => Nat.le_trans (by omega) (ge5 b hb)) lt4))
      have C5_9 := hide (C5_8.out.chg hc9 (out_lt (n := w4.heap.size) (by omega) lt4))
      have hk9 : decide ((1 : Int) + (tcntLog l : Int) < 0) = false := by simp; omega
      clear hc9 xx0 xx1
      have g0 := C5_9.out 0 _ rfl
      have g1 := C5_9.out 1 _ rfl
      have s0 := C3_9.out 0 _ rfl
      have s1 := C3_9.out 1 _ rfl
      go_wp2_with fail
      clear g0 g1 s0 s1
      refine (eqLog_c (likeL l n s) (likeL l n s) _ _ _ (log_MK M5_9.out) (log_MK M3_9.out)).mono ?_
      rintro e w10 ⟨rfl, hb10⟩
      rw [eqLogB_eq, dec_same]
      have HX10 := hide (below_step HX9.out hb10)
      have M3_10 := hide (Dt.by M3_9.out hb10)
      have C3_10 := hide (C3_9.out.below hb10)
      have M5_10 := hide (Dt.by M5_9.out hb10)
      have C5_10 := hide (C5_9.out.below hb10)
      clear hb10
      clear hk9
      have g0 := C5_10.out 0 _ rfl
      have g1 := C5_10.out 1 _ rfl
      go_wp2_with fail
      clear g0 g1
      refine (markLog_c (likeL l n s) _ F5 1 _ M5_10.out N5.out (by decide) HS.out).mono ?_
      rintro e w11 ⟨rfl, hM11, hc11⟩
      have HX11 := hide (HX10.out.trans (hc11.below (B := W0.heap.size) HX10.out.size (fun b hb => Nat.le_trans hn0 (ge5x b hb))))
      have M3_11 := hide (Dt.chg M3_10.out hc11 (apart lt3 (fun b hb => Nat.le_trans h34 (ge5 b hb))))
      have C3_11 := hide (C3_10.out.chg hc11 (out_ge (n := V3.heap.size) (by omega) (fun b hb => Nat.le_trans h34V (ge5 b hb))))
      have C5_11 := hide (C5_10.out.chg hc11 (out_lt (n := w5.heap.size) (Nat.le_refl _) lt5))
      have M5_11 := hide hM11
      have hk11 : decide ((1 : Int) + (tcntLog (likeL l n s) : Int) < 0) = false := by simp; omega
      clear hc11 hM11
      have g0 := C5_11.out 0 _ rfl
      have g1 := C5_11.out 1 _ rfl
      go_wp2_with fail
      clear g0 g1
      refine (heldLog_c (tmkLog 1 (likeL l n s)) _ 1 _ (log_MK (x := tmkLog 1 (likeL l n s)) M5_11.out) (by decide) (by rw [tcntLog_mk]; exact HS.out)).mono ?_
      rintro e w12 ⟨rfl, hb12⟩
      rw [theldLog_mk]
      have HX12 := hide (below_step HX11.out hb12)
      have M3_12 := hide (Dt.by M3_11.out hb12)
      have C3_12 := hide (C3_11.out.below hb12)
      have M5_12 := hide (Dt.by M5_11.out hb12)
      have C5_12 := hide (C5_11.out.below hb12)
      clear hb12
      have HC12 := hide (HC.out.below HX12.out)
      have c0 := HC12.out 0 _ rfl
      have c1 := HC12.out 1 _ rfl
      go_wp2_with fail
      refine (toLog_c l _ _ (H1.out.below HX12.out) HF.out).mono ?_
      rintro e w13 ⟨cs13, F13, rfl, hM13, hn13, hl13, hb13⟩
      obtain ⟨u13_1, rfl, hK13_1⟩ := log_K (logD.M_K hM13)
      have HX13 := hide (below_step HX12.out hb13)
      have M3_13 := hide (Dt.by M3_12.out hb13)
      have C3_13 := hide (C3_12.out.below hb13)
      have M5_13 := hide (Dt.by M5_12.out hb13)
      have C5_13 := hide (C5_12.out.below hb13)
      clear hM13 hn13 hl13 hb13 c0 c1
      have HK13_1 := hide hK13_1
      clear hK13_1
      go_wp2_with fail
      refine (likeMessage_c l _ n s _ HK13_1.out HT.out).mono ?_
      rintro e w14 ⟨cs14, F14, rfl, hM14, hn14, hl14, hb14⟩
      obtain ⟨r14_1, rfl, -⟩ := log_K (logD.M_K hM14)
      obtain ⟨ra14_1, rc14_1, rfl⟩ := (log_MK hM14).shape
      have HX14 := hide (below_step HX13.out hb14)
      have M3_14 := hide (Dt.by M3_13.out hb14)
      have C3_14 := hide (C3_13.out.below hb14)
      have M5_14 := hide (Dt.by M5_13.out hb14)
      have C5_14 := hide (C5_13.out.below hb14)
      have HQ14 := hide hM14
      clear hM14 hn14 hl14 hb14
      have s0 := C3_14.out 0 _ rfl
      have s1 := C3_14.out 1 _ rfl
      have hbs14 := C3_14.out.lt (by simp)
      go_wp2_with fail
      obtain ⟨V6, hV6⟩ : ∃ V, V = w14.alloc (.cells #[.int .i64 (likeL l n s).next, .slice ra14_1 (likeL l n s).messages.length rc14_1] 28) := ⟨_, rfl⟩
      rw [← hV6]
      clear s0 s1 hbs14
      have hV6b := (boxed hV6).1
      have M6 := hide (Dt.by HQ14.out hV6b)
      have HX14v := hide (below_step HX14.out hV6b)
      have M3_14v := hide (Dt.by M3_14.out hV6b)
      have C3_14v := hide (C3_14.out.below hV6b)
      have M5_14v := hide (Dt.by M5_14.out hV6b)
      have C5_14v := hide (C5_14.out.below hV6b)
      have C6 := hide (Cells.new hV6)
      clear hV6 hV6b HQ14
      refine (eqLog_c (likeL l n s) (likeL l n s) _ _ _ (log_MK M6.out) (log_MK M3_14v.out)).mono ?_
      rintro e w15 ⟨rfl, hb15⟩
      rw [eqLogB_eq, dec_same]
      have HX15 := hide (below_step HX14v.out hb15)
      have M3_15 := hide (Dt.by M3_14v.out hb15)
      have C3_15 := hide (C3_14v.out.below hb15)
      have M5_15 := hide (Dt.by M5_14v.out hb15)
      have C5_15 := hide (C5_14v.out.below hb15)
      have M6_15 := hide (Dt.by M6.out hb15)
      have C6_15 := hide (C6.out.below hb15)
      clear hb15
      have g0 := C5_15.out 0 _ rfl
      have g1 := C5_15.out 1 _ rfl
      go_wp2_with fail
      clear g0 g1
      refine (heldLog_c (tmkLog 1 (likeL l n s)) _ 1 _ (log_MK (x := tmkLog 1 (likeL l n s)) M5_15.out) (by decide) (by rw [tcntLog_mk]; exact HS.out)).mono ?_
      rintro e w16 ⟨rfl, hb16⟩
      rw [theldLog_mk]
      have HX16 := hide (below_step HX15.out hb16)
      have M3_16 := hide (Dt.by M3_15.out hb16)
      have C3_16 := hide (C3_15.out.below hb16)
      have M5_16 := hide (Dt.by M5_15.out hb16)
      have C5_16 := hide (C5_15.out.below hb16)
      have M6_16 := hide (Dt.by M6_15.out hb16)
      have C6_16 := hide (C6_15.out.below hb16)
      clear hb16
      go_wp2_with fail
      go_ret
      exact ⟨rfl, HW.out.trans (HX16.out.mono HW.out.size)⟩
  · have hr0 : r < 0 := by omega
    clear hr hr1 hr2
    go_wp2_with fail
    go_ret
    exact ⟨rfl, HW.out.trans (HX1.out.mono HW.out.size)⟩
end Go.Proofs.Ytadcmiinjepdcaa
