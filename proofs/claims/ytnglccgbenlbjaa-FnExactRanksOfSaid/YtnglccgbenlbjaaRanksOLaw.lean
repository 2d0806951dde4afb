/- The law of RanksOf: its walk. -/
import Derived.Test.YtnglccgbenlbjaaRanksOf
import Derived.Test.YtnglccgbenlbjaaRTypes
import Derived.Deep.RegionWith
namespace Go.Proofs.Ytnglccgbenlbjaa
open Go Go.RowKit Go.BigFrame
set_option linter.unusedVariables false
set_option linter.unusedSimpArgs false

set_option maxHeartbeats 8000000 in
theorem fnExactRanksOf_c (l : Room) (v1 v2 v3 : Value) (w : World) (h1 : SliceK memberD w v1 l.members) (h2 : SliceK inviteD w v2 l.invites) (h3 : SliceK banD w v3 l.bans) :
    Calls Try.prog 3 #[.agg #[.bool l.open_, v1, v2, v3]] w fun e w' => e = .returned (.bool true) ∧ Below w.heap.size w w' := by
  obtain ⟨A1, c1, rfl⟩ := h1.shape
  obtain ⟨A2, c2, rfl⟩ := h2.shape
  obtain ⟨A3, c3, rfl⟩ := h3.shape
  obtain ⟨W0, hW0⟩ : ∃ W0, W0 = w.alloc (.cells #[.bool l.open_, .slice A1 l.members.length c1, .slice A2 l.invites.length c2, .slice A3 l.bans.length c3] 26) := ⟨_, rfl⟩
  have HW := hide (boxed hW0).1
  have hz0 := (boxed hW0).2
  have H1 := hide (h1.below HW.out)
  have H2 := hide (h2.below HW.out)
  have H3 := hide (h3.below HW.out)
  have HC := hide (Cells.new hW0)
  clear h1 h2 h3
  go_enter Try.func3, Try.ntmps3
  go_wp2_with fail
  rw [← hW0]
  refine (szRoom_c l _ _ _ _ _ H1.out H2.out H3.out (by decide) (by decide)).mono ?_
  rintro e w1 ⟨⟨r, rfl, hr⟩, hb1⟩
  have HX1 := hide hb1
  clear hb1 hW0
  rcases szR_spec hr (by decide) with ⟨hr1, hr2⟩ | ⟨hr1, hr2⟩
  · have hfew := fewRoom_of (l := l) (by omega)
    have hr0 : 0 ≤ r := by omega
    have HN := hide (show (1 : Int) + tcntRoom l ≤ 1000000000000 by have := tcntRoom_le l; omega)
    have HF := hide hfew
    have HS := hide (show (1 : Int) + (ranksV l).length ≤ 1000000000000 by have := ranksV_len l; omega)
    clear hfew hr hr1 hr2
    have HC1 := hide (HC.out.below HX1.out)
    have c0 := HC1.out 0 _ rfl
    have c1 := HC1.out 1 _ rfl
    have c2 := HC1.out 2 _ rfl
    have c3 := HC1.out 3 _ rfl
    go_wp2_with fail
    -- the reference's answer
    refine (toRoom_c l _ _ _ _ (H1.out.below HX1.out) (H2.out.below HX1.out) (H3.out.below HX1.out) HF.out).mono ?_
    rintro e w2 ⟨cs2, F2, rfl, hM2, hn2, hl2, hb2⟩
    obtain ⟨u2_1, u2_2, u2_3, rfl, hK2_1, hK2_2, hK2_3⟩ := room_K (roomD.M_K hM2)
    have HX2 := hide (below_step HX1.out hb2)
    have HK2_1 := hide hK2_1
    have HK2_2 := hide hK2_2
    have HK2_3 := hide hK2_3
    clear hM2 hn2 hl2 hb2 hK2_1 hK2_2 hK2_3 c0 c1 c2 c3
    go_wp2_with fail
    refine (specRanksOf_c l _ _ _ _ HK2_1.out HK2_2.out HK2_3.out).mono ?_
    rintro e w3 ⟨v3, rfl, hm3, hb3⟩
    obtain ⟨A3_, n3, rfl⟩ := hm3.shape
    obtain ⟨F3, hM3, hn3, hl3⟩ := hm3
    have HX3 := hide (below_step HX2.out hb3)
    have lt3 : ∀ b ∈ F3, b < w3.heap.size := hM3.lt
    have M3 := hide hM3
    clear hb3 hM3 hn3 hl3
    have hn0 := HX3.out.size
    have HC3 := hide (HC.out.below HX3.out)
    have c0 := HC3.out 0 _ rfl
    have c1 := HC3.out 1 _ rfl
    have c2 := HC3.out 2 _ rfl
    have c3 := HC3.out 3 _ rfl
    go_wp2_with fail
    -- the program's answer
    refine (toRoom_c l _ _ _ _ (H1.out.below HX3.out) (H2.out.below HX3.out) (H3.out.below HX3.out) HF.out).mono ?_
    rintro e w4 ⟨cs4, F4, rfl, hM4, hn4, hl4, hb4⟩
    obtain ⟨u4_1, u4_2, u4_3, rfl, hK4_1, hK4_2, hK4_3⟩ := room_K (roomD.M_K hM4)
    have HX4 := hide (below_step HX3.out hb4)
    have M3_4 := hide (M3.out.by hb4)
    have lt4 : ∀ b ∈ F4, b < w4.heap.size := roomD.M_lt hM4
    have ge4 : ∀ b ∈ F4, w3.heap.size ≤ b := hl4
    have hzb4 := hb4.size
    obtain ⟨B4_1, e4_1, rfl⟩ := hK4_1.shape
    obtain ⟨B4_2, e4_2, rfl⟩ := hK4_2.shape
    obtain ⟨B4_3, e4_3, rfl⟩ := hK4_3.shape
    have M4 := hide hM4
    have N4 := hide hn4
    have HK4_1 := hide hK4_1
    have HK4_2 := hide hK4_2
    have HK4_3 := hide hK4_3
    clear hM4 hn4 hl4 hb4 hK4_1 hK4_2 hK4_3 c0 c1 c2 c3
    go_wp2_with fail
    obtain ⟨V4, hV4⟩ : ∃ V, V = w4.alloc (.cells #[.bool l.open_, .slice B4_1 l.members.length e4_1, .slice B4_2 l.invites.length e4_2, .slice B4_3 l.bans.length e4_3] 35) := ⟨_, rfl⟩
    rw [← hV4]
    have hb4v := (boxed hV4).1
    have hz4 := (boxed hV4).2
    have HX4v := hide (below_step HX4.out hb4v)
    have M3_4v := hide (M3_4.out.by hb4v)
    have C4 := hide (Cells.new hV4)
    have M4v := hide (Dt.by M4.out hb4v)
    have h34 : w3.heap.size ≤ V4.heap.size := by omega
    have x0 := C4.out 0 _ rfl
    have x1 := C4.out 1 _ rfl
    have x2 := C4.out 2 _ rfl
    have x3 := C4.out 3 _ rfl
    have HV4b := hide hb4v
    clear hb4v hV4
    refine (ranksOf_c l _ _ _ _ (HK4_1.out.below HV4b.out) (HK4_2.out.below HV4b.out) (HK4_3.out.below HV4b.out)).mono ?_
    rintro e w5 ⟨v5, rfl, hm5, hb5⟩
    obtain ⟨A5_, n5, rfl⟩ := hm5.shape
    obtain ⟨F5, hM5, hn5, hl5⟩ := hm5
    have HX5 := hide (below_step HX4v.out hb5)
    have M3_5 := hide (M3_4v.out.by hb5)
    have C4_5 := hide (C4.out.below hb5)
    have M4_5 := hide (Dt.by M4v.out hb5)
    have ge5 : ∀ b ∈ F5, V4.heap.size ≤ b := hl5
    have lt5 : ∀ b ∈ F5, b < w5.heap.size := hM5.lt
    have ge5x : ∀ b ∈ F5, w3.heap.size ≤ b := fun b hb => Nat.le_trans h34 (ge5 b hb)
    have hzb5 := hb5.size
    have N5 := hide hn5
    have M5 := hide hM5
    clear hM5 hn5 hl5 hb5
    clear x0 x1 x2 x3
    go_wp2_with fail
    refine (eqInt64S_c _ _ _ _ _ M5.out.toK M3_5.out.toK).mono ?_
    rintro e w6 ⟨rfl, hb6⟩
    rw [dec_same]
    have HX6 := hide (below_step HX5.out hb6)
    have M3_6 := hide (M3_5.out.by hb6)
    have C4_6 := hide (C4_5.out.below hb6)
    have M4_6 := hide (Dt.by M4_5.out hb6)
    have M5_6 := hide (M5.out.by hb6)
    clear hb6
    have HC6 := hide (HC.out.below HX6.out)
    have c0 := HC6.out 0 _ rfl
    have c1 := HC6.out 1 _ rfl
    have c2 := HC6.out 2 _ rfl
    have c3 := HC6.out 3 _ rfl
    have x0 := C4_6.out 0 _ rfl
    have x1 := C4_6.out 1 _ rfl
    have x2 := C4_6.out 2 _ rfl
    have x3 := C4_6.out 3 _ rfl
    go_wp2_with fail
    go_region_with (first
      | (go_at_call 7
         refine (toRoom_c l _ _ _ _ (H1.out.below (below_step HX6.out (Below.refl _ _).drew)) (H2.out.below (below_step HX6.out (Below.refl _ _).drew)) (H3.out.below (below_step HX6.out (Below.refl _ _).drew)) HF.out).mono ?_
         rintro e w7 ⟨cs7, F7, rfl, hM7, -, -, hb7⟩
         obtain ⟨u7_1, u7_2, u7_3, rfl, hK7_1, hK7_2, hK7_3⟩ := room_K (roomD.M_K hM7)
         have hb7 := (Below.refl _ w6).drew.trans hb7
         have y0 := cell_below hb7 x0
         have y1 := cell_below hb7 x1
         have y2 := cell_below hb7 x2
         have y3 := cell_below hb7 x3
         clear hM7)
      | (go_at_call 10
         refine (eqRoom_c l l _ _ _ _ _ _ _ (((room_MK M4_6.out).1).below hb7) (((room_MK M4_6.out).2.1).below hb7) (((room_MK M4_6.out).2.2).below hb7) hK7_1 hK7_2 hK7_3).mono ?_
         rintro e w8 ⟨rfl, hb8⟩
         rw [eqRoomB_eq, dec_same]))
    all_goals
      have Z8 : Below w6.heap.size w6 w8 := below_step hb7 hb8
      have HX8 := hide (below_step HX6.out Z8)
      have M3_8 := hide (M3_6.out.by Z8)
      have C4_8 := hide (C4_6.out.below Z8)
      have M4_8 := hide (Dt.by M4_6.out Z8)
      have M5_8 := hide (M5_6.out.by Z8)
      have xx0 := C4_8.out 0 _ rfl
      have xx1 := C4_8.out 1 _ rfl
      have xx2 := C4_8.out 2 _ rfl
      have xx3 := C4_8.out 3 _ rfl
      clear Z8 hb7 hb8 c0 c1 c2 c3 x0 x1 x2 x3
      go_wp2_with fail
      refine (markRoom_c l _ F4 1 _ M4_8.out N4.out (by decide) HN.out).mono ?_
      rintro e w9 ⟨rfl, -, hc9⟩
      have HX9 := hide (HX8.out.trans (hc9.below (B := W0.heap.size) HX8.out.size (fun b hb => Nat.le_trans hn0 (ge4 b hb))))
      have M3_9 := hide (M3_8.out.chg hc9 (apart lt3 ge4))
      have M5_9 := hide (M5_8.out.chg hc9 (apart' (fun b hb => Nat.le_trans (by omega) (ge5 b hb)) lt4))
      have hk9 : decide ((1 : Int) + (tcntRoom l : Int) < 0) = false := by simp; omega
      clear hc9 xx0 xx1 xx2 xx3
      go_wp2_with fail
      refine (eqInt64S_c _ _ _ _ _ M5_9.out.toK M3_9.out.toK).mono ?_
      rintro e w10 ⟨rfl, hb10⟩
      rw [dec_same]
      have HX10 := hide (below_step HX9.out hb10)
      have M3_10 := hide (M3_9.out.by hb10)
      have M5_10 := hide (M5_9.out.by hb10)
      clear hb10
      clear hk9
      go_wp2_with fail
      refine (markInt64S_c _ _ F5 1 _ M5_10.out (by decide) HS.out).mono ?_
      rintro e w11 ⟨rfl, hM11, hc11⟩
      have HX11 := hide (HX10.out.trans (hc11.below (B := W0.heap.size) HX10.out.size (fun b hb => Nat.le_trans hn0 (ge5x b hb))))
      have M3_11 := hide (M3_10.out.chg hc11 (apart lt3 (fun b hb => Nat.le_trans h34 (ge5 b hb))))
      have M5_11 := hide hM11
      have hk11 : decide ((1 : Int) + ((ranksV l).length : Int) < 0) = false := by simp; omega
      clear hc11 hM11
      go_wp2_with fail
      refine (heldInt64S_c _ _ 1 _ M5_11.out.toK (by decide) (by rw [marks_len]; exact HS.out)).mono ?_
      rintro e w12 ⟨rfl, hb12⟩
      rw [heldI_marks]
      have HX12 := hide (below_step HX11.out hb12)
      have M3_12 := hide (M3_11.out.by hb12)
      have M5_12 := hide (M5_11.out.by hb12)
      clear hb12
      have HC12 := hide (HC.out.below HX12.out)
      have c0 := HC12.out 0 _ rfl
      have c1 := HC12.out 1 _ rfl
      have c2 := HC12.out 2 _ rfl
      have c3 := HC12.out 3 _ rfl
      go_wp2_with fail
      refine (toRoom_c l _ _ _ _ (H1.out.below HX12.out) (H2.out.below HX12.out) (H3.out.below HX12.out) HF.out).mono ?_
      rintro e w13 ⟨cs13, F13, rfl, hM13, hn13, hl13, hb13⟩
      obtain ⟨u13_1, u13_2, u13_3, rfl, hK13_1, hK13_2, hK13_3⟩ := room_K (roomD.M_K hM13)
      have HX13 := hide (below_step HX12.out hb13)
      have M3_13 := hide (M3_12.out.by hb13)
      have M5_13 := hide (M5_12.out.by hb13)
      clear hM13 hn13 hl13 hb13 c0 c1 c2 c3
      have HK13_1 := hide hK13_1
      have HK13_2 := hide hK13_2
      have HK13_3 := hide hK13_3
      clear hK13_1 hK13_2 hK13_3
      go_wp2_with fail
      refine (ranksOf_c l _ _ _ _ HK13_1.out HK13_2.out HK13_3.out).mono ?_
      rintro e w14 ⟨v14, rfl, hm14, hb14⟩
      obtain ⟨A14_, n14, rfl⟩ := hm14.shape
      obtain ⟨F14, hM14, hn14, hl14⟩ := hm14
      have HX14 := hide (below_step HX13.out hb14)
      have M3_14 := hide (M3_13.out.by hb14)
      have M5_14 := hide (M5_13.out.by hb14)
      have M6 := hide hM14
      clear hM14 hn14 hl14 hb14
      go_wp2_with fail
      refine (eqInt64S_c _ _ _ _ _ M6.out.toK M3_14.out.toK).mono ?_
      rintro e w15 ⟨rfl, hb15⟩
      rw [dec_same]
      have HX15 := hide (below_step HX14.out hb15)
      have M3_15 := hide (M3_14.out.by hb15)
      have M5_15 := hide (M5_14.out.by hb15)
      have M6_15 := hide (M6.out.by hb15)
      clear hb15
      go_wp2_with fail
      refine (heldInt64S_c _ _ 1 _ M5_15.out.toK (by decide) (by rw [marks_len]; exact HS.out)).mono ?_
      rintro e w16 ⟨rfl, hb16⟩
      rw [heldI_marks]
      have HX16 := hide (below_step HX15.out hb16)
      have M3_16 := hide (M3_15.out.by hb16)
      have M5_16 := hide (M5_15.out.by hb16)
      have M6_16 := hide (M6_15.out.by hb16)
      clear hb16
      go_wp2_with fail
      go_ret
      exact ⟨rfl, HW.out.trans (HX16.out.mono HW.out.size)⟩
  · have hr0 : r < 0 := by omega
    clear hr hr1 hr2
    go_wp2_with fail
    go_ret
    exact ⟨rfl, HW.out.trans (HX1.out.mono HW.out.size)⟩
end Go.Proofs.Ytnglccgbenlbjaa
