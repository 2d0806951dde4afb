/- The law of IsAllowed: its walk. -/
import Derived.Test.YtjfpbiondckflaaAllowed
import Derived.Test.YtjfpbiondckflaaRoomLaws
import Derived.Deep.RegionWith
namespace Go.Proofs.Ytjfpbiondckflaa
open Go Go.RowKit Go.BigFrame
set_option linter.unusedVariables false
set_option linter.unusedSimpArgs false

set_option maxHeartbeats 8000000 in
theorem fnExactIsAllowed_c (l : Room) (v1 v2 v3 : Value) (n : Int) (act : Int) (a : Int) (w : World) (h1 : SliceK memberD w v1 l.members) (h2 : SliceK inviteD w v2 l.invites) (h3 : SliceK banD w v3 l.bans) :
    Calls Try.prog 3 #[.agg #[.bool l.open_, v1, v2, v3], .int .i64 n, .int .i64 act, .int .i64 a] w fun e w' => e = .returned (.bool true) ∧ Below w.heap.size w w' := by
  obtain ⟨A1, c1, rfl⟩ := h1.shape
  obtain ⟨A2, c2, rfl⟩ := h2.shape
  obtain ⟨A3, c3, rfl⟩ := h3.shape
  obtain ⟨W0, hW0⟩ : ∃ W0, W0 = w.alloc (.cells #[.bool l.open_, .slice A1 l.members.length c1, .slice A2 l.invites.length c2, .slice A3 l.bans.length c3] 26) := ⟨_, rfl⟩
  have HW := hide (boxed hW0).1
  have hz0 := (boxed hW0).2
  have H1 := hide (h1.below HW.out)
  have H2 := hide (h2.below HW.out)
  have H3 := hide (h3.below HW.out)
  have HC := hide (Cells.new hW0)
  clear h1 h2 h3
  go_enter Try.func3, Try.ntmps3
  go_wp2_with fail
  rw [← hW0]
  refine (szRoom_c l _ _ _ _ _ H1.out H2.out H3.out (by decide) (by decide)).mono ?_
  rintro e w1 ⟨⟨r, rfl, hr⟩, hb1⟩
  have HX1 := hide hb1
  clear hb1 hW0
  rcases szR_spec hr (by decide) with ⟨hr1, hr2⟩ | ⟨hr1, hr2⟩
  · have hfew := fewRoom_of (l := l) (by omega)
    have hr0 : 0 ≤ r := by omega
    have HF := hide hfew
    clear hfew hr hr1 hr2
    have HC1 := hide (HC.out.below HX1.out)
    have c0 := HC1.out 0 _ rfl
    have c1 := HC1.out 1 _ rfl
    have c2 := HC1.out 2 _ rfl
    have c3 := HC1.out 3 _ rfl
    go_wp2_with fail
    -- the reference's answer
    refine (toRoom_c l _ _ _ _ (H1.out.below HX1.out) (H2.out.below HX1.out) (H3.out.below HX1.out) HF.out).mono ?_
    rintro e w2 ⟨cs2, F2, rfl, hM2, hn2, hl2, hb2⟩
    obtain ⟨u2_1, u2_2, u2_3, rfl, hK2_1, hK2_2, hK2_3⟩ := room_K (roomD.M_K hM2)
    have HX2 := hide (below_step HX1.out hb2)
    have HK2_1 := hide hK2_1
    have HK2_2 := hide hK2_2
    have HK2_3 := hide hK2_3
    clear hM2 hn2 hl2 hb2 hK2_1 hK2_2 hK2_3 c0 c1 c2 c3
    go_wp2_with fail
    refine (specIsAllowed_c l _ _ _ n act a _ HK2_1.out HK2_2.out HK2_3.out).mono ?_
    rintro e w3 ⟨rfl, hb3⟩
    have HX3 := hide (below_step HX2.out hb3)
    clear hb3
    have HC3 := hide (HC.out.below HX3.out)
    have c0 := HC3.out 0 _ rfl
    have c1 := HC3.out 1 _ rfl
    have c2 := HC3.out 2 _ rfl
    have c3 := HC3.out 3 _ rfl
    go_wp2_with fail
    -- the program's answer
    refine (toRoom_c l _ _ _ _ (H1.out.below HX3.out) (H2.out.below HX3.out) (H3.out.below HX3.out) HF.out).mono ?_
    rintro e w4 ⟨cs4, F4, rfl, hM4, hn4, hl4, hb4⟩
    obtain ⟨u4_1, u4_2, u4_3, rfl, hK4_1, hK4_2, hK4_3⟩ := room_K (roomD.M_K hM4)
    have HX4 := hide (below_step HX3.out hb4)
    have lt4 : ∀ b ∈ F4, b < w4.heap.size := roomD.M_lt hM4
    have hzb4 := hb4.size
    obtain ⟨B4_1, e4_1, rfl⟩ := hK4_1.shape
    obtain ⟨B4_2, e4_2, rfl⟩ := hK4_2.shape
    obtain ⟨B4_3, e4_3, rfl⟩ := hK4_3.shape
    have M4 := hide hM4
    have N4 := hide hn4
    have HK4_1 := hide hK4_1
    have HK4_2 := hide hK4_2
    have HK4_3 := hide hK4_3
    clear hM4 hn4 hl4 hb4 hK4_1 hK4_2 hK4_3 c0 c1 c2 c3
    go_wp2_with fail
    obtain ⟨V4, hV4⟩ : ∃ V, V = w4.alloc (.cells #[.bool l.open_, .slice B4_1 l.members.length e4_1, .slice B4_2 l.invites.length e4_2, .slice B4_3 l.bans.length e4_3] 33) := ⟨_, rfl⟩
    rw [← hV4]
    have hb4v := (boxed hV4).1
    have hz4 := (boxed hV4).2
    have HX4v := hide (below_step HX4.out hb4v)
    have C4 := hide (Cells.new hV4)
    have M4v := hide (Dt.by M4.out hb4v)
    have x0 := C4.out 0 _ rfl
    have x1 := C4.out 1 _ rfl
    have x2 := C4.out 2 _ rfl
    have x3 := C4.out 3 _ rfl
    have HV4b := hide hb4v
    clear hb4v hV4
    refine (isAllowed_c l _ _ _ n act a _ (HK4_1.out.below HV4b.out) (HK4_2.out.below HV4b.out) (HK4_3.out.below HV4b.out)).mono ?_
    rintro e w5 ⟨rfl, hb5⟩
    have HX5 := hide (below_step HX4v.out hb5)
    have C4_5 := hide (C4.out.below hb5)
    have M4_5 := hide (Dt.by M4v.out hb5)
    clear hb5
    clear x0 x1 x2 x3
    go_wp2_with fail
    have HC5 := hide (HC.out.below HX5.out)
    have c0 := HC5.out 0 _ rfl
    have c1 := HC5.out 1 _ rfl
    have c2 := HC5.out 2 _ rfl
    have c3 := HC5.out 3 _ rfl
    have x0 := C4_5.out 0 _ rfl
    have x1 := C4_5.out 1 _ rfl
    have x2 := C4_5.out 2 _ rfl
    have x3 := C4_5.out 3 _ rfl
    go_wp2_with fail
    go_region_with (first
      | (go_at_call 7
         refine (toRoom_c l _ _ _ _ (H1.out.below (below_step HX5.out (Below.refl _ _).drew)) (H2.out.below (below_step HX5.out (Below.refl _ _).drew)) (H3.out.below (below_step HX5.out (Below.refl _ _).drew)) HF.out).mono ?_
         rintro e w6 ⟨cs6, F6, rfl, hM6, -, -, hb6⟩
         obtain ⟨u6_1, u6_2, u6_3, rfl, hK6_1, hK6_2, hK6_3⟩ := room_K (roomD.M_K hM6)
         have hb6 := (Below.refl _ w5).drew.trans hb6
         have y0 := cell_below hb6 x0
         have y1 := cell_below hb6 x1
         have y2 := cell_below hb6 x2
         have y3 := cell_below hb6 x3
         clear hM6)
      | (go_at_call 9
         refine (eqRoom_c l l _ _ _ _ _ _ _ (((room_MK M4_5.out).1).below hb6) (((room_MK M4_5.out).2.1).below hb6) (((room_MK M4_5.out).2.2).below hb6) hK6_1 hK6_2 hK6_3).mono ?_
         rintro e w7 ⟨rfl, hb7⟩
         rw [eqRoomB_eq, dec_same]))
    all_goals
      have Z7 : Below w5.heap.size w5 w7 := below_step hb6 hb7
      have HX7 := hide (below_step HX5.out Z7)
      have C4_7 := hide (C4_5.out.below Z7)
      have M4_7 := hide (Dt.by M4_5.out Z7)
      clear Z7 hb6 hb7 c0 c1 c2 c3 x0 x1 x2 x3
      go_wp2_with fail
      go_ret
      exact ⟨rfl, HW.out.trans (HX7.out.mono HW.out.size)⟩
  · have hr0 : r < 0 := by omega
    clear hr hr1 hr2
    go_wp2_with fail
    go_ret
    exact ⟨rfl, HW.out.trans (HX1.out.mono HW.out.size)⟩
end Go.Proofs.Ytjfpbiondckflaa
