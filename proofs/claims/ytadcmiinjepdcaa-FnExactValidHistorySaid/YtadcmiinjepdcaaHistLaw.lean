/- The law of ValidHistory: its walk. -/
import Derived.Test.YtadcmiinjepdcaaHist
import Derived.Test.YtadcmiinjepdcaaLogBase
import Derived.Test.YtadcmiinjepdcaaLawEvent
import Derived.Test.YtadcmiinjepdcaaEventLaws
import Derived.Deep.RegionHeld3
namespace Go.Proofs.Ytadcmiinjepdcaa
open Go Go.RowKit Go.BigFrame
set_option linter.unusedVariables false
set_option linter.unusedSimpArgs false

set_option maxHeartbeats 16000000 in
set_option maxRecDepth 100000 in
theorem fnExactValidHistory_c (h : History) (v0_1 : Value) (v0_2 : Value) (w : World) (h0_1 : SliceK messageD w v0_1 h.base.messages) (h0_2 : SliceK eventD w v0_2 h.events) (ok0 : okHistory h) :
    Calls Try.prog 6 #[.agg #[.int .i64 h.base.next, v0_1, v0_2]] w fun e w' => e = .returned (.bool true) ∧ Below w.heap.size w w' := by
  obtain ⟨A0_1, c0_1, rfl⟩ := h0_1.shape
  obtain ⟨A0_2, c0_2, rfl⟩ := h0_2.shape
  obtain ⟨U1, hU1⟩ : ∃ U, U = w.alloc (.cells #[.int .i64 h.base.next, .slice A0_1 h.base.messages.length c0_1, .slice A0_2 h.events.length c0_2] 51) := ⟨_, rfl⟩
  have hz1 := (boxed hU1).2
  obtain ⟨W0, hW0⟩ : ∃ W, W = U1 := ⟨_, rfl⟩
  have HW := hide (show Below w.heap.size w W0 by rw [hW0]; exact below_step (Below.refl _ _) (boxed hU1).1)
  have HSZ0 := hide (show w.heap.size + 1 = W0.heap.size by rw [hW0]; omega)
  have hcc0 := Cells.new hU1
  rw [← hW0] at hcc0
  have HC0 := hide hcc0
  clear hcc0
  have HX0 := hide (Below.refl W0.heap.size W0)
  have H0_1 := hide (h0_1.below HW.out)
  have H0_2 := hide (h0_2.below HW.out)
  clear h0_1 h0_2
  have HO0 := hide ok0
  clear ok0
  go_enter Try.func6, Try.ntmps6
  go_wp2_with fail
  rw [← hU1, ← hW0]
  clear hU1 hz1 hW0
  refine (szHistory_c h _ _ _ _ (H0_1.out.below HX0.out) (H0_2.out.below HX0.out) (by omega) (by omega) HO0.out).mono ?_
  rintro e w1 ⟨⟨r0, rfl, hr0⟩, hb⟩
  have HSZ1 := hide (And.intro (show W0.heap.size ≤ w1.heap.size by exact hb.size) HSZ0.out)
  clear HSZ0
  have HX_w1 := hide (below_step HX0.out hb)
  clear HX0
  clear hb
  rcases szR_spec hr0 (by omega) with ⟨hr, hs0⟩ | ⟨hr, hs0⟩
  rotate_left
  · have hneg : r0 < 0 := by omega
    clear hr hr0 hs0
    go_wp2_with fail
    go_ret
    exact ⟨rfl, HW.out.trans (HX_w1.out.mono HW.out.size)⟩
  have hn0 : 0 ≤ r0 ∧ r0 ≤ 1048576 := by omega
  have hq0 : (sizeHistory h : Int) ≤ 1048576 := by omega
  have hnn0 : 0 ≤ r0 := by omega
  clear hr hr0 hs0
  have HF0 := hide (fewHistory_of (l := h) (by omega))
  have HE := hide (show okHist h by exact hist_sizes HO0.out hq0)
  clear hq0 hn0
  -- the reference's answer
  have HCx0 := hide (HC0.out.below HX_w1.out)
  have a0_0 := HCx0.out 0 _ rfl
  have a0_1 := HCx0.out 1 _ rfl
  have a0_2 := HCx0.out 2 _ rfl
  clear HCx0
  go_wp2_with fail
  refine (toHistory_c h _ _ _ (H0_1.out.below HX_w1.out) (H0_2.out.below HX_w1.out) HF0.out).mono ?_
  rintro e w2 ⟨cs0, F0, rfl, hM, hF, hge, hb⟩
  obtain ⟨u0_1, u0_2, rfl, hK0_1, hK0_2⟩ := history_K (historyD.M_K hM)
  have HSZ2 := hide (And.intro (show w1.heap.size ≤ w2.heap.size by exact hb.size) HSZ1.out)
  clear HSZ1
  have HX_w2 := hide (below_step HX_w1.out hb)
  clear HX_w1
  replace a0_0 := cell_below hb a0_0
  replace a0_1 := cell_below hb a0_1
  replace a0_2 := cell_below hb a0_2
  have KK0_1 := hide hK0_1
  have KK0_2 := hide hK0_2
  clear hM hF hge hK0_1 hK0_2
  clear hb
  go_wp2_with fail
  clear a0_0 a0_1 a0_2
  refine (specValidHistory_c h _ _ _ KK0_1.out KK0_2.out HE.out).mono ?_
  rintro e w3 ⟨rfl, hb⟩
  have HSZ3 := hide (And.intro (show w2.heap.size ≤ w3.heap.size by exact hb.size) HSZ2.out)
  clear HSZ2
  have HX_w3 := hide (below_step HX_w2.out hb)
  clear HX_w2
  clear hb KK0_1 KK0_2
  -- the program's answer
  have HCx0 := hide (HC0.out.below HX_w3.out)
  have a0_0 := HCx0.out 0 _ rfl
  have a0_1 := HCx0.out 1 _ rfl
  have a0_2 := HCx0.out 2 _ rfl
  clear HCx0
  go_wp2_with fail
  refine (toHistory_c h _ _ _ (H0_1.out.below HX_w3.out) (H0_2.out.below HX_w3.out) HF0.out).mono ?_
  rintro e w4 ⟨cs0, F0, rfl, hM, hF, hge, hb⟩
  obtain ⟨u0_1, u0_2, rfl, hK0_1, hK0_2⟩ := history_K (historyD.M_K hM)
  have HSZ4 := hide (And.intro (show w3.heap.size ≤ w4.heap.size by exact hb.size) HSZ3.out)
  clear HSZ3
  have HX_w4 := hide (below_step HX_w3.out hb)
  clear HX_w3
  clear a0_0 a0_1 a0_2
  have hlt := historyD.M_lt hM
  have X0_G := hide (show ∀ b ∈ F0, w3.heap.size ≤ b ∧ b < w4.heap.size from fun b hb => ⟨hge b hb, hlt b hb⟩)
  have X0_N := hide hF
  have X0 := hide hM
  obtain ⟨B0_1, e0_1, rfl⟩ := hK0_1.shape
  obtain ⟨B0_2, e0_2, rfl⟩ := hK0_2.shape
  clear hM hF hge hlt hb hK0_1 hK0_2
  go_wp2_with fail
  obtain ⟨VX0, hV⟩ : ∃ V, V = w4.alloc (.cells #[.int .i64 h.base.next, .slice B0_1 h.base.messages.length e0_1, .slice B0_2 h.events.length e0_2] 55) := ⟨_, rfl⟩
  rw [← hV]
  have hb := (boxed hV).1
  have HSZ5 := hide (And.intro (show w4.heap.size ≤ VX0.heap.size by exact hb.size) HSZ4.out)
  clear HSZ4
  have HX_VX0 := hide (below_step HX_w4.out hb)
  clear HX_w4
  have X0_VX0 := hide (Dt.by X0.out hb)
  clear X0
  have HSZ6 := hide (And.intro (show VX0.heap.size = w4.heap.size + 1 by exact (boxed hV).2) HSZ5.out)
  clear HSZ5
  have CX0 := hide (Cells.new hV)
  clear hb hV
  have x0_0 := CX0.out 0 _ rfl
  have x0_1 := CX0.out 1 _ rfl
  have x0_2 := CX0.out 2 _ rfl
  go_wp2_with fail
  clear x0_0 x0_1 x0_2
  refine (validHistory_c h _ _ _ (history_MK X0_VX0.out).1 (history_MK X0_VX0.out).2 HE.out).mono ?_
  rintro e w5 ⟨rfl, hb⟩
  have HSZ7 := hide (And.intro (show VX0.heap.size ≤ w5.heap.size by exact hb.size) HSZ6.out)
  clear HSZ6
  have HX_w5 := hide (below_step HX_VX0.out hb)
  clear HX_VX0
  have X0_w5 := hide (Dt.by X0_VX0.out hb)
  clear X0_VX0
  have CX0_w5 := hide (CX0.out.below hb)
  clear CX0
  clear hb
  have HCx0 := hide (HC0.out.below HX_w5.out)
  have a0_0 := HCx0.out 0 _ rfl
  have a0_1 := HCx0.out 1 _ rfl
  have a0_2 := HCx0.out 2 _ rfl
  clear HCx0
  have x0_0 := CX0_w5.out 0 _ rfl
  have x0_1 := CX0_w5.out 1 _ rfl
  have x0_2 := CX0_w5.out 2 _ rfl
  go_wp2_with fail
  go_region_held3 (fun w' : World => w'.cell? ⟨w.heap.size, 0, none⟩ = some (.int .i64 h.base.next) ∧ w'.cell? ⟨w.heap.size, 1, none⟩ = some (.slice A0_1 h.base.messages.length c0_1) ∧ w'.cell? ⟨w.heap.size, 2, none⟩ = some (.slice A0_2 h.events.length c0_2) ∧ w'.cell? ⟨w4.heap.size, 0, none⟩ = some (.int .i64 h.base.next) ∧ w'.cell? ⟨w4.heap.size, 1, none⟩ = some (.slice B0_1 h.base.messages.length e0_1) ∧ w'.cell? ⟨w4.heap.size, 2, none⟩ = some (.slice B0_2 h.events.length e0_2)) (first | exact ⟨a0_0, a0_1, a0_2, x0_0, x0_1, x0_2⟩ | exact ⟨ya0_0, ya0_1, ya0_2, yx0_0, yx0_1, yx0_2⟩ | go_keep) (first
    | (go_at_call 27
       refine (toHistory_c h _ _ _ (H0_1.out.below HX_w5.out.drew) (H0_2.out.below HX_w5.out.drew) HF0.out).mono ?_
       rintro e w6 ⟨cs, F, rfl, hM, -, -, hb⟩
       obtain ⟨u_1, u_2, rfl, hK_1, hK_2⟩ := history_K (historyD.M_K hM)
       have hb1 : Below w5.heap.size w5 w6 := (Below.refl _ w5).drew.trans hb
       have ya0_0 := cell_below hb1 a0_0
       have ya0_1 := cell_below hb1 a0_1
       have ya0_2 := cell_below hb1 a0_2
       have yx0_0 := cell_below hb1 x0_0
       have yx0_1 := cell_below hb1 x0_1
       have yx0_2 := cell_below hb1 x0_2
       clear hM hb)
    | (go_at_call 29
       refine (eqHistory_c h h _ _ _ _ _ (((history_MK X0_w5.out).1).below hb1) (((history_MK X0_w5.out).2).below hb1) hK_1 hK_2).mono ?_
       rintro e w7 ⟨rfl, hb2⟩
       rw [eqHistoryB_eq, dec_same]
       replace ya0_0 := cell_below hb2 ya0_0
       replace ya0_1 := cell_below hb2 ya0_1
       replace ya0_2 := cell_below hb2 ya0_2
       replace yx0_0 := cell_below hb2 yx0_0
       replace yx0_1 := cell_below hb2 yx0_1
       replace yx0_2 := cell_below hb2 yx0_2
       skip))
  have hb := below_step hb1 hb2
  have HSZ8 := hide (And.intro (show w5.heap.size ≤ w7.heap.size by exact hb.size) HSZ7.out)
  clear HSZ7
  have HX_w7 := hide (below_step HX_w5.out hb)
  clear HX_w5
  have X0_w7 := hide (Dt.by X0_w5.out hb)
  clear X0_w5
  have CX0_w7 := hide (CX0_w5.out.below hb)
  clear CX0_w5
  clear hb hb1 hb2 a0_0 a0_1 a0_2 x0_0 x0_1 x0_2 ya0_0 ya0_1 ya0_2 yx0_0 yx0_1 yx0_2
  clear hK_1 hK_2
  go_wp2_with fail
  go_ret
  exact ⟨rfl, HW.out.trans (HX_w7.out.mono HW.out.size)⟩
end Go.Proofs.Ytadcmiinjepdcaa
