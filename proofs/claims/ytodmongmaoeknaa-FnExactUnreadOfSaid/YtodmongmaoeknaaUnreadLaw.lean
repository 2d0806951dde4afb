/- The law of UnreadOf: its walk. -/
import Derived.Test.YtodmongmaoeknaaUnread
import Derived.Test.YtodmongmaoeknaaVMsg
import Derived.Test.YtodmongmaoeknaaRTypes
import Derived.Test.YtodmongmaoeknaaPresLaws
import Derived.Deep.RegionHeld3
import Derived.Deep.Cut
namespace Go.Proofs.Ytodmongmaoeknaa
open Go Go.RowKit Go.BigFrame
set_option linter.unusedVariables false
set_option linter.unusedSimpArgs false

set_option maxHeartbeats 16000000 in
set_option maxRecDepth 100000 in
theorem fnExactUnreadOf_c (p : Presence) (v0_0 : Value) (v0_1 : Value) (v0_2 : Value) (l : Log) (v1_1 : Value) (n : Int) (w : World) (h0_0 : SliceK leaseD w v0_0 p.here) (h0_1 : SliceK leaseD w v0_1 p.typing) (h0_2 : SliceK markD w v0_2 p.marks) (h1_1 : SliceK messageD w v1_1 l.messages) (ok1 : okLog l) :
    Calls Try.prog 3 #[.agg #[v0_0, v0_1, v0_2], .agg #[.int .i64 l.next, v1_1], .int .i64 n] w fun e w' => e = .returned (.bool true) ∧ Below w.heap.size w w' := by
  obtain ⟨A0_0, c0_0, rfl⟩ := h0_0.shape
  obtain ⟨A0_1, c0_1, rfl⟩ := h0_1.shape
  obtain ⟨A0_2, c0_2, rfl⟩ := h0_2.shape
  obtain ⟨A1_1, c1_1, rfl⟩ := h1_1.shape
  obtain ⟨U1, hU1⟩ : ∃ U, U = w.alloc (.cells #[.slice A0_0 p.here.length c0_0, .slice A0_1 p.typing.length c0_1, .slice A0_2 p.marks.length c0_2] 25) := ⟨_, rfl⟩
  have hz1 := (boxed hU1).2
  obtain ⟨U2, hU2⟩ : ∃ U, U = U1.alloc (.cells #[.int .i64 l.next, .slice A1_1 l.messages.length c1_1] 28) := ⟨_, rfl⟩
  have hz2 := (boxed hU2).2
  obtain ⟨W0, hW0⟩ : ∃ W, W = U2 := ⟨_, rfl⟩
  have HW := hide (show Below w.heap.size w W0 by rw [hW0]; exact below_step (below_step (Below.refl _ _) (boxed hU1).1) (boxed hU2).1)
  have HSZ0 := hide (show w.heap.size + 2 = W0.heap.size by rw [hW0]; omega)
  have hcc0 := Cells.below (Cells.new hU1) (boxed hU2).1
  rw [← hW0] at hcc0
  have HC0 := hide hcc0
  clear hcc0
  have hcc1 := Cells.new hU2
  rw [show U1.heap.size = w.heap.size + 1 by omega] at hcc1
  rw [← hW0] at hcc1
  have HC1 := hide hcc1
  clear hcc1
  have HX0 := hide (Below.refl W0.heap.size W0)
  have H0_0 := hide (h0_0.below HW.out)
  have H0_1 := hide (h0_1.below HW.out)
  have H0_2 := hide (h0_2.below HW.out)
  clear h0_0 h0_1 h0_2
  have H1_1 := hide (h1_1.below HW.out)
  clear h1_1
  have HO1 := hide ok1
  clear ok1
  go_enter Try.func3, Try.ntmps3
  go_wp2_with fail
  rw [← hU1, ← hU2, ← hW0]
  clear hU1 hz1 hU2 hz2 hW0
  refine (szPresence_c p _ _ _ _ _ (H0_0.out.below HX0.out) (H0_1.out.below HX0.out) (H0_2.out.below HX0.out) (by omega) (by omega)).mono ?_
  rintro e w1 ⟨⟨r0, rfl, hr0⟩, hb⟩
  have HSZ1 := hide (And.intro (show W0.heap.size ≤ w1.heap.size by exact hb.size) HSZ0.out)
  clear HSZ0
  have HX_w1 := hide (below_step HX0.out hb)
  clear HX0
  clear hb
  rcases szR_spec hr0 (by omega) with ⟨hr, hs0⟩ | ⟨hr, hs0⟩
  rotate_left
  · have hneg : r0 < 0 := by omega
    clear hr hr0 hs0
    go_wp2_with fail
    go_ret
    exact ⟨rfl, HW.out.trans (HX_w1.out.mono HW.out.size)⟩
  have hn0 : 0 ≤ r0 ∧ r0 ≤ 1048576 := by omega
  have hq0 : (sizePresence p : Int) ≤ 1048576 := by omega
  have hnn0 : 0 ≤ r0 := by omega
  clear hr hr0 hs0
  have HCx1 := hide (HC1.out.below HX_w1.out)
  have a1_0 := HCx1.out 0 _ rfl
  have a1_1 := HCx1.out 1 _ rfl
  clear HCx1
  go_wp2_with fail
  refine (szLog_c l _ _ _ (H1_1.out.below HX_w1.out) (by omega) (by omega) HO1.out).mono ?_
  rintro e w2 ⟨⟨r1, rfl, hr1⟩, hb⟩
  have HSZ2 := hide (And.intro (show w1.heap.size ≤ w2.heap.size by exact hb.size) HSZ1.out)
  clear HSZ1
  have HX_w2 := hide (below_step HX_w1.out hb)
  clear HX_w1
  clear hb
  clear a1_0 a1_1
  rcases szR_spec hr1 (by omega) with ⟨hr, hs1⟩ | ⟨hr, hs1⟩
  rotate_left
  · have hneg : r1 < 0 := by omega
    clear hr hr1 hs1
    go_wp2_with fail
    go_ret
    exact ⟨rfl, HW.out.trans (HX_w2.out.mono HW.out.size)⟩
  have hn1 : 0 ≤ r1 ∧ r1 ≤ 1048576 := by omega
  have hq1 : (sizeLog l : Int) ≤ 1048576 := by omega
  have hnn1 : 0 ≤ r1 := by omega
  clear hr hr1 hs1
  have HF0 := hide (fewPresence_of (l := p) (by omega))
  have HF1 := hide (fewLog_of (l := l) (by omega))
  have hcn0 := tcntPresence_le p
  have hcn1 := tcntLog_le l
  have HN0 := hide (show (1 : Int) + (tcntPresence p : Int) ≤ 1000000000000 by omega)
  have HN1 := hide (show (1 : Int) + (tcntPresence p : Int) + (tcntLog l : Int) ≤ 1000000000000 by omega)
  have HS := hide (show (1 : Int) + (unreadL p l n).length ≤ 1000000000000 by have := unreadL_len p l n; have := HF1.out.1; omega)
  clear hq0 hq1 hn0 hn1 hcn0 hcn1
  -- the reference's answer
  have HCx0 := hide (HC0.out.below HX_w2.out)
  have a0_0 := HCx0.out 0 _ rfl
  have a0_1 := HCx0.out 1 _ rfl
  have a0_2 := HCx0.out 2 _ rfl
  clear HCx0
  have HCx1 := hide (HC1.out.below HX_w2.out)
  have a1_0 := HCx1.out 0 _ rfl
  have a1_1 := HCx1.out 1 _ rfl
  clear HCx1
  go_wp2_with fail
  go_region_held3 (fun w' : World => w'.cell? ⟨w.heap.size, 0, none⟩ = some (.slice A0_0 p.here.length c0_0) ∧ w'.cell? ⟨w.heap.size, 1, none⟩ = some (.slice A0_1 p.typing.length c0_1) ∧ w'.cell? ⟨w.heap.size, 2, none⟩ = some (.slice A0_2 p.marks.length c0_2) ∧ w'.cell? ⟨w.heap.size + 1, 0, none⟩ = some (.int .i64 l.next) ∧ w'.cell? ⟨w.heap.size + 1, 1, none⟩ = some (.slice A1_1 l.messages.length c1_1)) (first | with_reducible exact ⟨a0_0, a0_1, a0_2, a1_0, a1_1⟩ | with_reducible exact ⟨y0a0_0, y0a0_1, y0a0_2, y0a1_0, y0a1_1⟩ | with_reducible exact ⟨y1a0_0, y1a0_1, y1a0_2, y1a1_0, y1a1_1⟩ | with_reducible exact ⟨za0_0, za0_1, za0_2, za1_0, za1_1⟩ | go_keep) (first
    | (go_at_call 7
       refine (toPresence_c p _ _ _ _ (H0_0.out.below HX_w2.out.drew) (H0_1.out.below HX_w2.out.drew) (H0_2.out.below HX_w2.out.drew) HF0.out).mono ?_
       rintro e w3 ⟨cs0, F0, rfl, hM0, -, -, hb0⟩
       obtain ⟨u0_0, u0_1, u0_2, rfl, hK0_0, hK0_1, hK0_2⟩ := presence_K (presenceD.M_K hM0)
       have hbs0 : Below w2.heap.size w2 w3 := (Below.refl _ w2).drew.trans hb0
       have hbx0 := hbs0
       have y0a0_0 := cell_below hbs0 a0_0
       have y0a0_1 := cell_below hbs0 a0_1
       have y0a0_2 := cell_below hbs0 a0_2
       have y0a1_0 := cell_below hbs0 a1_0
       have y0a1_1 := cell_below hbs0 a1_1
       have KK0_0 := hide hK0_0
       have KK0_1 := hide hK0_1
       have KK0_2 := hide hK0_2)
    | (go_at_call 8
       refine (toLog_c l _ _ (H1_1.out.below (below_step HX_w2.out hbx0)) HF1.out).mono ?_
       rintro e w4 ⟨cs1, F1, rfl, hM1, -, -, hb1⟩
       obtain ⟨u1_1, rfl, hK1_1⟩ := log_K (logD.M_K hM1)
       have hbs1 := hb1
       have hbx1 := below_step hbx0 hb1
       have y1a0_0 := cell_below hbs1 y0a0_0
       have y1a0_1 := cell_below hbs1 y0a0_1
       have y1a0_2 := cell_below hbs1 y0a0_2
       have y1a1_0 := cell_below hbs1 y0a1_0
       have y1a1_1 := cell_below hbs1 y0a1_1
       replace KK0_0 := hide (KK0_0.out.below hbs1)
       replace KK0_1 := hide (KK0_1.out.below hbs1)
       replace KK0_2 := hide (KK0_2.out.below hbs1)
       have KK1_1 := hide hK1_1)
    | (go_at_call 6
       refine (specUnreadOf_c p l n _ _ _ _ _ KK0_0.out KK0_1.out KK0_2.out KK1_1.out (okTexts_of HO1.out)).mono ?_
       rintro e w5 ⟨v_w5, rfl, hm, hb⟩
       obtain ⟨A_w5, c_w5, rfl⟩ := hm.shape
       obtain ⟨F_w5, hM, hn, hl⟩ := hm
       have za0_0 := cell_below hb y1a0_0
       have za0_1 := cell_below hb y1a0_1
       have za0_2 := cell_below hb y1a0_2
       have za1_0 := cell_below hb y1a1_0
       have za1_1 := cell_below hb y1a1_1))
  have HSZ3 := hide (And.intro (show w2.heap.size ≤ w3.heap.size by exact hbs0.size) HSZ2.out)
  clear HSZ2
  have HX_w3 := hide (below_step HX_w2.out hbs0)
  clear HX_w2
  have HSZ4 := hide (And.intro (show w3.heap.size ≤ w4.heap.size by exact hbs1.size) HSZ3.out)
  clear HSZ3
  have HX_w4 := hide (below_step HX_w3.out hbs1)
  clear HX_w3
  have HSZ5 := hide (And.intro (show w4.heap.size ≤ w5.heap.size by exact hb.size) HSZ4.out)
  clear HSZ4
  have HX_w5 := hide (below_step HX_w4.out hb)
  clear HX_w4
  clear hb hbs0 hbx0 hbs1 hbx1 a0_0 a0_1 a0_2 a1_0 a1_1 y0a0_0 y0a0_1 y0a0_2 y0a1_0 y0a1_1 y1a0_0 y1a0_1 y1a0_2 y1a1_0 y1a1_1 za0_0 za0_1 za0_2 za1_0 za1_1
  have hlt := hM.lt
  have M3_G := hide (show ∀ b ∈ F_w5, w4.heap.size ≤ b ∧ b < w5.heap.size from fun b hb => ⟨hl b hb, hlt b hb⟩)
  have M3_N := hide hn
  have M3 := hide hM
  clear hM hn hl hlt
  -- the program's answer
  have HCx0 := hide (HC0.out.below HX_w5.out)
  have a0_0 := HCx0.out 0 _ rfl
  have a0_1 := HCx0.out 1 _ rfl
  have a0_2 := HCx0.out 2 _ rfl
  clear HCx0
  go_wp2_with fail
  refine (toPresence_c p _ _ _ _ (H0_0.out.below HX_w5.out) (H0_1.out.below HX_w5.out) (H0_2.out.below HX_w5.out) HF0.out).mono ?_
  rintro e w6 ⟨cs0, F0, rfl, hM, hF, hge, hb⟩
  obtain ⟨u0_0, u0_1, u0_2, rfl, hK0_0, hK0_1, hK0_2⟩ := presence_K (presenceD.M_K hM)
  have HSZ6 := hide (And.intro (show w5.heap.size ≤ w6.heap.size by exact hb.size) HSZ5.out)
  clear HSZ5
  have HX_w6 := hide (below_step HX_w5.out hb)
  clear HX_w5
  have M3_w6 := hide (M3.out.by hb)
  clear M3
  clear a0_0 a0_1 a0_2
  have hlt := presenceD.M_lt hM
  have X0_G := hide (show ∀ b ∈ F0, w5.heap.size ≤ b ∧ b < w6.heap.size from fun b hb => ⟨hge b hb, hlt b hb⟩)
  have X0_N := hide hF
  have X0 := hide hM
  obtain ⟨B0_0, e0_0, rfl⟩ := hK0_0.shape
  obtain ⟨B0_1, e0_1, rfl⟩ := hK0_1.shape
  obtain ⟨B0_2, e0_2, rfl⟩ := hK0_2.shape
  clear hM hF hge hlt hb hK0_0 hK0_1 hK0_2
  have HCx1 := hide (HC1.out.below HX_w6.out)
  have a1_0 := HCx1.out 0 _ rfl
  have a1_1 := HCx1.out 1 _ rfl
  clear HCx1
  have hlt0 : w.heap.size + 1 < w6.heap.size := by have hs := HSZ6.out; omega
  go_wp2_with fail
  clear a1_0 a1_1 hlt0
  obtain ⟨VX0, hV⟩ : ∃ V, V = w6.alloc (.cells #[.slice B0_0 p.here.length e0_0, .slice B0_1 p.typing.length e0_1, .slice B0_2 p.marks.length e0_2] 37) := ⟨_, rfl⟩
  rw [← hV]
  have hb := (boxed hV).1
  have HSZ7 := hide (And.intro (show w6.heap.size ≤ VX0.heap.size by exact hb.size) HSZ6.out)
  clear HSZ6
  have HX_VX0 := hide (below_step HX_w6.out hb)
  clear HX_w6
  have M3_VX0 := hide (M3_w6.out.by hb)
  clear M3_w6
  have X0_VX0 := hide (Dt.by X0.out hb)
  clear X0
  have HSZ8 := hide (And.intro (show VX0.heap.size = w6.heap.size + 1 by exact (boxed hV).2) HSZ7.out)
  clear HSZ7
  have CX0 := hide (Cells.new hV)
  clear hb hV
  have HCx1 := hide (HC1.out.below HX_VX0.out)
  have a1_0 := HCx1.out 0 _ rfl
  have a1_1 := HCx1.out 1 _ rfl
  clear HCx1
  go_wp2_with fail
  refine (toLog_c l _ _ (H1_1.out.below HX_VX0.out) HF1.out).mono ?_
  rintro e w7 ⟨cs1, F1, rfl, hM, hF, hge, hb⟩
  obtain ⟨u1_1, rfl, hK1_1⟩ := log_K (logD.M_K hM)
  have HSZ9 := hide (And.intro (show VX0.heap.size ≤ w7.heap.size by exact hb.size) HSZ8.out)
  clear HSZ8
  have HX_w7 := hide (below_step HX_VX0.out hb)
  clear HX_VX0
  have M3_w7 := hide (M3_VX0.out.by hb)
  clear M3_VX0
  have X0_w7 := hide (Dt.by X0_VX0.out hb)
  clear X0_VX0
  have CX0_w7 := hide (CX0.out.below hb)
  clear CX0
  clear a1_0 a1_1
  have hlt := logD.M_lt hM
  have X1_G := hide (show ∀ b ∈ F1, VX0.heap.size ≤ b ∧ b < w7.heap.size from fun b hb => ⟨hge b hb, hlt b hb⟩)
  have X1_N := hide hF
  have X1 := hide hM
  obtain ⟨B1_1, e1_1, rfl⟩ := hK1_1.shape
  clear hM hF hge hlt hb hK1_1
  have p0_0 := CX0_w7.out 0 _ rfl
  have p0_1 := CX0_w7.out 1 _ rfl
  have p0_2 := CX0_w7.out 2 _ rfl
  have hlt0 : w6.heap.size < w7.heap.size := by have hs := HSZ9.out; omega
  go_wp2_with fail
  clear p0_0 p0_1 p0_2 hlt0
  obtain ⟨VX1, hV⟩ : ∃ V, V = w7.alloc (.cells #[.int .i64 l.next, .slice B1_1 l.messages.length e1_1] 41) := ⟨_, rfl⟩
  rw [← hV]
  have hb := (boxed hV).1
  have HSZ10 := hide (And.intro (show w7.heap.size ≤ VX1.heap.size by exact hb.size) HSZ9.out)
  clear HSZ9
  have HX_VX1 := hide (below_step HX_w7.out hb)
  clear HX_w7
  have M3_VX1 := hide (M3_w7.out.by hb)
  clear M3_w7
  have X0_VX1 := hide (Dt.by X0_w7.out hb)
  clear X0_w7
  have CX0_VX1 := hide (CX0_w7.out.below hb)
  clear CX0_w7
  have X1_VX1 := hide (Dt.by X1.out hb)
  clear X1
  have HSZ11 := hide (And.intro (show VX1.heap.size = w7.heap.size + 1 by exact (boxed hV).2) HSZ10.out)
  clear HSZ10
  have CX1 := hide (Cells.new hV)
  clear hb hV
  have x0_0 := CX0_VX1.out 0 _ rfl
  have x0_1 := CX0_VX1.out 1 _ rfl
  have x0_2 := CX0_VX1.out 2 _ rfl
  have x1_0 := CX1.out 0 _ rfl
  have x1_1 := CX1.out 1 _ rfl
  go_wp2_with fail
  clear x0_0 x0_1 x0_2 x1_0 x1_1
  refine (unreadOf_c p l n _ _ _ _ _ (presence_MK X0_VX1.out).1 (presence_MK X0_VX1.out).2.1 (presence_MK X0_VX1.out).2.2 (log_MK X1_VX1.out) (okTexts_of HO1.out)).mono ?_
  rintro e w8 ⟨v_w8, rfl, hm, hb⟩
  obtain ⟨A_w8, c_w8, rfl⟩ := hm.shape
  obtain ⟨F_w8, hM, hn, hl⟩ := hm
  have HSZ12 := hide (And.intro (show VX1.heap.size ≤ w8.heap.size by exact hb.size) HSZ11.out)
  clear HSZ11
  have HX_w8 := hide (below_step HX_VX1.out hb)
  clear HX_VX1
  have M3_w8 := hide (M3_VX1.out.by hb)
  clear M3_VX1
  have X0_w8 := hide (Dt.by X0_VX1.out hb)
  clear X0_VX1
  have CX0_w8 := hide (CX0_VX1.out.below hb)
  clear CX0_VX1
  have X1_w8 := hide (Dt.by X1_VX1.out hb)
  clear X1_VX1
  have CX1_w8 := hide (CX1.out.below hb)
  clear CX1
  clear hb
  have hlt := hM.lt
  have M5_G := hide (show ∀ b ∈ F_w8, VX1.heap.size ≤ b ∧ b < w8.heap.size from fun b hb => ⟨hl b hb, hlt b hb⟩)
  have M5_N := hide hn
  have M5 := hide hM
  clear hM hn hl hlt
  go_wp2_with fail
  refine (eqInt64S_c _ _ _ _ _ M5.out.toK M3_w8.out.toK).mono ?_
  rintro e w9 ⟨rfl, hb⟩
  rw [dec_same]
  have HSZ13 := hide (And.intro (show w8.heap.size ≤ w9.heap.size by exact hb.size) HSZ12.out)
  clear HSZ12
  have HX_w9 := hide (below_step HX_w8.out hb)
  clear HX_w8
  have M3_w9 := hide (M3_w8.out.by hb)
  clear M3_w8
  have X0_w9 := hide (Dt.by X0_w8.out hb)
  clear X0_w8
  have CX0_w9 := hide (CX0_w8.out.below hb)
  clear CX0_w8
  have X1_w9 := hide (Dt.by X1_w8.out hb)
  clear X1_w8
  have CX1_w9 := hide (CX1_w8.out.below hb)
  clear CX1_w8
  have M5_w9 := hide (M5.out.by hb)
  clear M5
  clear hb
  have HCx0 := hide (HC0.out.below HX_w9.out)
  have a0_0 := HCx0.out 0 _ rfl
  have a0_1 := HCx0.out 1 _ rfl
  have a0_2 := HCx0.out 2 _ rfl
  clear HCx0
  have x0_0 := CX0_w9.out 0 _ rfl
  have x0_1 := CX0_w9.out 1 _ rfl
  have x0_2 := CX0_w9.out 2 _ rfl
  go_wp2_with fail
  go_region_held3 (fun w' : World => w'.cell? ⟨w.heap.size, 0, none⟩ = some (.slice A0_0 p.here.length c0_0) ∧ w'.cell? ⟨w.heap.size, 1, none⟩ = some (.slice A0_1 p.typing.length c0_1) ∧ w'.cell? ⟨w.heap.size, 2, none⟩ = some (.slice A0_2 p.marks.length c0_2) ∧ w'.cell? ⟨w6.heap.size, 0, none⟩ = some (.slice B0_0 p.here.length e0_0) ∧ w'.cell? ⟨w6.heap.size, 1, none⟩ = some (.slice B0_1 p.typing.length e0_1) ∧ w'.cell? ⟨w6.heap.size, 2, none⟩ = some (.slice B0_2 p.marks.length e0_2)) (first | with_reducible exact ⟨a0_0, a0_1, a0_2, x0_0, x0_1, x0_2⟩ | with_reducible exact ⟨ya0_0, ya0_1, ya0_2, yx0_0, yx0_1, yx0_2⟩ | go_keep) (first
    | (go_at_call 7
       refine (toPresence_c p _ _ _ _ (H0_0.out.below HX_w9.out.drew) (H0_1.out.below HX_w9.out.drew) (H0_2.out.below HX_w9.out.drew) HF0.out).mono ?_
       rintro e w10 ⟨cs, F, rfl, hM, -, -, hb⟩
       obtain ⟨u_0, u_1, u_2, rfl, hK_0, hK_1, hK_2⟩ := presence_K (presenceD.M_K hM)
       have hb1 : Below w9.heap.size w9 w10 := (Below.refl _ w9).drew.trans hb
       have ya0_0 := cell_below hb1 a0_0
       have ya0_1 := cell_below hb1 a0_1
       have ya0_2 := cell_below hb1 a0_2
       have yx0_0 := cell_below hb1 x0_0
       have yx0_1 := cell_below hb1 x0_1
       have yx0_2 := cell_below hb1 x0_2
       clear hM hb)
    | (go_at_call 11
       refine (eqPresence_c p p _ _ _ _ _ _ _ (((presence_MK X0_w9.out).1).below hb1) (((presence_MK X0_w9.out).2.1).below hb1) (((presence_MK X0_w9.out).2.2).below hb1) hK_0 hK_1 hK_2).mono ?_
       rintro e w11 ⟨rfl, hb2⟩
       rw [eqPresenceB_eq, dec_same]
       replace ya0_0 := cell_below hb2 ya0_0
       replace ya0_1 := cell_below hb2 ya0_1
       replace ya0_2 := cell_below hb2 ya0_2
       replace yx0_0 := cell_below hb2 yx0_0
       replace yx0_1 := cell_below hb2 yx0_1
       replace yx0_2 := cell_below hb2 yx0_2
       skip))
  have hb := below_step hb1 hb2
  have HSZ14 := hide (And.intro (show w9.heap.size ≤ w11.heap.size by exact hb.size) HSZ13.out)
  clear HSZ13
  have HX_w11 := hide (below_step HX_w9.out hb)
  clear HX_w9
  have M3_w11 := hide (M3_w9.out.by hb)
  clear M3_w9
  have X0_w11 := hide (Dt.by X0_w9.out hb)
  clear X0_w9
  have CX0_w11 := hide (CX0_w9.out.below hb)
  clear CX0_w9
  have X1_w11 := hide (Dt.by X1_w9.out hb)
  clear X1_w9
  have CX1_w11 := hide (CX1_w9.out.below hb)
  clear CX1_w9
  have M5_w11 := hide (M5_w9.out.by hb)
  clear M5_w9
  clear hb hb1 hb2 a0_0 a0_1 a0_2 x0_0 x0_1 x0_2 ya0_0 ya0_1 ya0_2 yx0_0 yx0_1 yx0_2
  clear hK_0 hK_1 hK_2
  have HCx1 := hide (HC1.out.below HX_w11.out)
  have a1_0 := HCx1.out 0 _ rfl
  have a1_1 := HCx1.out 1 _ rfl
  clear HCx1
  have x1_0 := CX1_w11.out 0 _ rfl
  have x1_1 := CX1_w11.out 1 _ rfl
  go_wp2_with fail
  go_region_held3 (fun w' : World => w'.cell? ⟨w.heap.size + 1, 0, none⟩ = some (.int .i64 l.next) ∧ w'.cell? ⟨w.heap.size + 1, 1, none⟩ = some (.slice A1_1 l.messages.length c1_1) ∧ w'.cell? ⟨w7.heap.size, 0, none⟩ = some (.int .i64 l.next) ∧ w'.cell? ⟨w7.heap.size, 1, none⟩ = some (.slice B1_1 l.messages.length e1_1)) (first | with_reducible exact ⟨a1_0, a1_1, x1_0, x1_1⟩ | with_reducible exact ⟨ya1_0, ya1_1, yx1_0, yx1_1⟩ | go_keep) (first
    | (go_at_call 8
       refine (toLog_c l _ _ (H1_1.out.below HX_w11.out.drew) HF1.out).mono ?_
       rintro e w12 ⟨cs, F, rfl, hM, -, -, hb⟩
       obtain ⟨u_1, rfl, hK_1⟩ := log_K (logD.M_K hM)
       have hb1 : Below w11.heap.size w11 w12 := (Below.refl _ w11).drew.trans hb
       have ya1_0 := cell_below hb1 a1_0
       have ya1_1 := cell_below hb1 a1_1
       have yx1_0 := cell_below hb1 x1_0
       have yx1_1 := cell_below hb1 x1_1
       clear hM hb)
    | (go_at_call 12
       refine (eqLog_c l l _ _ _ (((log_MK X1_w11.out)).below hb1) hK_1).mono ?_
       rintro e w13 ⟨rfl, hb2⟩
       rw [eqLogB_eq, dec_same]
       replace ya1_0 := cell_below hb2 ya1_0
       replace ya1_1 := cell_below hb2 ya1_1
       replace yx1_0 := cell_below hb2 yx1_0
       replace yx1_1 := cell_below hb2 yx1_1
       skip))
  have hb := below_step hb1 hb2
  have HSZ15 := hide (And.intro (show w11.heap.size ≤ w13.heap.size by exact hb.size) HSZ14.out)
  clear HSZ14
  have HX_w13 := hide (below_step HX_w11.out hb)
  clear HX_w11
  have M3_w13 := hide (M3_w11.out.by hb)
  clear M3_w11
  have X0_w13 := hide (Dt.by X0_w11.out hb)
  clear X0_w11
  have CX0_w13 := hide (CX0_w11.out.below hb)
  clear CX0_w11
  have X1_w13 := hide (Dt.by X1_w11.out hb)
  clear X1_w11
  have CX1_w13 := hide (CX1_w11.out.below hb)
  clear CX1_w11
  have M5_w13 := hide (M5_w11.out.by hb)
  clear M5_w11
  clear hb hb1 hb2 a1_0 a1_1 x1_0 x1_1 ya1_0 ya1_1 yx1_0 yx1_1
  clear hK_1
  have x0_0 := CX0_w13.out 0 _ rfl
  have x0_1 := CX0_w13.out 1 _ rfl
  have x0_2 := CX0_w13.out 2 _ rfl
  go_wp2_with fail
  refine (markPresence_c p _ F0 ((1 : Int)) _ X0_w13.out X0_N.out (by omega) HN0.out).mono ?_
  rintro e w14 ⟨rfl, -, hc⟩
  have HSZ16 := hide (And.intro (show w13.heap.size ≤ w14.heap.size by exact hc.size) HSZ15.out)
  clear HSZ15
  have HX_w14 := hide (HX_w13.out.trans (hc.below (B := W0.heap.size) HX_w13.out.size (fun b hb => by have hs := HSZ16.out; have := X0_G.out b hb; omega)))
  clear HX_w13
  have M3_w14 := hide (M3_w13.out.chg hc (fun b h1 h2 => by have hs := HSZ16.out; have := M3_G.out b h1; have := X0_G.out b h2; omega))
  clear M3_w13
  have CX0_w14 := hide (CX0_w13.out.chg hc (fun h => by have hs := HSZ16.out; have := X0_G.out _ h; omega))
  clear CX0_w13
  have X1_w14 := hide (Dt.chg X1_w13.out hc (fun b h1 h2 => by have hs := HSZ16.out; have := X1_G.out b h1; have := X0_G.out b h2; omega))
  clear X1_w13
  have CX1_w14 := hide (CX1_w13.out.chg hc (fun h => by have hs := HSZ16.out; have := X0_G.out _ h; omega))
  clear CX1_w13
  have M5_w14 := hide (M5_w13.out.chg hc (fun b h1 h2 => by have hs := HSZ16.out; have := M5_G.out b h1; have := X0_G.out b h2; omega))
  clear M5_w13
  clear hc
  clear x0_0 x0_1 x0_2
  have x1_0 := CX1_w14.out 0 _ rfl
  have x1_1 := CX1_w14.out 1 _ rfl
  go_wp2_with fail
  refine (markLog_c l _ F1 ((1 : Int) + (tcntPresence p : Int)) _ X1_w14.out X1_N.out (by omega) HN1.out).mono ?_
  rintro e w15 ⟨rfl, -, hc⟩
  have HSZ17 := hide (And.intro (show w14.heap.size ≤ w15.heap.size by exact hc.size) HSZ16.out)
  clear HSZ16
  have HX_w15 := hide (HX_w14.out.trans (hc.below (B := W0.heap.size) HX_w14.out.size (fun b hb => by have hs := HSZ17.out; have := X1_G.out b hb; omega)))
  clear HX_w14
  have M3_w15 := hide (M3_w14.out.chg hc (fun b h1 h2 => by have hs := HSZ17.out; have := M3_G.out b h1; have := X1_G.out b h2; omega))
  clear M3_w14
  have CX1_w15 := hide (CX1_w14.out.chg hc (fun h => by have hs := HSZ17.out; have := X1_G.out _ h; omega))
  clear CX1_w14
  have M5_w15 := hide (M5_w14.out.chg hc (fun b h1 h2 => by have hs := HSZ17.out; have := M5_G.out b h1; have := X1_G.out b h2; omega))
  clear M5_w14
  clear hc
  clear x1_0 x1_1
  have hk : decide ((1 : Int) + (tcntPresence p : Int) + (tcntLog l : Int) < 0) = false := by simp; omega
  go_wp2_with fail
  refine (eqInt64S_c _ _ _ _ _ M5_w15.out.toK M3_w15.out.toK).mono ?_
  rintro e w16 ⟨rfl, hb⟩
  rw [dec_same]
  have HSZ18 := hide (And.intro (show w15.heap.size ≤ w16.heap.size by exact hb.size) HSZ17.out)
  clear HSZ17
  have HX_w16 := hide (below_step HX_w15.out hb)
  clear HX_w15
  have M3_w16 := hide (M3_w15.out.by hb)
  clear M3_w15
  have M5_w16 := hide (M5_w15.out.by hb)
  clear M5_w15
  clear hb
  clear hk
  go_wp2_with fail
  refine (markInt64S_c _ _ F_w8 1 _ M5_w16.out (by decide) HS.out).mono ?_
  rintro e w17 ⟨rfl, hM, hc⟩
  have HSZ19 := hide (And.intro (show w16.heap.size ≤ w17.heap.size by exact hc.size) HSZ18.out)
  clear HSZ18
  have HX_w17 := hide (HX_w16.out.trans (hc.below (B := W0.heap.size) HX_w16.out.size (fun b hb => by have hs := HSZ19.out; have := M5_G.out b hb; omega)))
  clear HX_w16
  have M3_w17 := hide (M3_w16.out.chg hc (fun b h1 h2 => by have hs := HSZ19.out; have := M3_G.out b h1; have := M5_G.out b h2; omega))
  clear M3_w16
  have M5m := hide hM
  have hk : decide ((1 : Int) + ((unreadL p l n).length : Int) < 0) = false := by simp; omega
  clear hc hM
  go_wp2_with fail
  refine (heldInt64S_c _ _ 1 _ M5m.out.toK (by decide) (by rw [marks_len]; exact HS.out)).mono ?_
  rintro e w18 ⟨rfl, hb⟩
  rw [heldI_marks]
  have HSZ20 := hide (And.intro (show w17.heap.size ≤ w18.heap.size by exact hb.size) HSZ19.out)
  clear HSZ19
  have HX_w18 := hide (below_step HX_w17.out hb)
  clear HX_w17
  have M3_w18 := hide (M3_w17.out.by hb)
  clear M3_w17
  have M5_w18 := hide (M5m.out.by hb)
  clear M5m
  clear hb
  have HCx0 := hide (HC0.out.below HX_w18.out)
  have a0_0 := HCx0.out 0 _ rfl
  have a0_1 := HCx0.out 1 _ rfl
  have a0_2 := HCx0.out 2 _ rfl
  clear HCx0
  have HCx1 := hide (HC1.out.below HX_w18.out)
  have a1_0 := HCx1.out 0 _ rfl
  have a1_1 := HCx1.out 1 _ rfl
  clear HCx1
  go_wp2_with fail
  go_region_held3 (fun w' : World => w'.cell? ⟨w.heap.size, 0, none⟩ = some (.slice A0_0 p.here.length c0_0) ∧ w'.cell? ⟨w.heap.size, 1, none⟩ = some (.slice A0_1 p.typing.length c0_1) ∧ w'.cell? ⟨w.heap.size, 2, none⟩ = some (.slice A0_2 p.marks.length c0_2) ∧ w'.cell? ⟨w.heap.size + 1, 0, none⟩ = some (.int .i64 l.next) ∧ w'.cell? ⟨w.heap.size + 1, 1, none⟩ = some (.slice A1_1 l.messages.length c1_1)) (first | with_reducible exact ⟨a0_0, a0_1, a0_2, a1_0, a1_1⟩ | with_reducible exact ⟨y0a0_0, y0a0_1, y0a0_2, y0a1_0, y0a1_1⟩ | with_reducible exact ⟨y1a0_0, y1a0_1, y1a0_2, y1a1_0, y1a1_1⟩ | with_reducible exact ⟨za0_0, za0_1, za0_2, za1_0, za1_1⟩ | go_keep) (first
    | (go_at_call 7
       refine (toPresence_c p _ _ _ _ (H0_0.out.below HX_w18.out.drew) (H0_1.out.below HX_w18.out.drew) (H0_2.out.below HX_w18.out.drew) HF0.out).mono ?_
       rintro e w19 ⟨cs0, F0, rfl, hM0, -, -, hb0⟩
       obtain ⟨u0_0, u0_1, u0_2, rfl, hK0_0, hK0_1, hK0_2⟩ := presence_K (presenceD.M_K hM0)
       have hbs0 : Below w18.heap.size w18 w19 := (Below.refl _ w18).drew.trans hb0
       have hbx0 := hbs0
       have y0a0_0 := cell_below hbs0 a0_0
       have y0a0_1 := cell_below hbs0 a0_1
       have y0a0_2 := cell_below hbs0 a0_2
       have y0a1_0 := cell_below hbs0 a1_0
       have y0a1_1 := cell_below hbs0 a1_1
       have KK0_0 := hide hK0_0
       have KK0_1 := hide hK0_1
       have KK0_2 := hide hK0_2)
    | (go_at_call 8
       refine (toLog_c l _ _ (H1_1.out.below (below_step HX_w18.out hbx0)) HF1.out).mono ?_
       rintro e w20 ⟨cs1, F1, rfl, hM1, -, -, hb1⟩
       obtain ⟨u1_1, rfl, hK1_1⟩ := log_K (logD.M_K hM1)
       have hbs1 := hb1
       have hbx1 := below_step hbx0 hb1
       have y1a0_0 := cell_below hbs1 y0a0_0
       have y1a0_1 := cell_below hbs1 y0a0_1
       have y1a0_2 := cell_below hbs1 y0a0_2
       have y1a1_0 := cell_below hbs1 y0a1_0
       have y1a1_1 := cell_below hbs1 y0a1_1
       replace KK0_0 := hide (KK0_0.out.below hbs1)
       replace KK0_1 := hide (KK0_1.out.below hbs1)
       replace KK0_2 := hide (KK0_2.out.below hbs1)
       have KK1_1 := hide hK1_1)
    | (go_at_call 9
       refine (unreadOf_c p l n _ _ _ _ _ KK0_0.out KK0_1.out KK0_2.out KK1_1.out (okTexts_of HO1.out)).mono ?_
       rintro e w21 ⟨v_w21, rfl, hm, hb⟩
       obtain ⟨A_w21, c_w21, rfl⟩ := hm.shape
       obtain ⟨F_w21, hM, hn, hl⟩ := hm
       have za0_0 := cell_below hb y1a0_0
       have za0_1 := cell_below hb y1a0_1
       have za0_2 := cell_below hb y1a0_2
       have za1_0 := cell_below hb y1a1_0
       have za1_1 := cell_below hb y1a1_1))
  have HSZ21 := hide (And.intro (show w18.heap.size ≤ w19.heap.size by exact hbs0.size) HSZ20.out)
  clear HSZ20
  have HX_w19 := hide (below_step HX_w18.out hbs0)
  clear HX_w18
  have M3_w19 := hide (M3_w18.out.by hbs0)
  clear M3_w18
  have M5_w19 := hide (M5_w18.out.by hbs0)
  clear M5_w18
  have HSZ22 := hide (And.intro (show w19.heap.size ≤ w20.heap.size by exact hbs1.size) HSZ21.out)
  clear HSZ21
  have HX_w20 := hide (below_step HX_w19.out hbs1)
  clear HX_w19
  have M3_w20 := hide (M3_w19.out.by hbs1)
  clear M3_w19
  have M5_w20 := hide (M5_w19.out.by hbs1)
  clear M5_w19
  have HSZ23 := hide (And.intro (show w20.heap.size ≤ w21.heap.size by exact hb.size) HSZ22.out)
  clear HSZ22
  have HX_w21 := hide (below_step HX_w20.out hb)
  clear HX_w20
  have M3_w21 := hide (M3_w20.out.by hb)
  clear M3_w20
  have M5_w21 := hide (M5_w20.out.by hb)
  clear M5_w20
  clear hb hbs0 hbx0 hbs1 hbx1 a0_0 a0_1 a0_2 a1_0 a1_1 y0a0_0 y0a0_1 y0a0_2 y0a1_0 y0a1_1 y1a0_0 y1a0_1 y1a0_2 y1a1_0 y1a1_1 za0_0 za0_1 za0_2 za1_0 za1_1
  have hlt := hM.lt
  have M6_G := hide (show ∀ b ∈ F_w21, w20.heap.size ≤ b ∧ b < w21.heap.size from fun b hb => ⟨hl b hb, hlt b hb⟩)
  have M6_N := hide hn
  have M6 := hide hM
  clear hM hn hl hlt
  go_wp2_with fail
  refine (eqInt64S_c _ _ _ _ _ M6.out.toK M3_w21.out.toK).mono ?_
  rintro e w22 ⟨rfl, hb⟩
  rw [dec_same]
  have HSZ24 := hide (And.intro (show w21.heap.size ≤ w22.heap.size by exact hb.size) HSZ23.out)
  clear HSZ23
  have HX_w22 := hide (below_step HX_w21.out hb)
  clear HX_w21
  have M3_w22 := hide (M3_w21.out.by hb)
  clear M3_w21
  have M5_w22 := hide (M5_w21.out.by hb)
  clear M5_w21
  have M6_w22 := hide (M6.out.by hb)
  clear M6
  clear hb
  go_wp2_with fail
  refine (heldInt64S_c _ _ 1 _ M5_w22.out.toK (by decide) (by rw [marks_len]; exact HS.out)).mono ?_
  rintro e w23 ⟨rfl, hb⟩
  rw [heldI_marks]
  have HSZ25 := hide (And.intro (show w22.heap.size ≤ w23.heap.size by exact hb.size) HSZ24.out)
  clear HSZ24
  have HX_w23 := hide (below_step HX_w22.out hb)
  clear HX_w22
  have M3_w23 := hide (M3_w22.out.by hb)
  clear M3_w22
  have M5_w23 := hide (M5_w22.out.by hb)
  clear M5_w22
  have M6_w23 := hide (M6_w22.out.by hb)
  clear M6_w22
  clear hb
  go_wp2_with fail
  go_ret
  exact ⟨rfl, HW.out.trans (HX_w23.out.mono HW.out.size)⟩
end Go.Proofs.Ytodmongmaoeknaa
