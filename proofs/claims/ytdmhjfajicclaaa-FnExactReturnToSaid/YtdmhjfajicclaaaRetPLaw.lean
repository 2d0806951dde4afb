/- The law of ReturnTo: its walk. -/
import Derived.Test.YtdmhjfajicclaaaRetSpec
import Derived.Test.YtdmhjfajicclaaaPostCnt
import Derived.Test.YtdmhjfajicclaaaRTypes
import Derived.Deep.RegionHeld3
import Derived.Deep.Cut
namespace Go.Proofs.Ytdmhjfajicclaaa
open Go Go.RowKit Go.BigFrame
set_option linter.unusedVariables false
set_option linter.unusedSimpArgs false

set_option maxHeartbeats 16000000 in
set_option maxRecDepth 100000 in
theorem fnExactReturnTo_c (p : Post) (v0_1 : Value) (t : ByteArray) (ps : List Parcel) (v2 : Value) (w : World) (h0_1 : SliceK boxD w v0_1 p.boxes) (ok0 : okPost p) (hs_t : t.size ≤ 9223372036854775807) (h2 : SliceK parcelD w v2 ps) :
    Calls Try.prog 5 #[.agg #[.int .i64 p.limit, v0_1], .string t, v2] w fun e w' => e = .returned (.bool true) ∧ Below w.heap.size w w' := by
  obtain ⟨A0_1, c0_1, rfl⟩ := h0_1.shape
  obtain ⟨A2, c2, rfl⟩ := h2.shape
  obtain ⟨U1, hU1⟩ : ∃ U, U = w.alloc (.cells #[.int .i64 p.limit, .slice A0_1 p.boxes.length c0_1] 24) := ⟨_, rfl⟩
  have hz1 := (boxed hU1).2
  obtain ⟨W0, hW0⟩ : ∃ W, W = U1 := ⟨_, rfl⟩
  have HW := hide (show Below w.heap.size w W0 by rw [hW0]; exact below_step (Below.refl _ _) (boxed hU1).1)
  have HSZ0 := hide (show w.heap.size + 1 = W0.heap.size by rw [hW0]; omega)
  have hcc0 := Cells.new hU1
  rw [← hW0] at hcc0
  have HC0 := hide hcc0
  clear hcc0
  have HX0 := hide (Below.refl W0.heap.size W0)
  have H0_1 := hide (h0_1.below HW.out)
  clear h0_1
  have H2 := hide (h2.below HW.out)
  clear h2
  have HO0 := hide ok0
  clear ok0
  by_cases hb_t : (t.size : Int) ≤ 1048576
  rotate_left
  · have hd_t : decide ((1048576 : Int) < (t.size : Int)) = true := by simp; omega
    go_enter Try.func5, Try.ntmps5
    go_wp2_with fail
    go_ret
    exact ⟨rfl, by rw [← hU1, ← hW0]; exact HW.out⟩
  have hd_t : decide ((1048576 : Int) < (t.size : Int)) = false := by simp; omega
  have hk_t : t.size ≤ 1048576 := by omega
  go_enter Try.func5, Try.ntmps5
  go_wp2_with fail
  rw [← hU1, ← hW0]
  clear hU1 hz1 hW0
  refine (szPost_c p _ _ _ (H0_1.out.below HX0.out) (by omega) (by omega) HO0.out).mono ?_
  rintro e w1 ⟨⟨r0, rfl, hr0⟩, hb⟩
  have HSZ1 := hide (And.intro (show W0.heap.size ≤ w1.heap.size by exact hb.size) HSZ0.out)
  clear HSZ0
  have HX_w1 := hide (below_step HX0.out hb)
  clear HX0
  clear hb
  rcases szR_spec hr0 (by omega) with ⟨hr, hs0⟩ | ⟨hr, hs0⟩
  rotate_left
  · have hneg : r0 < 0 := by omega
    clear hr hr0 hs0
    go_wp2_with fail
    go_ret
    exact ⟨rfl, HW.out.trans (HX_w1.out.mono HW.out.size)⟩
  have hn0 : 0 ≤ r0 ∧ r0 ≤ 1048576 := by omega
  have hq0 : (sizePost p : Int) ≤ 1048576 := by omega
  have hnn0 : 0 ≤ r0 := by omega
  clear hr hr0 hs0
  go_wp2_with fail
  refine (szParcelS_c _ ps _ _ (H2.out.below HX_w1.out) (by omega) (by omega)).mono ?_
  rintro e w2 ⟨⟨r2, rfl, hr2⟩, hb⟩
  have HSZ2 := hide (And.intro (show w1.heap.size ≤ w2.heap.size by exact hb.size) HSZ1.out)
  clear HSZ1
  have HX_w2 := hide (below_step HX_w1.out hb)
  clear HX_w1
  clear hb
  rcases szR_spec hr2 (by omega) with ⟨hr, hs2⟩ | ⟨hr, hs2⟩
  rotate_left
  · have hneg : r2 < 0 := by omega
    clear hr hr2 hs2
    go_wp2_with fail
    go_ret
    exact ⟨rfl, HW.out.trans (HX_w2.out.mono HW.out.size)⟩
  have hn2 : 0 ≤ r2 ∧ r2 ≤ 1048576 := by omega
  have hq2 : (ps.length : Int) ≤ 1048576 := by omega
  have hnn2 : 0 ≤ r2 := by omega
  clear hr hr2 hs2
  have HF0 := hide (fewPost_of (l := p) (by omega))
  have HF2 := hide (show ps.length ≤ 1048576 by omega)
  have hcn0 := tcntPost_le p
  have hcn2 := cntParcelS_le ps
  have HN0 := hide (show (1 : Int) + (tcntPost p : Int) ≤ 1000000000000 by omega)
  have HN2 := hide (show (1 : Int) + (tcntPost p : Int) + (cntAll cntParcel ps : Int) ≤ 1000000000000 by omega)
  have HS := hide (show (1 : Int) + tcntPost (retV p t ps) ≤ 1000000000000 by have := chp_cnt p (retF t ps); unfold retV; omega)
  clear hq0 hq2 hn0 hn2 hcn0 hcn2
  -- the reference's answer
  have HCx0 := hide (HC0.out.below HX_w2.out)
  have a0_0 := HCx0.out 0 _ rfl
  have a0_1 := HCx0.out 1 _ rfl
  clear HCx0
  go_wp2_with fail
  refine (toPost_c p _ _ (H0_1.out.below HX_w2.out) HF0.out).mono ?_
  rintro e w3 ⟨cs0, F0, rfl, hM, hF, hge, hb⟩
  obtain ⟨u0_1, rfl, hK0_1⟩ := post_K (postD.M_K hM)
  have HSZ3 := hide (And.intro (show w2.heap.size ≤ w3.heap.size by exact hb.size) HSZ2.out)
  clear HSZ2
  have HX_w3 := hide (below_step HX_w2.out hb)
  clear HX_w2
  replace a0_0 := cell_below hb a0_0
  replace a0_1 := cell_below hb a0_1
  have KK0_1 := hide hK0_1
  clear hM hF hge hK0_1
  clear hb
  go_wp2_with fail
  refine (toParcelS_c _ ps _ (H2.out.below HX_w3.out) HF2.out).mono ?_
  rintro e w4 ⟨u2, rfl, hm, hb⟩
  obtain ⟨F2, hM, hF, hge⟩ := hm
  have HSZ4 := hide (And.intro (show w3.heap.size ≤ w4.heap.size by exact hb.size) HSZ3.out)
  clear HSZ3
  have HX_w4 := hide (below_step HX_w3.out hb)
  clear HX_w3
  replace a0_0 := cell_below hb a0_0
  replace a0_1 := cell_below hb a0_1
  replace KK0_1 := hide (KK0_1.out.below hb)
  have KK2 := hide hM.toK
  clear hM hF hge
  clear hb
  go_wp2_with fail
  clear a0_0 a0_1
  refine (specReturnTo_c p t ps _ _ _ KK0_1.out KK2.out HO0.out).mono ?_
  rintro e w5 ⟨cs, F_w5, rfl, hM, hn, hl, hb⟩
  obtain ⟨r_w5_1, rfl, -⟩ := post_K (postD.M_K hM)
  obtain ⟨ra_w5_1, rc_w5_1, rfl⟩ := (post_MK hM).shape
  have HSZ5 := hide (And.intro (show w4.heap.size ≤ w5.heap.size by exact hb.size) HSZ4.out)
  clear HSZ4
  have HX_w5 := hide (below_step HX_w4.out hb)
  clear HX_w4
  clear hb KK0_1 KK2
  have hlt := postD.M_lt hM
  have M3_G := hide (show ∀ b ∈ F_w5, w4.heap.size ≤ b ∧ b < w5.heap.size from fun b hb => ⟨hl b hb, hlt b hb⟩)
  have M3_N := hide hn
  have M3 := hide hM
  clear hM hn hl hlt
  have HCx0 := hide (HC0.out.below HX_w5.out)
  have a0_0 := HCx0.out 0 _ rfl
  have a0_1 := HCx0.out 1 _ rfl
  clear HCx0
  have hlt0 : w.heap.size < w5.heap.size := by have hs := HSZ5.out; omega
  go_wp2_with fail
  clear a0_0 a0_1 hlt0
  obtain ⟨VM3, hVM3⟩ : ∃ V, V = w5.alloc (.cells #[.int .i64 (retV p t ps).limit, .slice ra_w5_1 (retV p t ps).boxes.length rc_w5_1] 28) := ⟨_, rfl⟩
  rw [← hVM3]
  have hb := (boxed hVM3).1
  have HSZ6 := hide (And.intro (show w5.heap.size ≤ VM3.heap.size by exact hb.size) HSZ5.out)
  clear HSZ5
  have HX_VM3 := hide (below_step HX_w5.out hb)
  clear HX_w5
  have M3_VM3 := hide (Dt.by M3.out hb)
  clear M3
  have HSZ7 := hide (And.intro (show VM3.heap.size = w5.heap.size + 1 by exact (boxed hVM3).2) HSZ6.out)
  clear HSZ6
  have CM3 := hide (Cells.new hVM3)
  clear hb hVM3
  -- the program's answer
  refine (toPost_c p _ _ (H0_1.out.below HX_VM3.out) HF0.out).mono ?_
  rintro e w6 ⟨cs0, F0, rfl, hM, hF, hge, hb⟩
  obtain ⟨u0_1, rfl, hK0_1⟩ := post_K (postD.M_K hM)
  have HSZ8 := hide (And.intro (show VM3.heap.size ≤ w6.heap.size by exact hb.size) HSZ7.out)
  clear HSZ7
  have HX_w6 := hide (below_step HX_VM3.out hb)
  clear HX_VM3
  have M3_w6 := hide (Dt.by M3_VM3.out hb)
  clear M3_VM3
  have CM3_w6 := hide (CM3.out.below hb)
  clear CM3
  have hlt := postD.M_lt hM
  have X0_G := hide (show ∀ b ∈ F0, VM3.heap.size ≤ b ∧ b < w6.heap.size from fun b hb => ⟨hge b hb, hlt b hb⟩)
  have X0_N := hide hF
  have X0 := hide hM
  obtain ⟨B0_1, e0_1, rfl⟩ := hK0_1.shape
  clear hM hF hge hlt hb hK0_1
  go_wp2_with fail
  obtain ⟨VX0, hV⟩ : ∃ V, V = w6.alloc (.cells #[.int .i64 p.limit, .slice B0_1 p.boxes.length e0_1] 28) := ⟨_, rfl⟩
  rw [← hV]
  have hb := (boxed hV).1
  have HSZ9 := hide (And.intro (show w6.heap.size ≤ VX0.heap.size by exact hb.size) HSZ8.out)
  clear HSZ8
  have HX_VX0 := hide (below_step HX_w6.out hb)
  clear HX_w6
  have M3_VX0 := hide (Dt.by M3_w6.out hb)
  clear M3_w6
  have CM3_VX0 := hide (CM3_w6.out.below hb)
  clear CM3_w6
  have X0_VX0 := hide (Dt.by X0.out hb)
  clear X0
  have HSZ10 := hide (And.intro (show VX0.heap.size = w6.heap.size + 1 by exact (boxed hV).2) HSZ9.out)
  clear HSZ9
  have CX0 := hide (Cells.new hV)
  clear hb hV
  go_wp2_with fail
  refine (toParcelS_c _ ps _ (H2.out.below HX_VX0.out) HF2.out).mono ?_
  rintro e w7 ⟨u2, rfl, hm, hb⟩
  obtain ⟨F2, hM, hF, hge⟩ := hm
  have HSZ11 := hide (And.intro (show VX0.heap.size ≤ w7.heap.size by exact hb.size) HSZ10.out)
  clear HSZ10
  have HX_w7 := hide (below_step HX_VX0.out hb)
  clear HX_VX0
  have M3_w7 := hide (Dt.by M3_VX0.out hb)
  clear M3_VX0
  have CM3_w7 := hide (CM3_VX0.out.below hb)
  clear CM3_VX0
  have X0_w7 := hide (Dt.by X0_VX0.out hb)
  clear X0_VX0
  have CX0_w7 := hide (CX0.out.below hb)
  clear CX0
  have hlt := hM.lt
  have X2_G := hide (show ∀ b ∈ F2, VX0.heap.size ≤ b ∧ b < w7.heap.size from fun b hb => ⟨hge b hb, hlt b hb⟩)
  have X2_N := hide hF
  have X2 := hide hM
  obtain ⟨B2, e2, rfl⟩ := hM.toK.shape
  clear hM hF hge hlt hb
  have x0_0 := CX0_w7.out 0 _ rfl
  have x0_1 := CX0_w7.out 1 _ rfl
  go_wp2_with fail
  clear x0_0 x0_1
  refine (returnTo_c p t ps _ _ _ (post_MK X0_w7.out) X2.out.toK HO0.out).mono ?_
  rintro e w8 ⟨cs, F_w8, rfl, hM, hn, hl, hb⟩
  obtain ⟨r_w8_1, rfl, -⟩ := post_K (postD.M_K hM)
  obtain ⟨ra_w8_1, rc_w8_1, rfl⟩ := (post_MK hM).shape
  have HSZ12 := hide (And.intro (show w7.heap.size ≤ w8.heap.size by exact hb.size) HSZ11.out)
  clear HSZ11
  have HX_w8 := hide (below_step HX_w7.out hb)
  clear HX_w7
  have M3_w8 := hide (Dt.by M3_w7.out hb)
  clear M3_w7
  have CM3_w8 := hide (CM3_w7.out.below hb)
  clear CM3_w7
  have X0_w8 := hide (Dt.by X0_w7.out hb)
  clear X0_w7
  have CX0_w8 := hide (CX0_w7.out.below hb)
  clear CX0_w7
  have X2_w8 := hide (X2.out.by hb)
  clear X2
  clear hb
  have hlt := postD.M_lt hM
  have M5_G := hide (show ∀ b ∈ F_w8, w7.heap.size ≤ b ∧ b < w8.heap.size from fun b hb => ⟨hl b hb, hlt b hb⟩)
  have M5_N := hide hn
  have M5 := hide hM
  clear hM hn hl hlt
  have s0 := CM3_w8.out 0 _ rfl
  have s1 := CM3_w8.out 1 _ rfl
  have hlt0 : w5.heap.size < w8.heap.size := by have hs := HSZ12.out; omega
  go_wp2_with fail
  clear s0 s1 hlt0
  obtain ⟨VM5, hVM5⟩ : ∃ V, V = w8.alloc (.cells #[.int .i64 (retV p t ps).limit, .slice ra_w8_1 (retV p t ps).boxes.length rc_w8_1] 28) := ⟨_, rfl⟩
  rw [← hVM5]
  have hb := (boxed hVM5).1
  have HSZ13 := hide (And.intro (show w8.heap.size ≤ VM5.heap.size by exact hb.size) HSZ12.out)
  clear HSZ12
  have HX_VM5 := hide (below_step HX_w8.out hb)
  clear HX_w8
  have M3_VM5 := hide (Dt.by M3_w8.out hb)
  clear M3_w8
  have CM3_VM5 := hide (CM3_w8.out.below hb)
  clear CM3_w8
  have X0_VM5 := hide (Dt.by X0_w8.out hb)
  clear X0_w8
  have CX0_VM5 := hide (CX0_w8.out.below hb)
  clear CX0_w8
  have X2_VM5 := hide (X2_w8.out.by hb)
  clear X2_w8
  have M5_VM5 := hide (Dt.by M5.out hb)
  clear M5
  have HSZ14 := hide (And.intro (show VM5.heap.size = w8.heap.size + 1 by exact (boxed hVM5).2) HSZ13.out)
  clear HSZ13
  have CM5 := hide (Cells.new hVM5)
  clear hb hVM5
  refine (eqPost_c (retV p t ps) (retV p t ps) _ _ _ (post_MK M5_VM5.out) (post_MK M3_VM5.out)).mono ?_
  rintro e w9 ⟨rfl, hb⟩
  rw [eqPostB_eq, dec_same]
  have HSZ15 := hide (And.intro (show VM5.heap.size ≤ w9.heap.size by exact hb.size) HSZ14.out)
  clear HSZ14
  have HX_w9 := hide (below_step HX_VM5.out hb)
  clear HX_VM5
  have M3_w9 := hide (Dt.by M3_VM5.out hb)
  clear M3_VM5
  have CM3_w9 := hide (CM3_VM5.out.below hb)
  clear CM3_VM5
  have X0_w9 := hide (Dt.by X0_VM5.out hb)
  clear X0_VM5
  have CX0_w9 := hide (CX0_VM5.out.below hb)
  clear CX0_VM5
  have X2_w9 := hide (X2_VM5.out.by hb)
  clear X2_VM5
  have M5_w9 := hide (Dt.by M5_VM5.out hb)
  clear M5_VM5
  have CM5_w9 := hide (CM5.out.below hb)
  clear CM5
  clear hb
  have HCx0 := hide (HC0.out.below HX_w9.out)
  have a0_0 := HCx0.out 0 _ rfl
  have a0_1 := HCx0.out 1 _ rfl
  clear HCx0
  have x0_0 := CX0_w9.out 0 _ rfl
  have x0_1 := CX0_w9.out 1 _ rfl
  go_wp2_with fail
  go_region_held3 (fun w' : World => w'.cell? ⟨w.heap.size, 0, none⟩ = some (.int .i64 p.limit) ∧ w'.cell? ⟨w.heap.size, 1, none⟩ = some (.slice A0_1 p.boxes.length c0_1) ∧ w'.cell? ⟨w6.heap.size, 0, none⟩ = some (.int .i64 p.limit) ∧ w'.cell? ⟨w6.heap.size, 1, none⟩ = some (.slice B0_1 p.boxes.length e0_1)) (first | with_reducible exact ⟨a0_0, a0_1, x0_0, x0_1⟩ | with_reducible exact ⟨ya0_0, ya0_1, yx0_0, yx0_1⟩ | go_keep) (first
    | (go_at_call 9
       refine (toPost_c p _ _ (H0_1.out.below HX_w9.out.drew) HF0.out).mono ?_
       rintro e w10 ⟨cs, F, rfl, hM, -, -, hb⟩
       obtain ⟨u_1, rfl, hK_1⟩ := post_K (postD.M_K hM)
       have hb1 : Below w9.heap.size w9 w10 := (Below.refl _ w9).drew.trans hb
       have ya0_0 := cell_below hb1 a0_0
       have ya0_1 := cell_below hb1 a0_1
       have yx0_0 := cell_below hb1 x0_0
       have yx0_1 := cell_below hb1 x0_1
       clear hM hb)
    | (go_at_call 11
       refine (eqPost_c p p _ _ _ (((post_MK X0_w9.out)).below hb1) hK_1).mono ?_
       rintro e w11 ⟨rfl, hb2⟩
       rw [eqPostB_eq, dec_same]
       replace ya0_0 := cell_below hb2 ya0_0
       replace ya0_1 := cell_below hb2 ya0_1
       replace yx0_0 := cell_below hb2 yx0_0
       replace yx0_1 := cell_below hb2 yx0_1
       skip))
  have hb := below_step hb1 hb2
  have HSZ16 := hide (And.intro (show w9.heap.size ≤ w11.heap.size by exact hb.size) HSZ15.out)
  clear HSZ15
  have HX_w11 := hide (below_step HX_w9.out hb)
  clear HX_w9
  have M3_w11 := hide (Dt.by M3_w9.out hb)
  clear M3_w9
  have CM3_w11 := hide (CM3_w9.out.below hb)
  clear CM3_w9
  have X0_w11 := hide (Dt.by X0_w9.out hb)
  clear X0_w9
  have CX0_w11 := hide (CX0_w9.out.below hb)
  clear CX0_w9
  have X2_w11 := hide (X2_w9.out.by hb)
  clear X2_w9
  have M5_w11 := hide (Dt.by M5_w9.out hb)
  clear M5_w9
  have CM5_w11 := hide (CM5_w9.out.below hb)
  clear CM5_w9
  clear hb hb1 hb2 a0_0 a0_1 x0_0 x0_1 ya0_0 ya0_1 yx0_0 yx0_1
  clear hK_1
  go_wp2_with fail
  refine (toParcelS_c _ ps _ (H2.out.below HX_w11.out) HF2.out).mono ?_
  rintro e w12 ⟨u, rfl, hm, hb⟩
  obtain ⟨F, hM, -, -⟩ := hm
  have HKK := hide hM.toK
  have HSZ17 := hide (And.intro (show w11.heap.size ≤ w12.heap.size by exact hb.size) HSZ16.out)
  clear HSZ16
  have HX_w12 := hide (below_step HX_w11.out hb)
  clear HX_w11
  have M3_w12 := hide (Dt.by M3_w11.out hb)
  clear M3_w11
  have CM3_w12 := hide (CM3_w11.out.below hb)
  clear CM3_w11
  have X0_w12 := hide (Dt.by X0_w11.out hb)
  clear X0_w11
  have CX0_w12 := hide (CX0_w11.out.below hb)
  clear CX0_w11
  have X2_w12 := hide (X2_w11.out.by hb)
  clear X2_w11
  have M5_w12 := hide (Dt.by M5_w11.out hb)
  clear M5_w11
  have CM5_w12 := hide (CM5_w11.out.below hb)
  clear CM5_w11
  clear hM hb
  go_wp2_with fail
  refine (eqParcelS_c _ _ _ _ _ X2_w12.out.toK HKK.out).mono ?_
  rintro e w13 ⟨rfl, hb⟩
  rw [dec_same]
  have HSZ18 := hide (And.intro (show w12.heap.size ≤ w13.heap.size by exact hb.size) HSZ17.out)
  clear HSZ17
  have HX_w13 := hide (below_step HX_w12.out hb)
  clear HX_w12
  have M3_w13 := hide (Dt.by M3_w12.out hb)
  clear M3_w12
  have CM3_w13 := hide (CM3_w12.out.below hb)
  clear CM3_w12
  have X0_w13 := hide (Dt.by X0_w12.out hb)
  clear X0_w12
  have CX0_w13 := hide (CX0_w12.out.below hb)
  clear CX0_w12
  have X2_w13 := hide (X2_w12.out.by hb)
  clear X2_w12
  have M5_w13 := hide (Dt.by M5_w12.out hb)
  clear M5_w12
  have CM5_w13 := hide (CM5_w12.out.below hb)
  clear CM5_w12
  clear hb HKK
  have x0_0 := CX0_w13.out 0 _ rfl
  have x0_1 := CX0_w13.out 1 _ rfl
  go_wp2_with fail
  refine (markPost_c p _ F0 ((1 : Int)) _ X0_w13.out X0_N.out (by omega) HN0.out).mono ?_
  rintro e w14 ⟨rfl, -, hc⟩
  have HSZ19 := hide (And.intro (show w13.heap.size ≤ w14.heap.size by exact hc.size) HSZ18.out)
  clear HSZ18
  have HX_w14 := hide (HX_w13.out.trans (hc.below (B := W0.heap.size) HX_w13.out.size (fun b hb => by have hs := HSZ19.out; have := X0_G.out b hb; omega)))
  clear HX_w13
  have M3_w14 := hide (Dt.chg M3_w13.out hc (fun b h1 h2 => by have hs := HSZ19.out; have := M3_G.out b h1; have := X0_G.out b h2; omega))
  clear M3_w13
  have CM3_w14 := hide (CM3_w13.out.chg hc (fun h => by have hs := HSZ19.out; have := X0_G.out _ h; omega))
  clear CM3_w13
  have CX0_w14 := hide (CX0_w13.out.chg hc (fun h => by have hs := HSZ19.out; have := X0_G.out _ h; omega))
  clear CX0_w13
  have X2_w14 := hide (X2_w13.out.chg hc (fun b h1 h2 => by have hs := HSZ19.out; have := X2_G.out b h1; have := X0_G.out b h2; omega))
  clear X2_w13
  have M5_w14 := hide (Dt.chg M5_w13.out hc (fun b h1 h2 => by have hs := HSZ19.out; have := M5_G.out b h1; have := X0_G.out b h2; omega))
  clear M5_w13
  have CM5_w14 := hide (CM5_w13.out.chg hc (fun h => by have hs := HSZ19.out; have := X0_G.out _ h; omega))
  clear CM5_w13
  clear hc
  clear x0_0 x0_1
  go_wp2_with fail
  refine (markParcelS_c _ _ F2 ((1 : Int) + (tcntPost p : Int)) _ X2_w14.out X2_N.out (by omega) HN2.out).mono ?_
  rintro e w15 ⟨rfl, -, hc⟩
  have HSZ20 := hide (And.intro (show w14.heap.size ≤ w15.heap.size by exact hc.size) HSZ19.out)
  clear HSZ19
  have HX_w15 := hide (HX_w14.out.trans (hc.below (B := W0.heap.size) HX_w14.out.size (fun b hb => by have hs := HSZ20.out; have := X2_G.out b hb; omega)))
  clear HX_w14
  have M3_w15 := hide (Dt.chg M3_w14.out hc (fun b h1 h2 => by have hs := HSZ20.out; have := M3_G.out b h1; have := X2_G.out b h2; omega))
  clear M3_w14
  have CM3_w15 := hide (CM3_w14.out.chg hc (fun h => by have hs := HSZ20.out; have := X2_G.out _ h; omega))
  clear CM3_w14
  have M5_w15 := hide (Dt.chg M5_w14.out hc (fun b h1 h2 => by have hs := HSZ20.out; have := M5_G.out b h1; have := X2_G.out b h2; omega))
  clear M5_w14
  have CM5_w15 := hide (CM5_w14.out.chg hc (fun h => by have hs := HSZ20.out; have := X2_G.out _ h; omega))
  clear CM5_w14
  clear hc
  have hk : decide ((1 : Int) + (tcntPost p : Int) + (cntAll cntParcel ps : Int) < 0) = false := by simp; omega
  have g0 := CM5_w15.out 0 _ rfl
  have g1 := CM5_w15.out 1 _ rfl
  have s0 := CM3_w15.out 0 _ rfl
  have s1 := CM3_w15.out 1 _ rfl
  go_wp2_with fail
  clear g0 g1 s0 s1
  refine (eqPost_c (retV p t ps) (retV p t ps) _ _ _ (post_MK M5_w15.out) (post_MK M3_w15.out)).mono ?_
  rintro e w16 ⟨rfl, hb⟩
  rw [eqPostB_eq, dec_same]
  have HSZ21 := hide (And.intro (show w15.heap.size ≤ w16.heap.size by exact hb.size) HSZ20.out)
  clear HSZ20
  have HX_w16 := hide (below_step HX_w15.out hb)
  clear HX_w15
  have M3_w16 := hide (Dt.by M3_w15.out hb)
  clear M3_w15
  have CM3_w16 := hide (CM3_w15.out.below hb)
  clear CM3_w15
  have M5_w16 := hide (Dt.by M5_w15.out hb)
  clear M5_w15
  have CM5_w16 := hide (CM5_w15.out.below hb)
  clear CM5_w15
  clear hb
  clear hk
  have g0 := CM5_w16.out 0 _ rfl
  have g1 := CM5_w16.out 1 _ rfl
  go_wp2_with fail
  clear g0 g1
  refine (markPost_c (retV p t ps) _ F_w8 1 _ M5_w16.out M5_N.out (by decide) HS.out).mono ?_
  rintro e w17 ⟨rfl, hM, hc⟩
  have HSZ22 := hide (And.intro (show w16.heap.size ≤ w17.heap.size by exact hc.size) HSZ21.out)
  clear HSZ21
  have HX_w17 := hide (HX_w16.out.trans (hc.below (B := W0.heap.size) HX_w16.out.size (fun b hb => by have hs := HSZ22.out; have := M5_G.out b hb; omega)))
  clear HX_w16
  have M3_w17 := hide (Dt.chg M3_w16.out hc (fun b h1 h2 => by have hs := HSZ22.out; have := M3_G.out b h1; have := M5_G.out b h2; omega))
  clear M3_w16
  have CM3_w17 := hide (CM3_w16.out.chg hc (fun h => by have hs := HSZ22.out; have := M5_G.out _ h; omega))
  clear CM3_w16
  have CM5_w17 := hide (CM5_w16.out.chg hc (fun h => by have hs := HSZ22.out; have := M5_G.out _ h; omega))
  clear CM5_w16
  have M5m := hide hM
  have hk : decide ((1 : Int) + (tcntPost (retV p t ps) : Int) < 0) = false := by simp; omega
  clear hc hM
  have g0 := CM5_w17.out 0 _ rfl
  have g1 := CM5_w17.out 1 _ rfl
  go_wp2_with fail
  clear g0 g1
  refine (heldPost_c (tmkPost 1 (retV p t ps)) _ 1 _ (post_MK (x := tmkPost 1 (retV p t ps)) M5m.out) (by decide) (by rw [tcntPost_mk]; exact HS.out)).mono ?_
  rintro e w18 ⟨rfl, hb⟩
  rw [theldPost_mk]
  have HSZ23 := hide (And.intro (show w17.heap.size ≤ w18.heap.size by exact hb.size) HSZ22.out)
  clear HSZ22
  have HX_w18 := hide (below_step HX_w17.out hb)
  clear HX_w17
  have M3_w18 := hide (Dt.by M3_w17.out hb)
  clear M3_w17
  have CM3_w18 := hide (CM3_w17.out.below hb)
  clear CM3_w17
  have M5_w18 := hide (Dt.by M5m.out hb)
  clear M5m
  have CM5_w18 := hide (CM5_w17.out.below hb)
  clear CM5_w17
  clear hb
  have HCx0 := hide (HC0.out.below HX_w18.out)
  have a0_0 := HCx0.out 0 _ rfl
  have a0_1 := HCx0.out 1 _ rfl
  clear HCx0
  go_wp2_with fail
  refine (toPost_c p _ _ (H0_1.out.below HX_w18.out) HF0.out).mono ?_
  rintro e w19 ⟨cs0, F0, rfl, hM, hF, hge, hb⟩
  obtain ⟨u0_1, rfl, hK0_1⟩ := post_K (postD.M_K hM)
  have HSZ24 := hide (And.intro (show w18.heap.size ≤ w19.heap.size by exact hb.size) HSZ23.out)
  clear HSZ23
  have HX_w19 := hide (below_step HX_w18.out hb)
  clear HX_w18
  have M3_w19 := hide (Dt.by M3_w18.out hb)
  clear M3_w18
  have CM3_w19 := hide (CM3_w18.out.below hb)
  clear CM3_w18
  have M5_w19 := hide (Dt.by M5_w18.out hb)
  clear M5_w18
  have CM5_w19 := hide (CM5_w18.out.below hb)
  clear CM5_w18
  replace a0_0 := cell_below hb a0_0
  replace a0_1 := cell_below hb a0_1
  have KK0_1 := hide hK0_1
  clear hM hF hge hK0_1
  clear hb
  go_wp2_with fail
  refine (toParcelS_c _ ps _ (H2.out.below HX_w19.out) HF2.out).mono ?_
  rintro e w20 ⟨u2, rfl, hm, hb⟩
  obtain ⟨F2, hM, hF, hge⟩ := hm
  have HSZ25 := hide (And.intro (show w19.heap.size ≤ w20.heap.size by exact hb.size) HSZ24.out)
  clear HSZ24
  have HX_w20 := hide (below_step HX_w19.out hb)
  clear HX_w19
  have M3_w20 := hide (Dt.by M3_w19.out hb)
  clear M3_w19
  have CM3_w20 := hide (CM3_w19.out.below hb)
  clear CM3_w19
  have M5_w20 := hide (Dt.by M5_w19.out hb)
  clear M5_w19
  have CM5_w20 := hide (CM5_w19.out.below hb)
  clear CM5_w19
  replace a0_0 := cell_below hb a0_0
  replace a0_1 := cell_below hb a0_1
  replace KK0_1 := hide (KK0_1.out.below hb)
  have KK2 := hide hM.toK
  clear hM hF hge
  clear hb
  go_wp2_with fail
  clear a0_0 a0_1
  refine (returnTo_c p t ps _ _ _ KK0_1.out KK2.out HO0.out).mono ?_
  rintro e w21 ⟨cs, F_w21, rfl, hM, hn, hl, hb⟩
  obtain ⟨r_w21_1, rfl, -⟩ := post_K (postD.M_K hM)
  obtain ⟨ra_w21_1, rc_w21_1, rfl⟩ := (post_MK hM).shape
  have HSZ26 := hide (And.intro (show w20.heap.size ≤ w21.heap.size by exact hb.size) HSZ25.out)
  clear HSZ25
  have HX_w21 := hide (below_step HX_w20.out hb)
  clear HX_w20
  have M3_w21 := hide (Dt.by M3_w20.out hb)
  clear M3_w20
  have CM3_w21 := hide (CM3_w20.out.below hb)
  clear CM3_w20
  have M5_w21 := hide (Dt.by M5_w20.out hb)
  clear M5_w20
  have CM5_w21 := hide (CM5_w20.out.below hb)
  clear CM5_w20
  clear hb KK0_1 KK2
  have hlt := postD.M_lt hM
  have M6_G := hide (show ∀ b ∈ F_w21, w20.heap.size ≤ b ∧ b < w21.heap.size from fun b hb => ⟨hl b hb, hlt b hb⟩)
  have M6_N := hide hn
  have M6 := hide hM
  clear hM hn hl hlt
  have s0 := CM3_w21.out 0 _ rfl
  have s1 := CM3_w21.out 1 _ rfl
  have hlt0 : w5.heap.size < w21.heap.size := by have hs := HSZ26.out; omega
  go_wp2_with fail
  clear s0 s1 hlt0
  obtain ⟨VM6, hVM6⟩ : ∃ V, V = w21.alloc (.cells #[.int .i64 (retV p t ps).limit, .slice ra_w21_1 (retV p t ps).boxes.length rc_w21_1] 28) := ⟨_, rfl⟩
  rw [← hVM6]
  have hb := (boxed hVM6).1
  have HSZ27 := hide (And.intro (show w21.heap.size ≤ VM6.heap.size by exact hb.size) HSZ26.out)
  clear HSZ26
  have HX_VM6 := hide (below_step HX_w21.out hb)
  clear HX_w21
  have M3_VM6 := hide (Dt.by M3_w21.out hb)
  clear M3_w21
  have CM3_VM6 := hide (CM3_w21.out.below hb)
  clear CM3_w21
  have M5_VM6 := hide (Dt.by M5_w21.out hb)
  clear M5_w21
  have CM5_VM6 := hide (CM5_w21.out.below hb)
  clear CM5_w21
  have M6_VM6 := hide (Dt.by M6.out hb)
  clear M6
  have HSZ28 := hide (And.intro (show VM6.heap.size = w21.heap.size + 1 by exact (boxed hVM6).2) HSZ27.out)
  clear HSZ27
  have CM6 := hide (Cells.new hVM6)
  clear hb hVM6
  refine (eqPost_c (retV p t ps) (retV p t ps) _ _ _ (post_MK M6_VM6.out) (post_MK M3_VM6.out)).mono ?_
  rintro e w22 ⟨rfl, hb⟩
  rw [eqPostB_eq, dec_same]
  have HSZ29 := hide (And.intro (show VM6.heap.size ≤ w22.heap.size by exact hb.size) HSZ28.out)
  clear HSZ28
  have HX_w22 := hide (below_step HX_VM6.out hb)
  clear HX_VM6
  have M3_w22 := hide (Dt.by M3_VM6.out hb)
  clear M3_VM6
  have CM3_w22 := hide (CM3_VM6.out.below hb)
  clear CM3_VM6
  have M5_w22 := hide (Dt.by M5_VM6.out hb)
  clear M5_VM6
  have CM5_w22 := hide (CM5_VM6.out.below hb)
  clear CM5_VM6
  have M6_w22 := hide (Dt.by M6_VM6.out hb)
  clear M6_VM6
  have CM6_w22 := hide (CM6.out.below hb)
  clear CM6
  clear hb
  have g0 := CM5_w22.out 0 _ rfl
  have g1 := CM5_w22.out 1 _ rfl
  go_wp2_with fail
  clear g0 g1
  refine (heldPost_c (tmkPost 1 (retV p t ps)) _ 1 _ (post_MK (x := tmkPost 1 (retV p t ps)) M5_w22.out) (by decide) (by rw [tcntPost_mk]; exact HS.out)).mono ?_
  rintro e w23 ⟨rfl, hb⟩
  rw [theldPost_mk]
  have HSZ30 := hide (And.intro (show w22.heap.size ≤ w23.heap.size by exact hb.size) HSZ29.out)
  clear HSZ29
  have HX_w23 := hide (below_step HX_w22.out hb)
  clear HX_w22
  have M3_w23 := hide (Dt.by M3_w22.out hb)
  clear M3_w22
  have CM3_w23 := hide (CM3_w22.out.below hb)
  clear CM3_w22
  have M5_w23 := hide (Dt.by M5_w22.out hb)
  clear M5_w22
  have CM5_w23 := hide (CM5_w22.out.below hb)
  clear CM5_w22
  have M6_w23 := hide (Dt.by M6_w22.out hb)
  clear M6_w22
  have CM6_w23 := hide (CM6_w22.out.below hb)
  clear CM6_w22
  clear hb
  go_wp2_with fail
  go_ret
  exact ⟨rfl, HW.out.trans (HX_w23.out.mono HW.out.size)⟩
end Go.Proofs.Ytdmhjfajicclaaa
