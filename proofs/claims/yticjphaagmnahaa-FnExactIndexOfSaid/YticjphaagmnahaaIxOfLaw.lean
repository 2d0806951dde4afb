/- The law of IndexOf: its walk. -/
import Derived.Test.YticjphaagmnahaaIxMsg
import Derived.Test.YticjphaagmnahaaVMsg
import Derived.Test.YticjphaagmnahaaIndexLaws
import Derived.Test.YticjphaagmnahaaRTypes
import Derived.Deep.RegionHeld3
import Derived.Deep.Cut
namespace Go.Proofs.Yticjphaagmnahaa
open Go Go.RowKit Go.BigFrame
set_option linter.unusedVariables false
set_option linter.unusedSimpArgs false

set_option maxHeartbeats 16000000 in
set_option maxRecDepth 100000 in
theorem fnExactIndexOf_c (l : Log) (v0_1 : Value) (w : World) (h0_1 : SliceK messageD w v0_1 l.messages) (ok0 : okLog l) :
    Calls Try.prog 8 #[.agg #[.int .i64 l.next, v0_1]] w fun e w' => e = .returned (.bool true) ∧ Below w.heap.size w w' := by
  obtain ⟨A0_1, c0_1, rfl⟩ := h0_1.shape
  obtain ⟨U1, hU1⟩ : ∃ U, U = w.alloc (.cells #[.int .i64 l.next, .slice A0_1 l.messages.length c0_1] 53) := ⟨_, rfl⟩
  have hz1 := (boxed hU1).2
  obtain ⟨W0, hW0⟩ : ∃ W, W = U1 := ⟨_, rfl⟩
  have HW := hide (show Below w.heap.size w W0 by rw [hW0]; exact below_step (Below.refl _ _) (boxed hU1).1)
  have HSZ0 := hide (show w.heap.size + 1 = W0.heap.size by rw [hW0]; omega)
  have hcc0 := Cells.new hU1
  rw [← hW0] at hcc0
  have HC0 := hide hcc0
  clear hcc0
  have HX0 := hide (Below.refl W0.heap.size W0)
  have H0_1 := hide (h0_1.below HW.out)
  clear h0_1
  have HO0 := hide ok0
  clear ok0
  go_enter Try.func8, Try.ntmps8
  go_wp2_with fail
  rw [← hU1, ← hW0]
  clear hU1 hz1 hW0
  refine (szLog_c l _ _ _ (H0_1.out.below HX0.out) (by omega) (by omega) HO0.out).mono ?_
  rintro e w1 ⟨⟨r0, rfl, hr0⟩, hb⟩
  have HSZ1 := hide (And.intro (show W0.heap.size ≤ w1.heap.size by exact hb.size) HSZ0.out)
  clear HSZ0
  have HX_w1 := hide (below_step HX0.out hb)
  clear HX0
  clear hb
  rcases szR_spec hr0 (by omega) with ⟨hr, hs0⟩ | ⟨hr, hs0⟩
  rotate_left
  · have hneg : r0 < 0 := by omega
    clear hr hr0 hs0
    go_wp2_with fail
    go_ret
    exact ⟨rfl, HW.out.trans (HX_w1.out.mono HW.out.size)⟩
  have hn0 : 0 ≤ r0 ∧ r0 ≤ 1048576 := by omega
  have hq0 : (sizeLog l : Int) ≤ 1048576 := by omega
  have hnn0 : 0 ≤ r0 := by omega
  clear hr hr0 hs0
  have HF0 := hide (fewLog_of (l := l) (by omega))
  have hcn0 := tcntLog_le l
  have HN0 := hide (show (1 : Int) + (tcntLog l : Int) ≤ 1000000000000 by omega)
  have HS := hide (show (1 : Int) + tcntIndex (ioV l) ≤ 1000000000000 by have := io_cnt l; omega)
  clear hq0 hn0 hcn0
  -- the reference's answer
  have HCx0 := hide (HC0.out.below HX_w1.out)
  have a0_0 := HCx0.out 0 _ rfl
  have a0_1 := HCx0.out 1 _ rfl
  clear HCx0
  go_wp2_with fail
  refine (toLog_c l _ _ (H0_1.out.below HX_w1.out) HF0.out).mono ?_
  rintro e w2 ⟨cs0, F0, rfl, hM, hF, hge, hb⟩
  obtain ⟨u0_1, rfl, hK0_1⟩ := log_K (logD.M_K hM)
  have HSZ2 := hide (And.intro (show w1.heap.size ≤ w2.heap.size by exact hb.size) HSZ1.out)
  clear HSZ1
  have HX_w2 := hide (below_step HX_w1.out hb)
  clear HX_w1
  replace a0_0 := cell_below hb a0_0
  replace a0_1 := cell_below hb a0_1
  have KK0_1 := hide hK0_1
  clear hM hF hge hK0_1
  clear hb
  go_wp2_with fail
  clear a0_0 a0_1
  refine (specIndexOf_c l _ _ KK0_1.out (okTexts_of HO0.out)).mono ?_
  rintro e w3 ⟨cs, F_w3, rfl, hM, hn, hl, hb⟩
  obtain ⟨r_w3_0, rfl, -⟩ := index_K (indexD.M_K hM)
  obtain ⟨ra_w3_0, rc_w3_0, rfl⟩ := (index_MK hM).shape
  have HSZ3 := hide (And.intro (show w2.heap.size ≤ w3.heap.size by exact hb.size) HSZ2.out)
  clear HSZ2
  have HX_w3 := hide (below_step HX_w2.out hb)
  clear HX_w2
  clear hb KK0_1
  have hlt := indexD.M_lt hM
  have M3_G := hide (show ∀ b ∈ F_w3, w2.heap.size ≤ b ∧ b < w3.heap.size from fun b hb => ⟨hl b hb, hlt b hb⟩)
  have M3_N := hide hn
  have M3 := hide hM
  clear hM hn hl hlt
  have HCx0 := hide (HC0.out.below HX_w3.out)
  have a0_0 := HCx0.out 0 _ rfl
  have a0_1 := HCx0.out 1 _ rfl
  clear HCx0
  have hlt0 : w.heap.size < w3.heap.size := by have hs := HSZ3.out; omega
  go_wp2_with fail
  clear a0_0 a0_1 hlt0
  obtain ⟨VM3, hVM3⟩ : ∃ V, V = w3.alloc (.cells #[.slice ra_w3_0 (ioV l).entries.length rc_w3_0] 33) := ⟨_, rfl⟩
  rw [← hVM3]
  have hb := (boxed hVM3).1
  have HSZ4 := hide (And.intro (show w3.heap.size ≤ VM3.heap.size by exact hb.size) HSZ3.out)
  clear HSZ3
  have HX_VM3 := hide (below_step HX_w3.out hb)
  clear HX_w3
  have M3_VM3 := hide (Dt.by M3.out hb)
  clear M3
  have HSZ5 := hide (And.intro (show VM3.heap.size = w3.heap.size + 1 by exact (boxed hVM3).2) HSZ4.out)
  clear HSZ4
  have CM3 := hide (Cells.new hVM3)
  clear hb hVM3
  -- the program's answer
  refine (toLog_c l _ _ (H0_1.out.below HX_VM3.out) HF0.out).mono ?_
  rintro e w4 ⟨cs0, F0, rfl, hM, hF, hge, hb⟩
  obtain ⟨u0_1, rfl, hK0_1⟩ := log_K (logD.M_K hM)
  have HSZ6 := hide (And.intro (show VM3.heap.size ≤ w4.heap.size by exact hb.size) HSZ5.out)
  clear HSZ5
  have HX_w4 := hide (below_step HX_VM3.out hb)
  clear HX_VM3
  have M3_w4 := hide (Dt.by M3_VM3.out hb)
  clear M3_VM3
  have CM3_w4 := hide (CM3.out.below hb)
  clear CM3
  have hlt := logD.M_lt hM
  have X0_G := hide (show ∀ b ∈ F0, VM3.heap.size ≤ b ∧ b < w4.heap.size from fun b hb => ⟨hge b hb, hlt b hb⟩)
  have X0_N := hide hF
  have X0 := hide hM
  obtain ⟨B0_1, e0_1, rfl⟩ := hK0_1.shape
  clear hM hF hge hlt hb hK0_1
  go_wp2_with fail
  obtain ⟨VX0, hV⟩ : ∃ V, V = w4.alloc (.cells #[.int .i64 l.next, .slice B0_1 l.messages.length e0_1] 58) := ⟨_, rfl⟩
  rw [← hV]
  have hb := (boxed hV).1
  have HSZ7 := hide (And.intro (show w4.heap.size ≤ VX0.heap.size by exact hb.size) HSZ6.out)
  clear HSZ6
  have HX_VX0 := hide (below_step HX_w4.out hb)
  clear HX_w4
  have M3_VX0 := hide (Dt.by M3_w4.out hb)
  clear M3_w4
  have CM3_VX0 := hide (CM3_w4.out.below hb)
  clear CM3_w4
  have X0_VX0 := hide (Dt.by X0.out hb)
  clear X0
  have HSZ8 := hide (And.intro (show VX0.heap.size = w4.heap.size + 1 by exact (boxed hV).2) HSZ7.out)
  clear HSZ7
  have CX0 := hide (Cells.new hV)
  clear hb hV
  have x0_0 := CX0.out 0 _ rfl
  have x0_1 := CX0.out 1 _ rfl
  go_wp2_with fail
  clear x0_0 x0_1
  refine (indexOf_c l _ _ (log_MK X0_VX0.out) (okTexts_of HO0.out)).mono ?_
  rintro e w5 ⟨cs, F_w5, rfl, hM, hn, hl, hb⟩
  obtain ⟨r_w5_0, rfl, -⟩ := index_K (indexD.M_K hM)
  obtain ⟨ra_w5_0, rc_w5_0, rfl⟩ := (index_MK hM).shape
  have HSZ9 := hide (And.intro (show VX0.heap.size ≤ w5.heap.size by exact hb.size) HSZ8.out)
  clear HSZ8
  have HX_w5 := hide (below_step HX_VX0.out hb)
  clear HX_VX0
  have M3_w5 := hide (Dt.by M3_VX0.out hb)
  clear M3_VX0
  have CM3_w5 := hide (CM3_VX0.out.below hb)
  clear CM3_VX0
  have X0_w5 := hide (Dt.by X0_VX0.out hb)
  clear X0_VX0
  have CX0_w5 := hide (CX0.out.below hb)
  clear CX0
  clear hb
  have hlt := indexD.M_lt hM
  have M5_G := hide (show ∀ b ∈ F_w5, VX0.heap.size ≤ b ∧ b < w5.heap.size from fun b hb => ⟨hl b hb, hlt b hb⟩)
  have M5_N := hide hn
  have M5 := hide hM
  clear hM hn hl hlt
  have s0 := CM3_w5.out 0 _ rfl
  have hlt0 : w3.heap.size < w5.heap.size := by have hs := HSZ9.out; omega
  go_wp2_with fail
  clear s0 hlt0
  obtain ⟨VM5, hVM5⟩ : ∃ V, V = w5.alloc (.cells #[.slice ra_w5_0 (ioV l).entries.length rc_w5_0] 33) := ⟨_, rfl⟩
  rw [← hVM5]
  have hb := (boxed hVM5).1
  have HSZ10 := hide (And.intro (show w5.heap.size ≤ VM5.heap.size by exact hb.size) HSZ9.out)
  clear HSZ9
  have HX_VM5 := hide (below_step HX_w5.out hb)
  clear HX_w5
  have M3_VM5 := hide (Dt.by M3_w5.out hb)
  clear M3_w5
  have CM3_VM5 := hide (CM3_w5.out.below hb)
  clear CM3_w5
  have X0_VM5 := hide (Dt.by X0_w5.out hb)
  clear X0_w5
  have CX0_VM5 := hide (CX0_w5.out.below hb)
  clear CX0_w5
  have M5_VM5 := hide (Dt.by M5.out hb)
  clear M5
  have HSZ11 := hide (And.intro (show VM5.heap.size = w5.heap.size + 1 by exact (boxed hVM5).2) HSZ10.out)
  clear HSZ10
  have CM5 := hide (Cells.new hVM5)
  clear hb hVM5
  refine (eqIndex_c (ioV l) (ioV l) _ _ _ (index_MK M5_VM5.out) (index_MK M3_VM5.out)).mono ?_
  rintro e w6 ⟨rfl, hb⟩
  rw [eqIndexB_eq, dec_same]
  have HSZ12 := hide (And.intro (show VM5.heap.size ≤ w6.heap.size by exact hb.size) HSZ11.out)
  clear HSZ11
  have HX_w6 := hide (below_step HX_VM5.out hb)
  clear HX_VM5
  have M3_w6 := hide (Dt.by M3_VM5.out hb)
  clear M3_VM5
  have CM3_w6 := hide (CM3_VM5.out.below hb)
  clear CM3_VM5
  have X0_w6 := hide (Dt.by X0_VM5.out hb)
  clear X0_VM5
  have CX0_w6 := hide (CX0_VM5.out.below hb)
  clear CX0_VM5
  have M5_w6 := hide (Dt.by M5_VM5.out hb)
  clear M5_VM5
  have CM5_w6 := hide (CM5.out.below hb)
  clear CM5
  clear hb
  have HCx0 := hide (HC0.out.below HX_w6.out)
  have a0_0 := HCx0.out 0 _ rfl
  have a0_1 := HCx0.out 1 _ rfl
  clear HCx0
  have x0_0 := CX0_w6.out 0 _ rfl
  have x0_1 := CX0_w6.out 1 _ rfl
  go_wp2_with fail
  go_region_held3 (fun w' : World => w'.cell? ⟨w.heap.size, 0, none⟩ = some (.int .i64 l.next) ∧ w'.cell? ⟨w.heap.size, 1, none⟩ = some (.slice A0_1 l.messages.length c0_1) ∧ w'.cell? ⟨w4.heap.size, 0, none⟩ = some (.int .i64 l.next) ∧ w'.cell? ⟨w4.heap.size, 1, none⟩ = some (.slice B0_1 l.messages.length e0_1)) (first | with_reducible exact ⟨a0_0, a0_1, x0_0, x0_1⟩ | with_reducible exact ⟨ya0_0, ya0_1, yx0_0, yx0_1⟩ | go_keep) (first
    | (go_at_call 31
       refine (toLog_c l _ _ (H0_1.out.below HX_w6.out.drew) HF0.out).mono ?_
       rintro e w7 ⟨cs, F, rfl, hM, -, -, hb⟩
       obtain ⟨u_1, rfl, hK_1⟩ := log_K (logD.M_K hM)
       have hb1 : Below w6.heap.size w6 w7 := (Below.refl _ w6).drew.trans hb
       have ya0_0 := cell_below hb1 a0_0
       have ya0_1 := cell_below hb1 a0_1
       have yx0_0 := cell_below hb1 x0_0
       have yx0_1 := cell_below hb1 x0_1
       clear hM hb)
    | (go_at_call 33
       refine (eqLog_c l l _ _ _ (((log_MK X0_w6.out)).below hb1) hK_1).mono ?_
       rintro e w8 ⟨rfl, hb2⟩
       rw [eqLogB_eq, dec_same]
       replace ya0_0 := cell_below hb2 ya0_0
       replace ya0_1 := cell_below hb2 ya0_1
       replace yx0_0 := cell_below hb2 yx0_0
       replace yx0_1 := cell_below hb2 yx0_1
       skip))
  have hb := below_step hb1 hb2
  have HSZ13 := hide (And.intro (show w6.heap.size ≤ w8.heap.size by exact hb.size) HSZ12.out)
  clear HSZ12
  have HX_w8 := hide (below_step HX_w6.out hb)
  clear HX_w6
  have M3_w8 := hide (Dt.by M3_w6.out hb)
  clear M3_w6
  have CM3_w8 := hide (CM3_w6.out.below hb)
  clear CM3_w6
  have X0_w8 := hide (Dt.by X0_w6.out hb)
  clear X0_w6
  have CX0_w8 := hide (CX0_w6.out.below hb)
  clear CX0_w6
  have M5_w8 := hide (Dt.by M5_w6.out hb)
  clear M5_w6
  have CM5_w8 := hide (CM5_w6.out.below hb)
  clear CM5_w6
  clear hb hb1 hb2 a0_0 a0_1 x0_0 x0_1 ya0_0 ya0_1 yx0_0 yx0_1
  clear hK_1
  have x0_0 := CX0_w8.out 0 _ rfl
  have x0_1 := CX0_w8.out 1 _ rfl
  go_wp2_with fail
  refine (markLog_c l _ F0 ((1 : Int)) _ X0_w8.out X0_N.out (by omega) HN0.out).mono ?_
  rintro e w9 ⟨rfl, -, hc⟩
  have HSZ14 := hide (And.intro (show w8.heap.size ≤ w9.heap.size by exact hc.size) HSZ13.out)
  clear HSZ13
  have HX_w9 := hide (HX_w8.out.trans (hc.below (B := W0.heap.size) HX_w8.out.size (fun b hb => by have hs := HSZ14.out; have := X0_G.out b hb; omega)))
  clear HX_w8
  have M3_w9 := hide (Dt.chg M3_w8.out hc (fun b h1 h2 => by have hs := HSZ14.out; have := M3_G.out b h1; have := X0_G.out b h2; omega))
  clear M3_w8
  have CM3_w9 := hide (CM3_w8.out.chg hc (fun h => by have hs := HSZ14.out; have := X0_G.out _ h; omega))
  clear CM3_w8
  have CX0_w9 := hide (CX0_w8.out.chg hc (fun h => by have hs := HSZ14.out; have := X0_G.out _ h; omega))
  clear CX0_w8
  have M5_w9 := hide (Dt.chg M5_w8.out hc (fun b h1 h2 => by have hs := HSZ14.out; have := M5_G.out b h1; have := X0_G.out b h2; omega))
  clear M5_w8
  have CM5_w9 := hide (CM5_w8.out.chg hc (fun h => by have hs := HSZ14.out; have := X0_G.out _ h; omega))
  clear CM5_w8
  clear hc
  clear x0_0 x0_1
  have hk : decide ((1 : Int) + (tcntLog l : Int) < 0) = false := by simp; omega
  have g0 := CM5_w9.out 0 _ rfl
  have s0 := CM3_w9.out 0 _ rfl
  go_wp2_with fail
  clear g0 s0
  refine (eqIndex_c (ioV l) (ioV l) _ _ _ (index_MK M5_w9.out) (index_MK M3_w9.out)).mono ?_
  rintro e w10 ⟨rfl, hb⟩
  rw [eqIndexB_eq, dec_same]
  have HSZ15 := hide (And.intro (show w9.heap.size ≤ w10.heap.size by exact hb.size) HSZ14.out)
  clear HSZ14
  have HX_w10 := hide (below_step HX_w9.out hb)
  clear HX_w9
  have M3_w10 := hide (Dt.by M3_w9.out hb)
  clear M3_w9
  have CM3_w10 := hide (CM3_w9.out.below hb)
  clear CM3_w9
  have M5_w10 := hide (Dt.by M5_w9.out hb)
  clear M5_w9
  have CM5_w10 := hide (CM5_w9.out.below hb)
  clear CM5_w9
  clear hb
  clear hk
  have g0 := CM5_w10.out 0 _ rfl
  go_wp2_with fail
  clear g0
  refine (markIndex_c (ioV l) _ F_w5 1 _ M5_w10.out M5_N.out (by decide) HS.out).mono ?_
  rintro e w11 ⟨rfl, hM, hc⟩
  have HSZ16 := hide (And.intro (show w10.heap.size ≤ w11.heap.size by exact hc.size) HSZ15.out)
  clear HSZ15
  have HX_w11 := hide (HX_w10.out.trans (hc.below (B := W0.heap.size) HX_w10.out.size (fun b hb => by have hs := HSZ16.out; have := M5_G.out b hb; omega)))
  clear HX_w10
  have M3_w11 := hide (Dt.chg M3_w10.out hc (fun b h1 h2 => by have hs := HSZ16.out; have := M3_G.out b h1; have := M5_G.out b h2; omega))
  clear M3_w10
  have CM3_w11 := hide (CM3_w10.out.chg hc (fun h => by have hs := HSZ16.out; have := M5_G.out _ h; omega))
  clear CM3_w10
  have CM5_w11 := hide (CM5_w10.out.chg hc (fun h => by have hs := HSZ16.out; have := M5_G.out _ h; omega))
  clear CM5_w10
  have M5m := hide hM
  have hk : decide ((1 : Int) + (tcntIndex (ioV l) : Int) < 0) = false := by simp; omega
  clear hc hM
  have g0 := CM5_w11.out 0 _ rfl
  go_wp2_with fail
  clear g0
  refine (heldIndex_c (tmkIndex 1 (ioV l)) _ 1 _ (index_MK (x := tmkIndex 1 (ioV l)) M5m.out) (by decide) (by rw [tcntIndex_mk]; exact HS.out)).mono ?_
  rintro e w12 ⟨rfl, hb⟩
  rw [theldIndex_mk]
  have HSZ17 := hide (And.intro (show w11.heap.size ≤ w12.heap.size by exact hb.size) HSZ16.out)
  clear HSZ16
  have HX_w12 := hide (below_step HX_w11.out hb)
  clear HX_w11
  have M3_w12 := hide (Dt.by M3_w11.out hb)
  clear M3_w11
  have CM3_w12 := hide (CM3_w11.out.below hb)
  clear CM3_w11
  have M5_w12 := hide (Dt.by M5m.out hb)
  clear M5m
  have CM5_w12 := hide (CM5_w11.out.below hb)
  clear CM5_w11
  clear hb
  have HCx0 := hide (HC0.out.below HX_w12.out)
  have a0_0 := HCx0.out 0 _ rfl
  have a0_1 := HCx0.out 1 _ rfl
  clear HCx0
  go_wp2_with fail
  refine (toLog_c l _ _ (H0_1.out.below HX_w12.out) HF0.out).mono ?_
  rintro e w13 ⟨cs0, F0, rfl, hM, hF, hge, hb⟩
  obtain ⟨u0_1, rfl, hK0_1⟩ := log_K (logD.M_K hM)
  have HSZ18 := hide (And.intro (show w12.heap.size ≤ w13.heap.size by exact hb.size) HSZ17.out)
  clear HSZ17
  have HX_w13 := hide (below_step HX_w12.out hb)
  clear HX_w12
  have M3_w13 := hide (Dt.by M3_w12.out hb)
  clear M3_w12
  have CM3_w13 := hide (CM3_w12.out.below hb)
  clear CM3_w12
  have M5_w13 := hide (Dt.by M5_w12.out hb)
  clear M5_w12
  have CM5_w13 := hide (CM5_w12.out.below hb)
  clear CM5_w12
  replace a0_0 := cell_below hb a0_0
  replace a0_1 := cell_below hb a0_1
  have KK0_1 := hide hK0_1
  clear hM hF hge hK0_1
  clear hb
  go_wp2_with fail
  clear a0_0 a0_1
  refine (indexOf_c l _ _ KK0_1.out (okTexts_of HO0.out)).mono ?_
  rintro e w14 ⟨cs, F_w14, rfl, hM, hn, hl, hb⟩
  obtain ⟨r_w14_0, rfl, -⟩ := index_K (indexD.M_K hM)
  obtain ⟨ra_w14_0, rc_w14_0, rfl⟩ := (index_MK hM).shape
  have HSZ19 := hide (And.intro (show w13.heap.size ≤ w14.heap.size by exact hb.size) HSZ18.out)
  clear HSZ18
  have HX_w14 := hide (below_step HX_w13.out hb)
  clear HX_w13
  have M3_w14 := hide (Dt.by M3_w13.out hb)
  clear M3_w13
  have CM3_w14 := hide (CM3_w13.out.below hb)
  clear CM3_w13
  have M5_w14 := hide (Dt.by M5_w13.out hb)
  clear M5_w13
  have CM5_w14 := hide (CM5_w13.out.below hb)
  clear CM5_w13
  clear hb KK0_1
  have hlt := indexD.M_lt hM
  have M6_G := hide (show ∀ b ∈ F_w14, w13.heap.size ≤ b ∧ b < w14.heap.size from fun b hb => ⟨hl b hb, hlt b hb⟩)
  have M6_N := hide hn
  have M6 := hide hM
  clear hM hn hl hlt
  have s0 := CM3_w14.out 0 _ rfl
  have hlt0 : w3.heap.size < w14.heap.size := by have hs := HSZ19.out; omega
  go_wp2_with fail
  clear s0 hlt0
  obtain ⟨VM6, hVM6⟩ : ∃ V, V = w14.alloc (.cells #[.slice ra_w14_0 (ioV l).entries.length rc_w14_0] 33) := ⟨_, rfl⟩
  rw [← hVM6]
  have hb := (boxed hVM6).1
  have HSZ20 := hide (And.intro (show w14.heap.size ≤ VM6.heap.size by exact hb.size) HSZ19.out)
  clear HSZ19
  have HX_VM6 := hide (below_step HX_w14.out hb)
  clear HX_w14
  have M3_VM6 := hide (Dt.by M3_w14.out hb)
  clear M3_w14
  have CM3_VM6 := hide (CM3_w14.out.below hb)
  clear CM3_w14
  have M5_VM6 := hide (Dt.by M5_w14.out hb)
  clear M5_w14
  have CM5_VM6 := hide (CM5_w14.out.below hb)
  clear CM5_w14
  have M6_VM6 := hide (Dt.by M6.out hb)
  clear M6
  have HSZ21 := hide (And.intro (show VM6.heap.size = w14.heap.size + 1 by exact (boxed hVM6).2) HSZ20.out)
  clear HSZ20
  have CM6 := hide (Cells.new hVM6)
  clear hb hVM6
  refine (eqIndex_c (ioV l) (ioV l) _ _ _ (index_MK M6_VM6.out) (index_MK M3_VM6.out)).mono ?_
  rintro e w15 ⟨rfl, hb⟩
  rw [eqIndexB_eq, dec_same]
  have HSZ22 := hide (And.intro (show VM6.heap.size ≤ w15.heap.size by exact hb.size) HSZ21.out)
  clear HSZ21
  have HX_w15 := hide (below_step HX_VM6.out hb)
  clear HX_VM6
  have M3_w15 := hide (Dt.by M3_VM6.out hb)
  clear M3_VM6
  have CM3_w15 := hide (CM3_VM6.out.below hb)
  clear CM3_VM6
  have M5_w15 := hide (Dt.by M5_VM6.out hb)
  clear M5_VM6
  have CM5_w15 := hide (CM5_VM6.out.below hb)
  clear CM5_VM6
  have M6_w15 := hide (Dt.by M6_VM6.out hb)
  clear M6_VM6
  have CM6_w15 := hide (CM6.out.below hb)
  clear CM6
  clear hb
  have g0 := CM5_w15.out 0 _ rfl
  go_wp2_with fail
  clear g0
  refine (heldIndex_c (tmkIndex 1 (ioV l)) _ 1 _ (index_MK (x := tmkIndex 1 (ioV l)) M5_w15.out) (by decide) (by rw [tcntIndex_mk]; exact HS.out)).mono ?_
  rintro e w16 ⟨rfl, hb⟩
  rw [theldIndex_mk]
  have HSZ23 := hide (And.intro (show w15.heap.size ≤ w16.heap.size by exact hb.size) HSZ22.out)
  clear HSZ22
  have HX_w16 := hide (below_step HX_w15.out hb)
  clear HX_w15
  have M3_w16 := hide (Dt.by M3_w15.out hb)
  clear M3_w15
  have CM3_w16 := hide (CM3_w15.out.below hb)
  clear CM3_w15
  have M5_w16 := hide (Dt.by M5_w15.out hb)
  clear M5_w15
  have CM5_w16 := hide (CM5_w15.out.below hb)
  clear CM5_w15
  have M6_w16 := hide (Dt.by M6_w15.out hb)
  clear M6_w15
  have CM6_w16 := hide (CM6_w15.out.below hb)
  clear CM6_w15
  clear hb
  go_wp2_with fail
  go_ret
  exact ⟨rfl, HW.out.trans (HX_w16.out.mono HW.out.size)⟩
end Go.Proofs.Yticjphaagmnahaa
