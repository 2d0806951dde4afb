/- The law of FindPhrase: its walk. -/
import Derived.Test.YticjphaagmnahaaFindPhSpec
import Derived.Test.YticjphaagmnahaaVMsg
import Derived.Test.YticjphaagmnahaaRTypes
import Derived.Test.YticjphaagmnahaaLawStr
import Derived.Deep.RegionHeld3
import Derived.Deep.Cut
namespace Go.Proofs.Yticjphaagmnahaa
open Go Go.RowKit Go.BigFrame
set_option linter.unusedVariables false
set_option linter.unusedSimpArgs false

set_option maxHeartbeats 16000000 in
set_option maxRecDepth 100000 in
theorem fnExactFindPhrase_c (l : Log) (v0_1 : Value) (p : List ByteArray) (v1 : Value) (w : World) (h0_1 : SliceK messageD w v0_1 l.messages) (ok0 : okLog l) (h1 : SliceK strD w v1 p) (ok1 : ∀ y ∈ p, okStr y) :
    Calls Try.prog 5 #[.agg #[.int .i64 l.next, v0_1], v1] w fun e w' => e = .returned (.bool true) ∧ Below w.heap.size w w' := by
  obtain ⟨A0_1, c0_1, rfl⟩ := h0_1.shape
  obtain ⟨A1, c1, rfl⟩ := h1.shape
  obtain ⟨U1, hU1⟩ : ∃ U, U = w.alloc (.cells #[.int .i64 l.next, .slice A0_1 l.messages.length c0_1] 53) := ⟨_, rfl⟩
  have hz1 := (boxed hU1).2
  obtain ⟨W0, hW0⟩ : ∃ W, W = U1 := ⟨_, rfl⟩
  have HW := hide (show Below w.heap.size w W0 by rw [hW0]; exact below_step (Below.refl _ _) (boxed hU1).1)
  have HSZ0 := hide (show w.heap.size + 1 = W0.heap.size by rw [hW0]; omega)
  have hcc0 := Cells.new hU1
  rw [← hW0] at hcc0
  have HC0 := hide hcc0
  clear hcc0
  have HX0 := hide (Below.refl W0.heap.size W0)
  have H0_1 := hide (h0_1.below HW.out)
  clear h0_1
  have H1 := hide (h1.below HW.out)
  clear h1
  have HO0 := hide ok0
  clear ok0
  have HO1 := hide ok1
  clear ok1
  go_enter Try.func5, Try.ntmps5
  go_wp2_with fail
  rw [← hU1, ← hW0]
  clear hU1 hz1 hW0
  refine (szLog_c l _ _ _ (H0_1.out.below HX0.out) (by omega) (by omega) HO0.out).mono ?_
  rintro e w1 ⟨⟨r0, rfl, hr0⟩, hb⟩
  have HSZ1 := hide (And.intro (show W0.heap.size ≤ w1.heap.size by exact hb.size) HSZ0.out)
  clear HSZ0
  have HX_w1 := hide (below_step HX0.out hb)
  clear HX0
  clear hb
  rcases szR_spec hr0 (by omega) with ⟨hr, hs0⟩ | ⟨hr, hs0⟩
  rotate_left
  · have hneg : r0 < 0 := by omega
    clear hr hr0 hs0
    go_wp2_with fail
    go_ret
    exact ⟨rfl, HW.out.trans (HX_w1.out.mono HW.out.size)⟩
  have hn0 : 0 ≤ r0 ∧ r0 ≤ 1048576 := by omega
  have hq0 : (sizeLog l : Int) ≤ 1048576 := by omega
  have hnn0 : 0 ≤ r0 := by omega
  clear hr hr0 hs0
  go_wp2_with fail
  refine (szStringS_c _ p _ _ (H1.out.below HX_w1.out) (by omega) (by omega) HO1.out).mono ?_
  rintro e w2 ⟨⟨r1, rfl, hr1⟩, hb⟩
  have HSZ2 := hide (And.intro (show w1.heap.size ≤ w2.heap.size by exact hb.size) HSZ1.out)
  clear HSZ1
  have HX_w2 := hide (below_step HX_w1.out hb)
  clear HX_w1
  clear hb
  rcases szR_spec hr1 (by omega) with ⟨hr, hs1⟩ | ⟨hr, hs1⟩
  rotate_left
  · have hneg : r1 < 0 := by omega
    clear hr hr1 hs1
    go_wp2_with fail
    go_ret
    exact ⟨rfl, HW.out.trans (HX_w2.out.mono HW.out.size)⟩
  have hn1 : 0 ≤ r1 ∧ r1 ≤ 1048576 := by omega
  have hq1 : ((p.length + sizeAll sizeStr p) : Int) ≤ 1048576 := by omega
  have hnn1 : 0 ≤ r1 := by omega
  clear hr hr1 hs1
  have HF0 := hide (fewLog_of (l := l) (by omega))
  have HF1 := hide (show p.length ≤ 1048576 by omega)
  have hcn0 := tcntLog_le l
  have HN0 := hide (show (1 : Int) + (tcntLog l : Int) ≤ 1000000000000 by omega)
  have HN1 := hide (show (1 : Int) + (tcntLog l : Int) + (p.length : Int) ≤ 1000000000000 by omega)
  have HS := hide (show (1 : Int) + (fpL l p).length ≤ 1000000000000 by have := fpL_len l p; have := HF0.out.1; omega)
  clear hq0 hq1 hn0 hn1 hcn0
  -- the reference's answer
  have HCx0 := hide (HC0.out.below HX_w2.out)
  have a0_0 := HCx0.out 0 _ rfl
  have a0_1 := HCx0.out 1 _ rfl
  clear HCx0
  go_wp2_with fail
  refine (toLog_c l _ _ (H0_1.out.below HX_w2.out) HF0.out).mono ?_
  rintro e w3 ⟨cs0, F0, rfl, hM, hF, hge, hb⟩
  obtain ⟨u0_1, rfl, hK0_1⟩ := log_K (logD.M_K hM)
  have HSZ3 := hide (And.intro (show w2.heap.size ≤ w3.heap.size by exact hb.size) HSZ2.out)
  clear HSZ2
  have HX_w3 := hide (below_step HX_w2.out hb)
  clear HX_w2
  replace a0_0 := cell_below hb a0_0
  replace a0_1 := cell_below hb a0_1
  have KK0_1 := hide hK0_1
  clear hM hF hge hK0_1
  clear hb
  go_wp2_with fail
  refine (toStringS_c _ p _ (H1.out.below HX_w3.out) HF1.out).mono ?_
  rintro e w4 ⟨u1, rfl, hm, hb⟩
  obtain ⟨F1, hM, hF, hge⟩ := hm
  have HSZ4 := hide (And.intro (show w3.heap.size ≤ w4.heap.size by exact hb.size) HSZ3.out)
  clear HSZ3
  have HX_w4 := hide (below_step HX_w3.out hb)
  clear HX_w3
  replace a0_0 := cell_below hb a0_0
  replace a0_1 := cell_below hb a0_1
  replace KK0_1 := hide (KK0_1.out.below hb)
  have KK1 := hide hM.toK
  clear hM hF hge
  clear hb
  go_wp2_with fail
  clear a0_0 a0_1
  refine (specFindPhrase_c l p _ _ _ KK0_1.out KK1.out (okTexts_of HO0.out) HO1.out).mono ?_
  rintro e w5 ⟨v_w5, rfl, hm, hb⟩
  obtain ⟨A_w5, c_w5, rfl⟩ := hm.shape
  obtain ⟨F_w5, hM, hn, hl⟩ := hm
  have HSZ5 := hide (And.intro (show w4.heap.size ≤ w5.heap.size by exact hb.size) HSZ4.out)
  clear HSZ4
  have HX_w5 := hide (below_step HX_w4.out hb)
  clear HX_w4
  clear hb KK0_1 KK1
  have hlt := hM.lt
  have M3_G := hide (show ∀ b ∈ F_w5, w4.heap.size ≤ b ∧ b < w5.heap.size from fun b hb => ⟨hl b hb, hlt b hb⟩)
  have M3_N := hide hn
  have M3 := hide hM
  clear hM hn hl hlt
  -- the program's answer
  have HCx0 := hide (HC0.out.below HX_w5.out)
  have a0_0 := HCx0.out 0 _ rfl
  have a0_1 := HCx0.out 1 _ rfl
  clear HCx0
  go_wp2_with fail
  refine (toLog_c l _ _ (H0_1.out.below HX_w5.out) HF0.out).mono ?_
  rintro e w6 ⟨cs0, F0, rfl, hM, hF, hge, hb⟩
  obtain ⟨u0_1, rfl, hK0_1⟩ := log_K (logD.M_K hM)
  have HSZ6 := hide (And.intro (show w5.heap.size ≤ w6.heap.size by exact hb.size) HSZ5.out)
  clear HSZ5
  have HX_w6 := hide (below_step HX_w5.out hb)
  clear HX_w5
  have M3_w6 := hide (M3.out.by hb)
  clear M3
  clear a0_0 a0_1
  have hlt := logD.M_lt hM
  have X0_G := hide (show ∀ b ∈ F0, w5.heap.size ≤ b ∧ b < w6.heap.size from fun b hb => ⟨hge b hb, hlt b hb⟩)
  have X0_N := hide hF
  have X0 := hide hM
  obtain ⟨B0_1, e0_1, rfl⟩ := hK0_1.shape
  clear hM hF hge hlt hb hK0_1
  go_wp2_with fail
  obtain ⟨VX0, hV⟩ : ∃ V, V = w6.alloc (.cells #[.int .i64 l.next, .slice B0_1 l.messages.length e0_1] 58) := ⟨_, rfl⟩
  rw [← hV]
  have hb := (boxed hV).1
  have HSZ7 := hide (And.intro (show w6.heap.size ≤ VX0.heap.size by exact hb.size) HSZ6.out)
  clear HSZ6
  have HX_VX0 := hide (below_step HX_w6.out hb)
  clear HX_w6
  have M3_VX0 := hide (M3_w6.out.by hb)
  clear M3_w6
  have X0_VX0 := hide (Dt.by X0.out hb)
  clear X0
  have HSZ8 := hide (And.intro (show VX0.heap.size = w6.heap.size + 1 by exact (boxed hV).2) HSZ7.out)
  clear HSZ7
  have CX0 := hide (Cells.new hV)
  clear hb hV
  go_wp2_with fail
  refine (toStringS_c _ p _ (H1.out.below HX_VX0.out) HF1.out).mono ?_
  rintro e w7 ⟨u1, rfl, hm, hb⟩
  obtain ⟨F1, hM, hF, hge⟩ := hm
  have HSZ9 := hide (And.intro (show VX0.heap.size ≤ w7.heap.size by exact hb.size) HSZ8.out)
  clear HSZ8
  have HX_w7 := hide (below_step HX_VX0.out hb)
  clear HX_VX0
  have M3_w7 := hide (M3_VX0.out.by hb)
  clear M3_VX0
  have X0_w7 := hide (Dt.by X0_VX0.out hb)
  clear X0_VX0
  have CX0_w7 := hide (CX0.out.below hb)
  clear CX0
  have hlt := hM.lt
  have X1_G := hide (show ∀ b ∈ F1, VX0.heap.size ≤ b ∧ b < w7.heap.size from fun b hb => ⟨hge b hb, hlt b hb⟩)
  have X1_N := hide hF
  have X1 := hide hM
  obtain ⟨B1, e1, rfl⟩ := hM.toK.shape
  clear hM hF hge hlt hb
  have x0_0 := CX0_w7.out 0 _ rfl
  have x0_1 := CX0_w7.out 1 _ rfl
  go_wp2_with fail
  clear x0_0 x0_1
  refine (findPhrase_c l p _ _ _ (log_MK X0_w7.out) X1.out.toK (okTexts_of HO0.out) HO1.out).mono ?_
  rintro e w8 ⟨v_w8, rfl, hm, hb⟩
  obtain ⟨A_w8, c_w8, rfl⟩ := hm.shape
  obtain ⟨F_w8, hM, hn, hl⟩ := hm
  have HSZ10 := hide (And.intro (show w7.heap.size ≤ w8.heap.size by exact hb.size) HSZ9.out)
  clear HSZ9
  have HX_w8 := hide (below_step HX_w7.out hb)
  clear HX_w7
  have M3_w8 := hide (M3_w7.out.by hb)
  clear M3_w7
  have X0_w8 := hide (Dt.by X0_w7.out hb)
  clear X0_w7
  have CX0_w8 := hide (CX0_w7.out.below hb)
  clear CX0_w7
  have X1_w8 := hide (X1.out.by hb)
  clear X1
  clear hb
  have hlt := hM.lt
  have M5_G := hide (show ∀ b ∈ F_w8, w7.heap.size ≤ b ∧ b < w8.heap.size from fun b hb => ⟨hl b hb, hlt b hb⟩)
  have M5_N := hide hn
  have M5 := hide hM
  clear hM hn hl hlt
  go_wp2_with fail
  refine (eqInt64S_c _ _ _ _ _ M5.out.toK M3_w8.out.toK).mono ?_
  rintro e w9 ⟨rfl, hb⟩
  rw [dec_same]
  have HSZ11 := hide (And.intro (show w8.heap.size ≤ w9.heap.size by exact hb.size) HSZ10.out)
  clear HSZ10
  have HX_w9 := hide (below_step HX_w8.out hb)
  clear HX_w8
  have M3_w9 := hide (M3_w8.out.by hb)
  clear M3_w8
  have X0_w9 := hide (Dt.by X0_w8.out hb)
  clear X0_w8
  have CX0_w9 := hide (CX0_w8.out.below hb)
  clear CX0_w8
  have X1_w9 := hide (X1_w8.out.by hb)
  clear X1_w8
  have M5_w9 := hide (M5.out.by hb)
  clear M5
  clear hb
  have HCx0 := hide (HC0.out.below HX_w9.out)
  have a0_0 := HCx0.out 0 _ rfl
  have a0_1 := HCx0.out 1 _ rfl
  clear HCx0
  have x0_0 := CX0_w9.out 0 _ rfl
  have x0_1 := CX0_w9.out 1 _ rfl
  go_wp2_with fail
  go_region_held3 (fun w' : World => w'.cell? ⟨w.heap.size, 0, none⟩ = some (.int .i64 l.next) ∧ w'.cell? ⟨w.heap.size, 1, none⟩ = some (.slice A0_1 l.messages.length c0_1) ∧ w'.cell? ⟨w6.heap.size, 0, none⟩ = some (.int .i64 l.next) ∧ w'.cell? ⟨w6.heap.size, 1, none⟩ = some (.slice B0_1 l.messages.length e0_1)) (first | with_reducible exact ⟨a0_0, a0_1, x0_0, x0_1⟩ | with_reducible exact ⟨ya0_0, ya0_1, yx0_0, yx0_1⟩ | go_keep) (first
    | (go_at_call 31
       refine (toLog_c l _ _ (H0_1.out.below HX_w9.out.drew) HF0.out).mono ?_
       rintro e w10 ⟨cs, F, rfl, hM, -, -, hb⟩
       obtain ⟨u_1, rfl, hK_1⟩ := log_K (logD.M_K hM)
       have hb1 : Below w9.heap.size w9 w10 := (Below.refl _ w9).drew.trans hb
       have ya0_0 := cell_below hb1 a0_0
       have ya0_1 := cell_below hb1 a0_1
       have yx0_0 := cell_below hb1 x0_0
       have yx0_1 := cell_below hb1 x0_1
       clear hM hb)
    | (go_at_call 33
       refine (eqLog_c l l _ _ _ (((log_MK X0_w9.out)).below hb1) hK_1).mono ?_
       rintro e w11 ⟨rfl, hb2⟩
       rw [eqLogB_eq, dec_same]
       replace ya0_0 := cell_below hb2 ya0_0
       replace ya0_1 := cell_below hb2 ya0_1
       replace yx0_0 := cell_below hb2 yx0_0
       replace yx0_1 := cell_below hb2 yx0_1
       skip))
  have hb := below_step hb1 hb2
  have HSZ12 := hide (And.intro (show w9.heap.size ≤ w11.heap.size by exact hb.size) HSZ11.out)
  clear HSZ11
  have HX_w11 := hide (below_step HX_w9.out hb)
  clear HX_w9
  have M3_w11 := hide (M3_w9.out.by hb)
  clear M3_w9
  have X0_w11 := hide (Dt.by X0_w9.out hb)
  clear X0_w9
  have CX0_w11 := hide (CX0_w9.out.below hb)
  clear CX0_w9
  have X1_w11 := hide (X1_w9.out.by hb)
  clear X1_w9
  have M5_w11 := hide (M5_w9.out.by hb)
  clear M5_w9
  clear hb hb1 hb2 a0_0 a0_1 x0_0 x0_1 ya0_0 ya0_1 yx0_0 yx0_1
  clear hK_1
  go_wp2_with fail
  refine (toStringS_c _ p _ (H1.out.below HX_w11.out) HF1.out).mono ?_
  rintro e w12 ⟨u, rfl, hm, hb⟩
  obtain ⟨F, hM, -, -⟩ := hm
  have HKK := hide hM.toK
  have HSZ13 := hide (And.intro (show w11.heap.size ≤ w12.heap.size by exact hb.size) HSZ12.out)
  clear HSZ12
  have HX_w12 := hide (below_step HX_w11.out hb)
  clear HX_w11
  have M3_w12 := hide (M3_w11.out.by hb)
  clear M3_w11
  have X0_w12 := hide (Dt.by X0_w11.out hb)
  clear X0_w11
  have CX0_w12 := hide (CX0_w11.out.below hb)
  clear CX0_w11
  have X1_w12 := hide (X1_w11.out.by hb)
  clear X1_w11
  have M5_w12 := hide (M5_w11.out.by hb)
  clear M5_w11
  clear hM hb
  go_wp2_with fail
  refine (eqStringS_c _ _ _ _ _ X1_w12.out.toK HKK.out).mono ?_
  rintro e w13 ⟨rfl, hb⟩
  rw [dec_same]
  have HSZ14 := hide (And.intro (show w12.heap.size ≤ w13.heap.size by exact hb.size) HSZ13.out)
  clear HSZ13
  have HX_w13 := hide (below_step HX_w12.out hb)
  clear HX_w12
  have M3_w13 := hide (M3_w12.out.by hb)
  clear M3_w12
  have X0_w13 := hide (Dt.by X0_w12.out hb)
  clear X0_w12
  have CX0_w13 := hide (CX0_w12.out.below hb)
  clear CX0_w12
  have X1_w13 := hide (X1_w12.out.by hb)
  clear X1_w12
  have M5_w13 := hide (M5_w12.out.by hb)
  clear M5_w12
  clear hb HKK
  have x0_0 := CX0_w13.out 0 _ rfl
  have x0_1 := CX0_w13.out 1 _ rfl
  go_wp2_with fail
  refine (markLog_c l _ F0 ((1 : Int)) _ X0_w13.out X0_N.out (by omega) HN0.out).mono ?_
  rintro e w14 ⟨rfl, -, hc⟩
  have HSZ15 := hide (And.intro (show w13.heap.size ≤ w14.heap.size by exact hc.size) HSZ14.out)
  clear HSZ14
  have HX_w14 := hide (HX_w13.out.trans (hc.below (B := W0.heap.size) HX_w13.out.size (fun b hb => by have hs := HSZ15.out; have := X0_G.out b hb; omega)))
  clear HX_w13
  have M3_w14 := hide (M3_w13.out.chg hc (fun b h1 h2 => by have hs := HSZ15.out; have := M3_G.out b h1; have := X0_G.out b h2; omega))
  clear M3_w13
  have CX0_w14 := hide (CX0_w13.out.chg hc (fun h => by have hs := HSZ15.out; have := X0_G.out _ h; omega))
  clear CX0_w13
  have X1_w14 := hide (X1_w13.out.chg hc (fun b h1 h2 => by have hs := HSZ15.out; have := X1_G.out b h1; have := X0_G.out b h2; omega))
  clear X1_w13
  have M5_w14 := hide (M5_w13.out.chg hc (fun b h1 h2 => by have hs := HSZ15.out; have := M5_G.out b h1; have := X0_G.out b h2; omega))
  clear M5_w13
  clear hc
  clear x0_0 x0_1
  go_wp2_with fail
  refine (markStringS_c _ _ F1 ((1 : Int) + (tcntLog l : Int)) _ X1_w14.out X1_N.out (by omega) HN1.out).mono ?_
  rintro e w15 ⟨rfl, -, hc⟩
  have HSZ16 := hide (And.intro (show w14.heap.size ≤ w15.heap.size by exact hc.size) HSZ15.out)
  clear HSZ15
  have HX_w15 := hide (HX_w14.out.trans (hc.below (B := W0.heap.size) HX_w14.out.size (fun b hb => by have hs := HSZ16.out; have := X1_G.out b hb; omega)))
  clear HX_w14
  have M3_w15 := hide (M3_w14.out.chg hc (fun b h1 h2 => by have hs := HSZ16.out; have := M3_G.out b h1; have := X1_G.out b h2; omega))
  clear M3_w14
  have M5_w15 := hide (M5_w14.out.chg hc (fun b h1 h2 => by have hs := HSZ16.out; have := M5_G.out b h1; have := X1_G.out b h2; omega))
  clear M5_w14
  clear hc
  have hk : decide ((1 : Int) + (tcntLog l : Int) + (p.length : Int) < 0) = false := by simp; omega
  go_wp2_with fail
  refine (eqInt64S_c _ _ _ _ _ M5_w15.out.toK M3_w15.out.toK).mono ?_
  rintro e w16 ⟨rfl, hb⟩
  rw [dec_same]
  have HSZ17 := hide (And.intro (show w15.heap.size ≤ w16.heap.size by exact hb.size) HSZ16.out)
  clear HSZ16
  have HX_w16 := hide (below_step HX_w15.out hb)
  clear HX_w15
  have M3_w16 := hide (M3_w15.out.by hb)
  clear M3_w15
  have M5_w16 := hide (M5_w15.out.by hb)
  clear M5_w15
  clear hb
  clear hk
  go_wp2_with fail
  refine (markInt64S_c _ _ F_w8 1 _ M5_w16.out (by decide) HS.out).mono ?_
  rintro e w17 ⟨rfl, hM, hc⟩
  have HSZ18 := hide (And.intro (show w16.heap.size ≤ w17.heap.size by exact hc.size) HSZ17.out)
  clear HSZ17
  have HX_w17 := hide (HX_w16.out.trans (hc.below (B := W0.heap.size) HX_w16.out.size (fun b hb => by have hs := HSZ18.out; have := M5_G.out b hb; omega)))
  clear HX_w16
  have M3_w17 := hide (M3_w16.out.chg hc (fun b h1 h2 => by have hs := HSZ18.out; have := M3_G.out b h1; have := M5_G.out b h2; omega))
  clear M3_w16
  have M5m := hide hM
  have hk : decide ((1 : Int) + ((fpL l p).length : Int) < 0) = false := by simp; omega
  clear hc hM
  go_wp2_with fail
  refine (heldInt64S_c _ _ 1 _ M5m.out.toK (by decide) (by rw [marks_len]; exact HS.out)).mono ?_
  rintro e w18 ⟨rfl, hb⟩
  rw [heldI_marks]
  have HSZ19 := hide (And.intro (show w17.heap.size ≤ w18.heap.size by exact hb.size) HSZ18.out)
  clear HSZ18
  have HX_w18 := hide (below_step HX_w17.out hb)
  clear HX_w17
  have M3_w18 := hide (M3_w17.out.by hb)
  clear M3_w17
  have M5_w18 := hide (M5m.out.by hb)
  clear M5m
  clear hb
  have HCx0 := hide (HC0.out.below HX_w18.out)
  have a0_0 := HCx0.out 0 _ rfl
  have a0_1 := HCx0.out 1 _ rfl
  clear HCx0
  go_wp2_with fail
  refine (toLog_c l _ _ (H0_1.out.below HX_w18.out) HF0.out).mono ?_
  rintro e w19 ⟨cs0, F0, rfl, hM, hF, hge, hb⟩
  obtain ⟨u0_1, rfl, hK0_1⟩ := log_K (logD.M_K hM)
  have HSZ20 := hide (And.intro (show w18.heap.size ≤ w19.heap.size by exact hb.size) HSZ19.out)
  clear HSZ19
  have HX_w19 := hide (below_step HX_w18.out hb)
  clear HX_w18
  have M3_w19 := hide (M3_w18.out.by hb)
  clear M3_w18
  have M5_w19 := hide (M5_w18.out.by hb)
  clear M5_w18
  replace a0_0 := cell_below hb a0_0
  replace a0_1 := cell_below hb a0_1
  have KK0_1 := hide hK0_1
  clear hM hF hge hK0_1
  clear hb
  go_wp2_with fail
  refine (toStringS_c _ p _ (H1.out.below HX_w19.out) HF1.out).mono ?_
  rintro e w20 ⟨u1, rfl, hm, hb⟩
  obtain ⟨F1, hM, hF, hge⟩ := hm
  have HSZ21 := hide (And.intro (show w19.heap.size ≤ w20.heap.size by exact hb.size) HSZ20.out)
  clear HSZ20
  have HX_w20 := hide (below_step HX_w19.out hb)
  clear HX_w19
  have M3_w20 := hide (M3_w19.out.by hb)
  clear M3_w19
  have M5_w20 := hide (M5_w19.out.by hb)
  clear M5_w19
  replace a0_0 := cell_below hb a0_0
  replace a0_1 := cell_below hb a0_1
  replace KK0_1 := hide (KK0_1.out.below hb)
  have KK1 := hide hM.toK
  clear hM hF hge
  clear hb
  go_wp2_with fail
  clear a0_0 a0_1
  refine (findPhrase_c l p _ _ _ KK0_1.out KK1.out (okTexts_of HO0.out) HO1.out).mono ?_
  rintro e w21 ⟨v_w21, rfl, hm, hb⟩
  obtain ⟨A_w21, c_w21, rfl⟩ := hm.shape
  obtain ⟨F_w21, hM, hn, hl⟩ := hm
  have HSZ22 := hide (And.intro (show w20.heap.size ≤ w21.heap.size by exact hb.size) HSZ21.out)
  clear HSZ21
  have HX_w21 := hide (below_step HX_w20.out hb)
  clear HX_w20
  have M3_w21 := hide (M3_w20.out.by hb)
  clear M3_w20
  have M5_w21 := hide (M5_w20.out.by hb)
  clear M5_w20
  clear hb KK0_1 KK1
  have hlt := hM.lt
  have M6_G := hide (show ∀ b ∈ F_w21, w20.heap.size ≤ b ∧ b < w21.heap.size from fun b hb => ⟨hl b hb, hlt b hb⟩)
  have M6_N := hide hn
  have M6 := hide hM
  clear hM hn hl hlt
  go_wp2_with fail
  refine (eqInt64S_c _ _ _ _ _ M6.out.toK M3_w21.out.toK).mono ?_
  rintro e w22 ⟨rfl, hb⟩
  rw [dec_same]
  have HSZ23 := hide (And.intro (show w21.heap.size ≤ w22.heap.size by exact hb.size) HSZ22.out)
  clear HSZ22
  have HX_w22 := hide (below_step HX_w21.out hb)
  clear HX_w21
  have M3_w22 := hide (M3_w21.out.by hb)
  clear M3_w21
  have M5_w22 := hide (M5_w21.out.by hb)
  clear M5_w21
  have M6_w22 := hide (M6.out.by hb)
  clear M6
  clear hb
  go_wp2_with fail
  refine (heldInt64S_c _ _ 1 _ M5_w22.out.toK (by decide) (by rw [marks_len]; exact HS.out)).mono ?_
  rintro e w23 ⟨rfl, hb⟩
  rw [heldI_marks]
  have HSZ24 := hide (And.intro (show w22.heap.size ≤ w23.heap.size by exact hb.size) HSZ23.out)
  clear HSZ23
  have HX_w23 := hide (below_step HX_w22.out hb)
  clear HX_w22
  have M3_w23 := hide (M3_w22.out.by hb)
  clear M3_w22
  have M5_w23 := hide (M5_w22.out.by hb)
  clear M5_w22
  have M6_w23 := hide (M6_w22.out.by hb)
  clear M6_w22
  clear hb
  go_wp2_with fail
  go_ret
  exact ⟨rfl, HW.out.trans (HX_w23.out.mono HW.out.size)⟩
end Go.Proofs.Yticjphaagmnahaa
