/- The law of SeenBy: its walk. -/
import Derived.Test.YtggonapnfiboeaaSeen
import Derived.Test.YtggonapnfiboeaaLawLog
import Derived.Deep.RegionWith
namespace Go.Proofs.Ytggonapnfiboeaa
open Go Go.RowKit Go.BigFrame
set_option linter.unusedVariables false
set_option linter.unusedSimpArgs false

theorem sizeAll_get {α : Type} (f : α → Nat) : ∀ (xs : List α) (x : α), x ∈ xs → f x ≤ sizeAll f xs
  | y :: xs, x, h => by
    rcases List.mem_cons.1 h with rfl | h
    · exact Nat.le_add_right _ _
    · exact Nat.le_trans (sizeAll_get f xs x h) (Nat.le_add_left _ _)
theorem fewLog_of {l : Log} (h : sizeLog l ≤ 1048576) : fewLog l := by
  unfold sizeLog at h
  refine ⟨by omega, fun y hy => ?_⟩
  have := sizeAll_get sizeMessage _ y hy
  have h2 : sizeMessage y = y.text.size + y.likes.length := rfl
  unfold fewMessage
  omega
theorem SliceM.chg {α : Type} {d : Dt α} {e : TypeId} {w w' : World} {v : Value} {xs : List α} {F G : List Nat} (h : SliceM d e w v xs F) (hc : Chg G w w') (hd : ∀ b ∈ F, b ∉ G) : SliceM d e w' v xs F :=
  h.move fun b hb => hc.block b (h.lt b hb) (hd b hb)
theorem SliceM.by {α : Type} {d : Dt α} {e : TypeId} {w w' : World} {v : Value} {xs : List α} {F : List Nat} (h : SliceM d e w v xs F) (hc : Below w.heap.size w w') : SliceM d e w' v xs F :=
  h.move fun b hb => hc.block b (h.lt b hb)

theorem cnt7 : ∀ xs : List Message, cntAll cntMessage xs ≤ 7 * xs.length + sizeAll sizeMessage xs
  | [] => Nat.le_refl _
  | x :: xs => by
    have h1 := cnt7 xs
    have h2 : cntAll cntMessage (x :: xs) = (7 + x.likes.length) + cntAll cntMessage xs := rfl
    have h3 : sizeAll sizeMessage (x :: xs) = (x.text.size + x.likes.length) + sizeAll sizeMessage xs := rfl
    rw [h2, h3, List.length_cons]
    omega
theorem tcntLog_le (l : Log) : tcntLog l ≤ 8 * sizeLog l := by
  have := cnt7 l.messages
  unfold tcntLog sizeLog; omega
theorem heldI_marks (k : Int) (n : Nat) : heldI k (marks k n) = k + n := by unfold heldI; rw [if_pos (by rw [marks_len]), marks_len]
theorem seenL_len (l : Log) (member since : Int) : (seenL l member since).length ≤ l.messages.length := by
  unfold seenL; split
  · exact pickNums_len _ _
  · simp
theorem dec_same {α : Type} [DecidableEq α] (x : α) : decide (x = x) = true := by simp
set_option maxHeartbeats 8000000 in
theorem fnExactSeenBy_c (l : Log) (v1 : Value) (member since : Int) (w : World) (h1 : SliceK messageD w v1 l.messages) (ht : okLog l) :
    Calls Try.prog 3 #[.agg #[.int .i64 l.next, v1], .int .i64 member, .int .i64 since] w fun e w' => e = .returned (.bool true) ∧ Below w.heap.size w w' := by
  obtain ⟨A, c, rfl⟩ := h1.shape
  have htx : okTexts l.messages := fun m hm => ht m hm
  obtain ⟨W0, hW0⟩ : ∃ W0, W0 = w.alloc (.cells #[.int .i64 l.next, .slice A l.messages.length c] 24) := ⟨_, rfl⟩
  have HW := hide (show Below w.heap.size w W0 by rw [hW0]; exact (Below.refl w.heap.size w).alloc (Nat.le_refl _) _)
  have hz0 : W0.heap.size = w.heap.size + 1 := by rw [hW0]; simp
  have H1 := hide (h1.below HW.out)
  have hc0 : W0.cell? ⟨w.heap.size, 0, none⟩ = some (.int .i64 l.next) := by rw [hW0]; simp
  have hc1 : W0.cell? ⟨w.heap.size, 1, none⟩ = some (.slice A l.messages.length c) := by rw [hW0]; simp
  have HC := hide (And.intro hc0 hc1)
  clear h1 hc0 hc1
  have HT := hide htx
  go_enter Try.func3, Try.ntmps3
  go_wp2_with fail
  rw [← hW0]
  refine (szLog_c l _ _ _ H1.out (by decide) (by decide) ht).mono ?_
  rintro e w1 ⟨⟨r, rfl, hr⟩, hb1⟩
  have HX1 := hide hb1
  clear hb1 htx ht hW0
  rcases szR_spec hr (by decide) with ⟨hr1, hr2⟩ | ⟨hr1, hr2⟩
  · have hfew := fewLog_of (l := l) (by omega)
    have hr0 : 0 ≤ r := by omega
    have HN := hide (show (1 : Int) + tcntLog l ≤ 1000000000000 by have := tcntLog_le l; omega)
    have HS := hide (show (1 : Int) + (seenL l member since).length ≤ 1000000000000 by have := seenL_len l member since; have := hfew.1; omega)
    have HF := hide hfew
    clear hfew hr hr1 hr2
    have c0 := cell_below HX1.out HC.out.1
    have c1 := cell_below HX1.out HC.out.2
    go_wp2_with fail
    -- the reference's answer
    refine (toLog_c l _ _ (H1.out.below HX1.out) HF.out).mono ?_
    rintro e w2 ⟨cs2, F2, rfl, hM2, -, -, hb2⟩
    obtain ⟨u2, rfl, hK2⟩ := log_K (logD.M_K hM2)
    have HX2 := hide (below_step HX1.out hb2)
    have HK2 := hide hK2
    clear hM2 hb2 hK2 c0 c1
    go_wp2_with fail
    refine (specSeenBy_c l u2 member since _ HK2.out HT.out).mono ?_
    rintro e w3 ⟨v3, rfl, hm3, hb3⟩
    obtain ⟨A3, n3, rfl⟩ := hm3.shape
    obtain ⟨F3, hM3, -, -⟩ := hm3
    have HM3 := hide hM3
    have HX3 := hide (below_step HX2.out hb3)
    clear hb3 hM3
    have c0 := cell_below HX3.out HC.out.1
    have c1 := cell_below HX3.out HC.out.2
    go_wp2_with fail
    -- the program's answer
    refine (toLog_c l _ _ (H1.out.below HX3.out) HF.out).mono ?_
    rintro e w4 ⟨cs4, F4, rfl, hM4, hn4, hl4, hb4⟩
    obtain ⟨u4, rfl, hK4⟩ := log_K (logD.M_K hM4)
    obtain ⟨A4, n4, rfl⟩ := hK4.shape
    have HX4 := hide (below_step HX3.out hb4)
    have HY4 := hide hb4
    have HM4 := hide hM4
    have HK4 := hide hK4
    clear hM4 hb4 hK4 c0 c1
    go_wp2_with fail
    obtain ⟨V4, hV4⟩ : ∃ V4, V4 = w4.alloc (.cells #[.int .i64 l.next, .slice A4 l.messages.length n4] 31) := ⟨_, rfl⟩
    rw [← hV4]
    have HV4 := hide (show Below w4.heap.size w4 V4 by rw [hV4]; exact (Below.refl _ _).alloc (Nat.le_refl _) _)
    have hx0 : V4.cell? ⟨w4.heap.size, 0, none⟩ = some (.int .i64 l.next) := by rw [hV4]; simp
    have hx1 : V4.cell? ⟨w4.heap.size, 1, none⟩ = some (.slice A4 l.messages.length n4) := by rw [hV4]; simp
    have HXC := hide (And.intro hx0 hx1)
    clear hV4 hx0 hx1
    refine (seenBy_c l _ member since _ (HK4.out.below HV4.out) HT.out).mono ?_
    rintro e w5 ⟨v5, rfl, hm5, hb5⟩
    obtain ⟨A5, n5, rfl⟩ := hm5.shape
    obtain ⟨F5, hM5, hn5, hl5⟩ := hm5
    have HM5 := hide hM5
    have HL5 := hide (And.intro hn5 hl5)
    have HV5 := hide hb5
    have HZ5 := hide (below_step HV4.out hb5)
    have HY5 := hide (below_step HY4.out HZ5.out)
    have HX5 := hide (below_step HX4.out HZ5.out)
    clear hM5 hn5 hl5 hb5
    go_wp2_with fail
    refine (eqInt64S_c _ _ _ _ _ HM5.out.toK (HM3.out.by HY5.out).toK).mono ?_
    rintro e w6 ⟨rfl, hb6⟩
    rw [dec_same]
    have HM5' := hide (HM5.out.by hb6)
    have HV6 := hide (below_step HV5.out hb6)
    have HZ6 := hide (below_step HZ5.out hb6)
    have HY6 := hide (below_step HY5.out hb6)
    have HX6 := hide (below_step HX5.out hb6)
    have c0 := cell_below HX6.out HC.out.1
    have c1 := cell_below HX6.out HC.out.2
    have x0 := cell_below HV6.out HXC.out.1
    have x1 := cell_below HV6.out HXC.out.2
    clear hb6 HM5
    go_wp2_with fail
    go_region_with (first
      | (go_at_call 7
         refine (toLog_c l _ _ (H1.out.below (below_step HX6.out (Below.refl _ _).drew)) HF.out).mono ?_
         rintro e w7 ⟨cs7, F7, rfl, hM7, -, -, hb7⟩
         obtain ⟨u7, rfl, hK7⟩ := log_K (logD.M_K hM7)
         have hb7 := (Below.refl _ w6).drew.trans hb7
         have y0 := cell_below hb7 x0
         have y1 := cell_below hb7 x1
         clear hM7)
      | (go_at_call 10
         refine (eqLog_c l l _ _ _ (HK4.out.below (below_step HZ6.out hb7)) hK7).mono ?_
         rintro e w8 ⟨rfl, hb8⟩
         rw [eqLogB_eq, dec_same]))
    all_goals
      have Z8 : Below w6.heap.size w6 w8 := below_step hb7 hb8
      have x0 := cell_below Z8 x0
      have x1 := cell_below Z8 x1
      have HZ8 := hide (below_step HZ6.out Z8)
      have HY8 := hide (below_step HY6.out Z8)
      have HX8 := hide (below_step HX6.out Z8)
      have HM8 := hide (HM5'.out.by Z8)
      clear Z8 hb7 hb8 c0 c1
      go_wp2_with fail
      refine (markLog_c l _ F4 1 _ (logD.M_move (fun b hb => HZ8.out.block b (logD.M_lt HM4.out b hb)) HM4.out) hn4 (by decide) HN.out).mono ?_
      rintro e w9 ⟨rfl, -, hc9⟩
      have HY9 := hide (HY8.out.trans (hc9.below (B := w3.heap.size) HY8.out.size hl4))
      have HX9 := hide (HX8.out.trans (hc9.below (B := W0.heap.size) HX8.out.size (fun b hb => Nat.le_trans HX3.out.size (hl4 b hb))))
      have HM9 := hide (HM8.out.chg hc9 (fun b hb hb4 => by have h1 := HL5.out.2 b hb; have h2 := logD.M_lt HM4.out b hb4; have h3 := HV4.out.size; omega))
      have hk9 : decide ((1 : Int) + (tcntLog l : Int) < 0) = false := by simp; omega
      clear hc9 x0 x1
      go_wp2_with fail
      refine (eqInt64S_c _ _ _ _ _ HM9.out.toK (HM3.out.by HY9.out).toK).mono ?_
      rintro e w10 ⟨rfl, hb10⟩
      rw [dec_same]
      have HY10 := hide (below_step HY9.out hb10)
      have HX10 := hide (below_step HX9.out hb10)
      have HM10 := hide (HM9.out.by hb10)
      clear hb10 hk9
      go_wp2_with fail
      refine (markInt64S_c _ _ F5 1 _ HM10.out (by decide) HS.out).mono ?_
      rintro e w11 ⟨rfl, hM11, hc11⟩
      have HM11 := hide hM11
      have hge5 : ∀ b ∈ F5, w3.heap.size ≤ b := fun b hb => Nat.le_trans HY4.out.size (Nat.le_trans HV4.out.size (HL5.out.2 b hb))
      have HY11 := hide (HY10.out.trans (hc11.below (B := w3.heap.size) HY10.out.size hge5))
      have HX11 := hide (HX10.out.trans (hc11.below (B := W0.heap.size) HX10.out.size (fun b hb => Nat.le_trans HX3.out.size (hge5 b hb))))
      have hk11 : decide ((1 : Int) + ((seenL l member since).length : Int) < 0) = false := by simp; omega
      clear hc11 hM11 hge5
      go_wp2_with fail
      refine (heldInt64S_c _ _ 1 _ HM11.out.toK (by decide) (by rw [marks_len]; exact HS.out)).mono ?_
      rintro e w12 ⟨rfl, hb12⟩
      rw [heldI_marks]
      have HY12 := hide (below_step HY11.out hb12)
      have HX12 := hide (below_step HX11.out hb12)
      have HM12 := hide (HM11.out.by hb12)
      have c0 := cell_below HX12.out HC.out.1
      have c1 := cell_below HX12.out HC.out.2
      clear hb12
      go_wp2_with fail
      refine (toLog_c l _ _ (H1.out.below HX12.out) HF.out).mono ?_
      rintro e w13 ⟨cs13, F13, rfl, hM13, -, -, hb13⟩
      obtain ⟨u13, rfl, hK13⟩ := log_K (logD.M_K hM13)
      have HK13 := hide hK13
      have HY13 := hide (below_step HY12.out hb13)
      have HX13 := hide (below_step HX12.out hb13)
      have HM13 := hide (HM12.out.by hb13)
      clear hM13 hb13 hK13 c0 c1
      go_wp2_with fail
      refine (seenBy_c l u13 member since _ HK13.out HT.out).mono ?_
      rintro e w14 ⟨v14, rfl, hm14, hb14⟩
      obtain ⟨A14, n14, rfl⟩ := hm14.shape
      obtain ⟨F14, hM14, -, -⟩ := hm14
      have HM14 := hide hM14
      have HY14 := hide (below_step HY13.out hb14)
      have HX14 := hide (below_step HX13.out hb14)
      have HR14 := hide (HM13.out.by hb14)
      clear hM14 hb14
      go_wp2_with fail
      refine (eqInt64S_c _ _ _ _ _ HM14.out.toK (HM3.out.by HY14.out).toK).mono ?_
      rintro e w15 ⟨rfl, hb15⟩
      rw [dec_same]
      have HX15 := hide (below_step HX14.out hb15)
      have HR15 := hide (HR14.out.by hb15)
      clear hb15
      go_wp2_with fail
      refine (heldInt64S_c _ _ 1 _ HR15.out.toK (by decide) (by rw [marks_len]; exact HS.out)).mono ?_
      rintro e w16 ⟨rfl, hb16⟩
      rw [heldI_marks]
      have HX16 := hide (below_step HX15.out hb16)
      clear hb16
      go_wp2_with fail
      go_ret
      exact ⟨rfl, HW.out.trans (HX16.out.mono HW.out.size)⟩
  · have hr0 : r < 0 := by omega
    clear hr hr1 hr2
    go_wp2_with fail
    go_ret
    exact ⟨rfl, HW.out.trans (HX1.out.mono HW.out.size)⟩
end Go.Proofs.Ytggonapnfiboeaa
