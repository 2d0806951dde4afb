/- The law of IndexMessage: its walk. -/
import Derived.Test.YticjphaagmnahaaIxMsg
import Derived.Test.YticjphaagmnahaaVMsg
import Derived.Test.YticjphaagmnahaaIndexLaws
import Derived.Test.YticjphaagmnahaaRTypes
import Derived.Deep.RegionHeld3
import Derived.Deep.Cut
namespace Go.Proofs.Yticjphaagmnahaa
open Go Go.RowKit Go.BigFrame
set_option linter.unusedVariables false
set_option linter.unusedSimpArgs false

set_option maxHeartbeats 16000000 in
set_option maxRecDepth 100000 in
theorem fnExactIndexMessage_c (ix : Index) (v0_0 : Value) (m : Message) (v1_7 : Value) (w : World) (h0_0 : SliceK entryD w v0_0 ix.entries) (ok0 : okIndex ix) (h1_7 : SliceK intD w v1_7 m.likes) (ok1 : okMessage m) :
    Calls Try.prog 9 #[.agg #[v0_0], .agg #[.int .i64 m.number, .int .i64 m.sender, .int .i64 m.at_, .string m.text, .int .i64 m.edits, .bool m.gone, .int .i64 m.reply, v1_7]] w fun e w' => e = .returned (.bool true) ∧ Below w.heap.size w w' := by
  obtain ⟨A0_0, c0_0, rfl⟩ := h0_0.shape
  obtain ⟨A1_7, c1_7, rfl⟩ := h1_7.shape
  obtain ⟨U1, hU1⟩ : ∃ U, U = w.alloc (.cells #[.slice A0_0 ix.entries.length c0_0] 24) := ⟨_, rfl⟩
  have hz1 := (boxed hU1).2
  obtain ⟨U2, hU2⟩ : ∃ U, U = U1.alloc (.cells #[.int .i64 m.number, .int .i64 m.sender, .int .i64 m.at_, .string m.text, .int .i64 m.edits, .bool m.gone, .int .i64 m.reply, .slice A1_7 m.likes.length c1_7] 43) := ⟨_, rfl⟩
  have hz2 := (boxed hU2).2
  obtain ⟨W0, hW0⟩ : ∃ W, W = U2 := ⟨_, rfl⟩
  have HW := hide (show Below w.heap.size w W0 by rw [hW0]; exact below_step (below_step (Below.refl _ _) (boxed hU1).1) (boxed hU2).1)
  have HSZ0 := hide (show w.heap.size + 2 = W0.heap.size by rw [hW0]; omega)
  have hcc0 := Cells.below (Cells.new hU1) (boxed hU2).1
  rw [← hW0] at hcc0
  have HC0 := hide hcc0
  clear hcc0
  have hcc1 := Cells.new hU2
  rw [show U1.heap.size = w.heap.size + 1 by omega] at hcc1
  rw [← hW0] at hcc1
  have HC1 := hide hcc1
  clear hcc1
  have HX0 := hide (Below.refl W0.heap.size W0)
  have H0_0 := hide (h0_0.below HW.out)
  clear h0_0
  have H1_7 := hide (h1_7.below HW.out)
  clear h1_7
  have HO0 := hide ok0
  clear ok0
  have HO1 := hide ok1
  clear ok1
  go_enter Try.func9, Try.ntmps9
  go_wp2_with fail
  rw [← hU1, ← hU2, ← hW0]
  clear hU1 hz1 hU2 hz2 hW0
  refine (szIndex_c ix _ _ _ (H0_0.out.below HX0.out) (by omega) (by omega) HO0.out).mono ?_
  rintro e w1 ⟨⟨r0, rfl, hr0⟩, hb⟩
  have HSZ1 := hide (And.intro (show W0.heap.size ≤ w1.heap.size by exact hb.size) HSZ0.out)
  clear HSZ0
  have HX_w1 := hide (below_step HX0.out hb)
  clear HX0
  clear hb
  rcases szR_spec hr0 (by omega) with ⟨hr, hs0⟩ | ⟨hr, hs0⟩
  rotate_left
  · have hneg : r0 < 0 := by omega
    clear hr hr0 hs0
    go_wp2_with fail
    go_ret
    exact ⟨rfl, HW.out.trans (HX_w1.out.mono HW.out.size)⟩
  have hn0 : 0 ≤ r0 ∧ r0 ≤ 1048576 := by omega
  have hq0 : (sizeIndex ix : Int) ≤ 1048576 := by omega
  have hnn0 : 0 ≤ r0 := by omega
  clear hr hr0 hs0
  have HCx1 := hide (HC1.out.below HX_w1.out)
  have a1_0 := HCx1.out 0 _ rfl
  have a1_1 := HCx1.out 1 _ rfl
  have a1_2 := HCx1.out 2 _ rfl
  have a1_3 := HCx1.out 3 _ rfl
  have a1_4 := HCx1.out 4 _ rfl
  have a1_5 := HCx1.out 5 _ rfl
  have a1_6 := HCx1.out 6 _ rfl
  have a1_7 := HCx1.out 7 _ rfl
  clear HCx1
  go_wp2_with fail
  refine (szMessage_c m _ _ _ (H1_7.out.below HX_w1.out) (by omega) (by omega) HO1.out).mono ?_
  rintro e w2 ⟨⟨r1, rfl, hr1⟩, hb⟩
  have HSZ2 := hide (And.intro (show w1.heap.size ≤ w2.heap.size by exact hb.size) HSZ1.out)
  clear HSZ1
  have HX_w2 := hide (below_step HX_w1.out hb)
  clear HX_w1
  clear hb
  clear a1_0 a1_1 a1_2 a1_3 a1_4 a1_5 a1_6 a1_7
  rcases szR_spec hr1 (by omega) with ⟨hr, hs1⟩ | ⟨hr, hs1⟩
  rotate_left
  · have hneg : r1 < 0 := by omega
    clear hr hr1 hs1
    go_wp2_with fail
    go_ret
    exact ⟨rfl, HW.out.trans (HX_w2.out.mono HW.out.size)⟩
  have hn1 : 0 ≤ r1 ∧ r1 ≤ 1048576 := by omega
  have hq1 : (sizeMessage m : Int) ≤ 1048576 := by omega
  have hnn1 : 0 ≤ r1 := by omega
  clear hr hr1 hs1
  have HF0 := hide (fewIndex_of (l := ix) (by omega))
  have HF1 := hide (fewMessage_of (l := m) (by omega))
  have HE := hide (show fitIx ix by exact fitIx_of (by omega))
  have hcn0 := tcntIndex_le ix
  have hcn1 := tcntMessage_le m
  have HN0 := hide (show (1 : Int) + (tcntIndex ix : Int) ≤ 1000000000000 by omega)
  have HN1 := hide (show (1 : Int) + (tcntIndex ix : Int) + (tcntMessage m : Int) ≤ 1000000000000 by omega)
  have HS := hide (show (1 : Int) + tcntIndex (imV ix m) ≤ 1000000000000 by have := im_cnt ix m HE.out; omega)
  clear hq0 hq1 hn0 hn1 hcn0 hcn1
  -- the reference's answer
  have HCx0 := hide (HC0.out.below HX_w2.out)
  have a0_0 := HCx0.out 0 _ rfl
  clear HCx0
  have HCx1 := hide (HC1.out.below HX_w2.out)
  have a1_0 := HCx1.out 0 _ rfl
  have a1_1 := HCx1.out 1 _ rfl
  have a1_2 := HCx1.out 2 _ rfl
  have a1_3 := HCx1.out 3 _ rfl
  have a1_4 := HCx1.out 4 _ rfl
  have a1_5 := HCx1.out 5 _ rfl
  have a1_6 := HCx1.out 6 _ rfl
  have a1_7 := HCx1.out 7 _ rfl
  clear HCx1
  have zl0 : w.heap.size < w2.heap.size := by have hs := HSZ2.out; omega
  have zn0 : ¬ w.heap.size = w2.heap.size := by have hs := HSZ2.out; omega
  have zm0 : ¬ w2.heap.size = w.heap.size := by have hs := HSZ2.out; omega
  have zl1 : w.heap.size + 1 < w2.heap.size := by have hs := HSZ2.out; omega
  have zn1 : ¬ w.heap.size + 1 = w2.heap.size := by have hs := HSZ2.out; omega
  have zm1 : ¬ w2.heap.size = w.heap.size + 1 := by have hs := HSZ2.out; omega
  go_wp2_with fail
  go_cut [6, 7] from 27 (fun sb so w' => ∃ (b : Nat) (rA0 : Option Addr) (rc0 : Nat) (F : List Nat), sb = .pointer (some ⟨b, 0, none⟩) ∧ so = .bool (imOk ix m) ∧ Hid (Below w2.heap.size w2 w') ∧ Hid (Cells w' b [.slice rA0 (imV ix m).entries.length rc0]) ∧ Hid (indexD.M w' (imV ix m) [.slice rA0 (imV ix m).entries.length rc0] F) ∧ Hid F.Nodup ∧ Hid (∀ y ∈ F, w2.heap.size ≤ y ∧ y < w'.heap.size) ∧ Hid (w2.heap.size ≤ b ∧ b < w'.heap.size ∧ b ∉ F))
  case first =>
    go_region_held3 (fun w' : World => w'.cell? ⟨w.heap.size, 0, none⟩ = some (.slice A0_0 ix.entries.length c0_0) ∧ w'.cell? ⟨w.heap.size + 1, 0, none⟩ = some (.int .i64 m.number) ∧ w'.cell? ⟨w.heap.size + 1, 1, none⟩ = some (.int .i64 m.sender) ∧ w'.cell? ⟨w.heap.size + 1, 2, none⟩ = some (.int .i64 m.at_) ∧ w'.cell? ⟨w.heap.size + 1, 3, none⟩ = some (.string m.text) ∧ w'.cell? ⟨w.heap.size + 1, 4, none⟩ = some (.int .i64 m.edits) ∧ w'.cell? ⟨w.heap.size + 1, 5, none⟩ = some (.bool m.gone) ∧ w'.cell? ⟨w.heap.size + 1, 6, none⟩ = some (.int .i64 m.reply) ∧ w'.cell? ⟨w.heap.size + 1, 7, none⟩ = some (.slice A1_7 m.likes.length c1_7)) (first | with_reducible exact ⟨a0_0, a1_0, a1_1, a1_2, a1_3, a1_4, a1_5, a1_6, a1_7⟩ | with_reducible exact ⟨y1a0_0, y1a1_0, y1a1_1, y1a1_2, y1a1_3, y1a1_4, y1a1_5, y1a1_6, y1a1_7⟩ | with_reducible exact ⟨y2a0_0, y2a1_0, y2a1_1, y2a1_2, y2a1_3, y2a1_4, y2a1_5, y2a1_6, y2a1_7⟩ | with_reducible exact ⟨y3a0_0, y3a1_0, y3a1_1, y3a1_2, y3a1_3, y3a1_4, y3a1_5, y3a1_6, y3a1_7⟩ | go_keep) (first
      | (go_at_call 14
         refine (toIndex_c ix _ _ (H0_0.out.below (by first | exact HX_w2.out.drew | exact (HX_w2.out.alloc HX_w2.out.size (.cells #[.slice none 0 0] 33)).drew)) HF0.out).mono ?_
         rintro e f1 ⟨cs0, F0, rfl, hM, hF, hge, hb⟩
         obtain ⟨u0_0, rfl, hK0_0⟩ := index_K (indexD.M_K hM)
         have hbs1 : Below w2.heap.size w2 f1 := (by first | exact (Below.refl _ w2).drew.trans hb | exact ((Below.refl w2.heap.size w2).alloc (Nat.le_refl _) (.cells #[.slice none 0 0] 33)).drew.trans (hb.mono (by simp)))
         have hbx1 : Below w2.heap.size w2 f1 := hbs1
         have HXf1 := hide (below_step HX_w2.out hbx1)
         have hsz1 := hbx1.size
         (try (have hk1_1 : f1.heap[w2.heap.size]? = some (.cells #[.slice none 0 0] 33 (0, 0)) := (hb.block _ (by simp)).trans (alloc_new w2 _)))
         (try (have kk1_1_0 : f1.cell? ⟨w2.heap.size, 0, none⟩ = some (.slice none 0 0) := by rw [cell_block hk1_1]; rfl))
         (try (have kf1_1 : ∀ o, f1.frozen? ⟨w2.heap.size, o, none⟩ = false := fun o => frozen_block hk1_1))
         have y1a0_0 := cell_below hbs1 a0_0
         have y1a1_0 := cell_below hbs1 a1_0
         have y1a1_1 := cell_below hbs1 a1_1
         have y1a1_2 := cell_below hbs1 a1_2
         have y1a1_3 := cell_below hbs1 a1_3
         have y1a1_4 := cell_below hbs1 a1_4
         have y1a1_5 := cell_below hbs1 a1_5
         have y1a1_6 := cell_below hbs1 a1_6
         have y1a1_7 := cell_below hbs1 a1_7
         have y1l0 : w.heap.size < f1.heap.size := (by have hs := HSZ2.out; omega)
         have y1n0 : ¬ w.heap.size = f1.heap.size := (by omega)
         have y1m0 : ¬ f1.heap.size = w.heap.size := (by omega)
         have y1l1 : w.heap.size + 1 < f1.heap.size := (by have hs := HSZ2.out; omega)
         have y1n1 : ¬ w.heap.size + 1 = f1.heap.size := (by omega)
         have y1m1 : ¬ f1.heap.size = w.heap.size + 1 := (by omega)
         have HKf0_0 := hide hK0_0
         clear hM hF hge hb hK0_0)
      | (go_at_call 26
         refine (toMessage_c m _ _ (H1_7.out.below (by first | exact HXf1.out | exact (HXf1.out.alloc HXf1.out.size (.cells #[.slice none 0 0] 33)))) HF1.out).mono ?_
         rintro e f2 ⟨cs1, F1, rfl, hM, hF, hge, hb⟩
         obtain ⟨u1_7, rfl, hK1_7⟩ := message_K (messageD.M_K hM)
         have hbs2 : Below f1.heap.size f1 f2 := (by first | exact hb | exact ((Below.refl f1.heap.size f1).alloc (Nat.le_refl _) (.cells #[.slice none 0 0] 33)).trans (hb.mono (by simp)))
         have hbx2 : Below w2.heap.size w2 f2 := below_step hbx1 hbs2
         have HXf2 := hide (below_step HX_w2.out hbx2)
         have hsz2 := hbx2.size
         (try (have hk2_2 : f2.heap[f1.heap.size]? = some (.cells #[.slice none 0 0] 33 (0, 0)) := (hb.block _ (by simp)).trans (alloc_new f1 _)))
         (try (have hk2_1 := (hbs2.block _ (block_lt hk1_1)).trans hk1_1))
         (try (have kk2_1_0 : f2.cell? ⟨w2.heap.size, 0, none⟩ = some (.slice none 0 0) := by rw [cell_block hk2_1]; rfl))
         (try (have kf2_1 : ∀ o, f2.frozen? ⟨w2.heap.size, o, none⟩ = false := fun o => frozen_block hk2_1))
         (try (have kk2_2_0 : f2.cell? ⟨f1.heap.size, 0, none⟩ = some (.slice none 0 0) := by rw [cell_block hk2_2]; rfl))
         (try (have kf2_2 : ∀ o, f2.frozen? ⟨f1.heap.size, o, none⟩ = false := fun o => frozen_block hk2_2))
         have y2a0_0 := cell_below hbs2 y1a0_0
         have y2a1_0 := cell_below hbs2 y1a1_0
         have y2a1_1 := cell_below hbs2 y1a1_1
         have y2a1_2 := cell_below hbs2 y1a1_2
         have y2a1_3 := cell_below hbs2 y1a1_3
         have y2a1_4 := cell_below hbs2 y1a1_4
         have y2a1_5 := cell_below hbs2 y1a1_5
         have y2a1_6 := cell_below hbs2 y1a1_6
         have y2a1_7 := cell_below hbs2 y1a1_7
         have y2l0 : w.heap.size < f2.heap.size := (by have hs := HSZ2.out; omega)
         have y2n0 : ¬ w.heap.size = f2.heap.size := (by omega)
         have y2m0 : ¬ f2.heap.size = w.heap.size := (by omega)
         have y2l1 : w.heap.size + 1 < f2.heap.size := (by have hs := HSZ2.out; omega)
         have y2n1 : ¬ w.heap.size + 1 = f2.heap.size := (by omega)
         have y2m1 : ¬ f2.heap.size = w.heap.size + 1 := (by omega)
         replace HKf0_0 := hide (HKf0_0.out.below hbs2)
         have HKf1_7 := hide hK1_7
         clear hM hF hge hb hK1_7)
      | (go_at_call 43
         refine (specIndexMessage_c ix m _ _ _ (SliceK.below (by first | exact Below.refl _ _ | exact (Below.refl _ _).drew | exact (Below.refl _ _).alloc (Nat.le_refl _) (.cells #[.slice none 0 0] 33) | exact ((Below.refl _ _).alloc (Nat.le_refl _) (.cells #[.slice none 0 0] 33)).drew) HKf0_0.out) (SliceK.below (by first | exact Below.refl _ _ | exact (Below.refl _ _).drew | exact (Below.refl _ _).alloc (Nat.le_refl _) (.cells #[.slice none 0 0] 33) | exact ((Below.refl _ _).alloc (Nat.le_refl _) (.cells #[.slice none 0 0] 33)).drew) HKf1_7.out) HO0.out HO1.out HE.out).mono ?_
         rintro e f3 ⟨cs, F9, rfl, hM9, hn9, hl9, hb⟩
         obtain ⟨r9_0, rfl, -⟩ := index_K (indexD.M_K hM9)
         obtain ⟨ra9_0, rc9_0, rfl⟩ := (index_MK hM9).shape
         have hbs3 : Below f2.heap.size f2 f3 := (by first | exact hb | exact ((Below.refl f2.heap.size f2).alloc (Nat.le_refl _) (.cells #[.slice none 0 0] 33)).trans (hb.mono (by simp)))
         have hbx3 : Below w2.heap.size w2 f3 := below_step hbx2 hbs3
         have HXf3 := hide (below_step HX_w2.out hbx3)
         have hsz3 := hbx3.size
         (try (have hk3_3 : f3.heap[f2.heap.size]? = some (.cells #[.slice none 0 0] 33 (0, 0)) := (hb.block _ (by simp)).trans (alloc_new f2 _)))
         (try (have hk3_1 := (hbs3.block _ (block_lt hk2_1)).trans hk2_1))
         (try (have hk3_2 := (hbs3.block _ (block_lt hk2_2)).trans hk2_2))
         (try (have kk3_1_0 : f3.cell? ⟨w2.heap.size, 0, none⟩ = some (.slice none 0 0) := by rw [cell_block hk3_1]; rfl))
         (try (have kf3_1 : ∀ o, f3.frozen? ⟨w2.heap.size, o, none⟩ = false := fun o => frozen_block hk3_1))
         (try (have kk3_2_0 : f3.cell? ⟨f1.heap.size, 0, none⟩ = some (.slice none 0 0) := by rw [cell_block hk3_2]; rfl))
         (try (have kf3_2 : ∀ o, f3.frozen? ⟨f1.heap.size, o, none⟩ = false := fun o => frozen_block hk3_2))
         (try (have kk3_3_0 : f3.cell? ⟨f2.heap.size, 0, none⟩ = some (.slice none 0 0) := by rw [cell_block hk3_3]; rfl))
         (try (have kf3_3 : ∀ o, f3.frozen? ⟨f2.heap.size, o, none⟩ = false := fun o => frozen_block hk3_3))
         have y3a0_0 := cell_below hbs3 y2a0_0
         have y3a1_0 := cell_below hbs3 y2a1_0
         have y3a1_1 := cell_below hbs3 y2a1_1
         have y3a1_2 := cell_below hbs3 y2a1_2
         have y3a1_3 := cell_below hbs3 y2a1_3
         have y3a1_4 := cell_below hbs3 y2a1_4
         have y3a1_5 := cell_below hbs3 y2a1_5
         have y3a1_6 := cell_below hbs3 y2a1_6
         have y3a1_7 := cell_below hbs3 y2a1_7
         have y3l0 : w.heap.size < f3.heap.size := (by have hs := HSZ2.out; omega)
         have y3n0 : ¬ w.heap.size = f3.heap.size := (by omega)
         have y3m0 : ¬ f3.heap.size = w.heap.size := (by omega)
         have y3l1 : w.heap.size + 1 < f3.heap.size := (by have hs := HSZ2.out; omega)
         have y3n1 : ¬ w.heap.size + 1 = f3.heap.size := (by omega)
         have y3m1 : ¬ f3.heap.size = w.heap.size + 1 := (by omega)
         have HM9 := hide (And.intro hM9 (And.intro hn9 (show ∀ y ∈ F9, w2.heap.size ≤ y from fun y hy => (by have h9 := hl9 y hy; have hh9 : w2.heap.size ≤ _ := hbx2.size; (try simp at h9); omega))))
         have HL9 := hide (show ∀ y ∈ F9, y < f3.heap.size from indexD.M_lt hM9)
         (try (have hk9_1 := hk3_1; have HO9_1 := hide (show w2.heap.size ∉ F9 from fun h => (by have h9 := hl9 _ h; have hlb := block_lt hk2_1; (try simp at h9); omega))))
         (try (have hk9_2 := hk3_2; have HO9_2 := hide (show f1.heap.size ∉ F9 from fun h => (by have h9 := hl9 _ h; have hlb := block_lt hk2_2; (try simp at h9); omega))))
         (try (have hk9_3 := hk3_3; have HO9_3 := hide (show f2.heap.size ∉ F9 from fun h => (by have h9 := hl9 _ h; (try simp at h9); omega))))
         clear hM9 hn9 hl9 hb))
    all_goals
      go_wp2_with fail
      go_meet
      case rel =>
        obtain ⟨hM9, hn9, hg9⟩ := HM9.out
        have hl9 := HL9.out
        first
        | (have hx := hk9_1
           clear hx
           have hch : Chg [w2.heap.size] f3 (f3.setCell ⟨w2.heap.size, 0, none⟩ (.slice ra9_0 (imV ix m).entries.length rc9_0)) := Chg.setCell (p := ⟨w2.heap.size, 0, none⟩) (Chg.refl [w2.heap.size] f3) (.inl List.mem_cons_self) (.slice ra9_0 (imV ix m).entries.length rc9_0)
           have hs := setCell_block f3 _ 0 (.slice ra9_0 (imV ix m).entries.length rc9_0) hk9_1
           have hcz : Cells (f3.setCell ⟨w2.heap.size, 0, none⟩ (.slice ra9_0 (imV ix m).entries.length rc9_0)) w2.heap.size [.slice ra9_0 (imV ix m).entries.length rc9_0] := by intro j u hu; rw [cell_block hs]; simpa using hu
           have hszz : (f3.setCell ⟨w2.heap.size, 0, none⟩ (.slice ra9_0 (imV ix m).entries.length rc9_0)).heap.size = f3.heap.size := by simp
           have hlk := block_lt hk9_1
           obtain ⟨wz, hwz⟩ : ∃ V, V = (f3.setCell ⟨w2.heap.size, 0, none⟩ (.slice ra9_0 (imV ix m).entries.length rc9_0)) := ⟨_, rfl⟩
           rw [← hwz] at hch hcz hszz ⊢
           clear hwz hs
           exact ⟨w2.heap.size, ra9_0, rc9_0, F9, rfl, rfl, hide (hbx3.trans (hch.below hbx3.size (fun y hy => by rw [List.mem_singleton.1 hy]; omega))), hide hcz, hide (Dt.chg hM9 hch (fun y hy h => HO9_1.out (List.mem_singleton.1 h ▸ hy))), hide hn9, hide (fun y hy => ⟨hg9 y hy, by rw [hszz]; exact hl9 y hy⟩), hide ⟨by omega, by rw [hszz]; exact hlk, HO9_1.out⟩⟩)
        | (have hx := hk9_2
           clear hx
           have hch : Chg [f1.heap.size] f3 (f3.setCell ⟨f1.heap.size, 0, none⟩ (.slice ra9_0 (imV ix m).entries.length rc9_0)) := Chg.setCell (p := ⟨f1.heap.size, 0, none⟩) (Chg.refl [f1.heap.size] f3) (.inl List.mem_cons_self) (.slice ra9_0 (imV ix m).entries.length rc9_0)
           have hs := setCell_block f3 _ 0 (.slice ra9_0 (imV ix m).entries.length rc9_0) hk9_2
           have hcz : Cells (f3.setCell ⟨f1.heap.size, 0, none⟩ (.slice ra9_0 (imV ix m).entries.length rc9_0)) f1.heap.size [.slice ra9_0 (imV ix m).entries.length rc9_0] := by intro j u hu; rw [cell_block hs]; simpa using hu
           have hszz : (f3.setCell ⟨f1.heap.size, 0, none⟩ (.slice ra9_0 (imV ix m).entries.length rc9_0)).heap.size = f3.heap.size := by simp
           have hlk := block_lt hk9_2
           obtain ⟨wz, hwz⟩ : ∃ V, V = (f3.setCell ⟨f1.heap.size, 0, none⟩ (.slice ra9_0 (imV ix m).entries.length rc9_0)) := ⟨_, rfl⟩
           rw [← hwz] at hch hcz hszz ⊢
           clear hwz hs
           exact ⟨f1.heap.size, ra9_0, rc9_0, F9, rfl, rfl, hide (hbx3.trans (hch.below hbx3.size (fun y hy => by rw [List.mem_singleton.1 hy]; omega))), hide hcz, hide (Dt.chg hM9 hch (fun y hy h => HO9_2.out (List.mem_singleton.1 h ▸ hy))), hide hn9, hide (fun y hy => ⟨hg9 y hy, by rw [hszz]; exact hl9 y hy⟩), hide ⟨by omega, by rw [hszz]; exact hlk, HO9_2.out⟩⟩)
        | (have hx := hk9_3
           clear hx
           have hch : Chg [f2.heap.size] f3 (f3.setCell ⟨f2.heap.size, 0, none⟩ (.slice ra9_0 (imV ix m).entries.length rc9_0)) := Chg.setCell (p := ⟨f2.heap.size, 0, none⟩) (Chg.refl [f2.heap.size] f3) (.inl List.mem_cons_self) (.slice ra9_0 (imV ix m).entries.length rc9_0)
           have hs := setCell_block f3 _ 0 (.slice ra9_0 (imV ix m).entries.length rc9_0) hk9_3
           have hcz : Cells (f3.setCell ⟨f2.heap.size, 0, none⟩ (.slice ra9_0 (imV ix m).entries.length rc9_0)) f2.heap.size [.slice ra9_0 (imV ix m).entries.length rc9_0] := by intro j u hu; rw [cell_block hs]; simpa using hu
           have hszz : (f3.setCell ⟨f2.heap.size, 0, none⟩ (.slice ra9_0 (imV ix m).entries.length rc9_0)).heap.size = f3.heap.size := by simp
           have hlk := block_lt hk9_3
           obtain ⟨wz, hwz⟩ : ∃ V, V = (f3.setCell ⟨f2.heap.size, 0, none⟩ (.slice ra9_0 (imV ix m).entries.length rc9_0)) := ⟨_, rfl⟩
           rw [← hwz] at hch hcz hszz ⊢
           clear hwz hs
           exact ⟨f2.heap.size, ra9_0, rc9_0, F9, rfl, rfl, hide (hbx3.trans (hch.below hbx3.size (fun y hy => by rw [List.mem_singleton.1 hy]; omega))), hide hcz, hide (Dt.chg hM9 hch (fun y hy h => HO9_3.out (List.mem_singleton.1 h ▸ hy))), hide hn9, hide (fun y hy => ⟨hg9 y hy, by rw [hszz]; exact hl9 y hy⟩), hide ⟨by omega, by rw [hszz]; exact hlk, HO9_3.out⟩⟩)
        | (refine ⟨f3.heap.size, ra9_0, rc9_0, F9, rfl, rfl, hide (hbx3.alloc hbx3.size _), hide (Cells.new rfl), hide (Dt.by hM9 ((Below.refl _ _).alloc (Nat.le_refl _) _)), hide hn9, hide (fun y hy => ⟨hg9 y hy, ?_⟩), hide ⟨hsz3, ?_, fun h => ?_⟩⟩
           · have := hl9 y hy; simp; omega
           · simp
           · have := hl9 _ h; omega)
  obtain ⟨bM3, ra_M3_0, rc_M3_0, F_M3, rfl, rfl, HBM3, HCM3, HMM3, HNM3, HGM3, HOM3⟩ := hcut
  have hb := HBM3.out
  obtain ⟨w_M3, hW⟩ : ∃ V, V = wc := ⟨_, rfl⟩
  rw [← hW] at hb HCM3 HMM3 HGM3 HOM3 ⊢
  clear HBM3 hW
  clear zl0 zn0 zm0 zl1 zn1 zm1 a0_0 a1_0 a1_1 a1_2 a1_3 a1_4 a1_5 a1_6 a1_7
  have HSZ3 := hide (And.intro (show w2.heap.size ≤ w_M3.heap.size by exact hb.size) HSZ2.out)
  clear HSZ2
  have HX_w_M3 := hide (below_step HX_w2.out hb)
  clear HX_w2
  clear hb
  have M3_G := HGM3
  have M3_N := HNM3
  have M3 := HMM3
  have CM3 := HCM3
  clear HGM3 HNM3 HMM3 HCM3
  have HSZ4 := hide (And.intro (show w2.heap.size ≤ bM3 ∧ bM3 < w_M3.heap.size by exact ⟨HOM3.out.1, HOM3.out.2.1⟩) HSZ3.out)
  clear HSZ3
  -- the program's answer
  have HCx0 := hide (HC0.out.below HX_w_M3.out)
  have a0_0 := HCx0.out 0 _ rfl
  clear HCx0
  go_wp2_with fail
  refine (toIndex_c ix _ _ (H0_0.out.below HX_w_M3.out) HF0.out).mono ?_
  rintro e w3 ⟨cs0, F0, rfl, hM, hF, hge, hb⟩
  obtain ⟨u0_0, rfl, hK0_0⟩ := index_K (indexD.M_K hM)
  have HSZ5 := hide (And.intro (show w_M3.heap.size ≤ w3.heap.size by exact hb.size) HSZ4.out)
  clear HSZ4
  have HX_w3 := hide (below_step HX_w_M3.out hb)
  clear HX_w_M3
  have M3_w3 := hide (Dt.by M3.out hb)
  clear M3
  have CM3_w3 := hide (CM3.out.below hb)
  clear CM3
  clear a0_0
  have hlt := indexD.M_lt hM
  have X0_G := hide (show ∀ b ∈ F0, w_M3.heap.size ≤ b ∧ b < w3.heap.size from fun b hb => ⟨hge b hb, hlt b hb⟩)
  have X0_N := hide hF
  have X0 := hide hM
  obtain ⟨B0_0, e0_0, rfl⟩ := hK0_0.shape
  clear hM hF hge hlt hb hK0_0
  have HCx1 := hide (HC1.out.below HX_w3.out)
  have a1_0 := HCx1.out 0 _ rfl
  have a1_1 := HCx1.out 1 _ rfl
  have a1_2 := HCx1.out 2 _ rfl
  have a1_3 := HCx1.out 3 _ rfl
  have a1_4 := HCx1.out 4 _ rfl
  have a1_5 := HCx1.out 5 _ rfl
  have a1_6 := HCx1.out 6 _ rfl
  have a1_7 := HCx1.out 7 _ rfl
  clear HCx1
  have hlt0 : w.heap.size + 1 < w3.heap.size := by have hs := HSZ5.out; omega
  go_wp2_with fail
  clear a1_0 a1_1 a1_2 a1_3 a1_4 a1_5 a1_6 a1_7 hlt0
  obtain ⟨VX0, hV⟩ : ∃ V, V = w3.alloc (.cells #[.slice B0_0 ix.entries.length e0_0] 33) := ⟨_, rfl⟩
  rw [← hV]
  have hb := (boxed hV).1
  have HSZ6 := hide (And.intro (show w3.heap.size ≤ VX0.heap.size by exact hb.size) HSZ5.out)
  clear HSZ5
  have HX_VX0 := hide (below_step HX_w3.out hb)
  clear HX_w3
  have M3_VX0 := hide (Dt.by M3_w3.out hb)
  clear M3_w3
  have CM3_VX0 := hide (CM3_w3.out.below hb)
  clear CM3_w3
  have X0_VX0 := hide (Dt.by X0.out hb)
  clear X0
  have HSZ7 := hide (And.intro (show VX0.heap.size = w3.heap.size + 1 by exact (boxed hV).2) HSZ6.out)
  clear HSZ6
  have CX0 := hide (Cells.new hV)
  clear hb hV
  have HCx1 := hide (HC1.out.below HX_VX0.out)
  have a1_0 := HCx1.out 0 _ rfl
  have a1_1 := HCx1.out 1 _ rfl
  have a1_2 := HCx1.out 2 _ rfl
  have a1_3 := HCx1.out 3 _ rfl
  have a1_4 := HCx1.out 4 _ rfl
  have a1_5 := HCx1.out 5 _ rfl
  have a1_6 := HCx1.out 6 _ rfl
  have a1_7 := HCx1.out 7 _ rfl
  clear HCx1
  go_wp2_with fail
  refine (toMessage_c m _ _ (H1_7.out.below HX_VX0.out) HF1.out).mono ?_
  rintro e w4 ⟨cs1, F1, rfl, hM, hF, hge, hb⟩
  obtain ⟨u1_7, rfl, hK1_7⟩ := message_K (messageD.M_K hM)
  have HSZ8 := hide (And.intro (show VX0.heap.size ≤ w4.heap.size by exact hb.size) HSZ7.out)
  clear HSZ7
  have HX_w4 := hide (below_step HX_VX0.out hb)
  clear HX_VX0
  have M3_w4 := hide (Dt.by M3_VX0.out hb)
  clear M3_VX0
  have CM3_w4 := hide (CM3_VX0.out.below hb)
  clear CM3_VX0
  have X0_w4 := hide (Dt.by X0_VX0.out hb)
  clear X0_VX0
  have CX0_w4 := hide (CX0.out.below hb)
  clear CX0
  clear a1_0 a1_1 a1_2 a1_3 a1_4 a1_5 a1_6 a1_7
  have hlt := messageD.M_lt hM
  have X1_G := hide (show ∀ b ∈ F1, VX0.heap.size ≤ b ∧ b < w4.heap.size from fun b hb => ⟨hge b hb, hlt b hb⟩)
  have X1_N := hide hF
  have X1 := hide hM
  obtain ⟨B1_7, e1_7, rfl⟩ := hK1_7.shape
  clear hM hF hge hlt hb hK1_7
  have p0_0 := CX0_w4.out 0 _ rfl
  have hlt0 : w3.heap.size < w4.heap.size := by have hs := HSZ8.out; omega
  go_wp2_with fail
  clear p0_0 hlt0
  obtain ⟨VX1, hV⟩ : ∃ V, V = w4.alloc (.cells #[.int .i64 m.number, .int .i64 m.sender, .int .i64 m.at_, .string m.text, .int .i64 m.edits, .bool m.gone, .int .i64 m.reply, .slice B1_7 m.likes.length e1_7] 47) := ⟨_, rfl⟩
  rw [← hV]
  have hb := (boxed hV).1
  have HSZ9 := hide (And.intro (show w4.heap.size ≤ VX1.heap.size by exact hb.size) HSZ8.out)
  clear HSZ8
  have HX_VX1 := hide (below_step HX_w4.out hb)
  clear HX_w4
  have M3_VX1 := hide (Dt.by M3_w4.out hb)
  clear M3_w4
  have CM3_VX1 := hide (CM3_w4.out.below hb)
  clear CM3_w4
  have X0_VX1 := hide (Dt.by X0_w4.out hb)
  clear X0_w4
  have CX0_VX1 := hide (CX0_w4.out.below hb)
  clear CX0_w4
  have X1_VX1 := hide (Dt.by X1.out hb)
  clear X1
  have HSZ10 := hide (And.intro (show VX1.heap.size = w4.heap.size + 1 by exact (boxed hV).2) HSZ9.out)
  clear HSZ9
  have CX1 := hide (Cells.new hV)
  clear hb hV
  have x0_0 := CX0_VX1.out 0 _ rfl
  have x1_0 := CX1.out 0 _ rfl
  have x1_1 := CX1.out 1 _ rfl
  have x1_2 := CX1.out 2 _ rfl
  have x1_3 := CX1.out 3 _ rfl
  have x1_4 := CX1.out 4 _ rfl
  have x1_5 := CX1.out 5 _ rfl
  have x1_6 := CX1.out 6 _ rfl
  have x1_7 := CX1.out 7 _ rfl
  go_wp2_with fail
  clear x0_0 x1_0 x1_1 x1_2 x1_3 x1_4 x1_5 x1_6 x1_7
  refine (indexMessage_c ix m _ _ _ (index_MK X0_VX1.out) (message_MK X1_VX1.out) HO0.out HO1.out HE.out).mono ?_
  rintro e w5 ⟨cs, F_w5, rfl, hM, hn, hl, hb⟩
  obtain ⟨r_w5_0, rfl, -⟩ := index_K (indexD.M_K hM)
  obtain ⟨ra_w5_0, rc_w5_0, rfl⟩ := (index_MK hM).shape
  have HSZ11 := hide (And.intro (show VX1.heap.size ≤ w5.heap.size by exact hb.size) HSZ10.out)
  clear HSZ10
  have HX_w5 := hide (below_step HX_VX1.out hb)
  clear HX_VX1
  have M3_w5 := hide (Dt.by M3_VX1.out hb)
  clear M3_VX1
  have CM3_w5 := hide (CM3_VX1.out.below hb)
  clear CM3_VX1
  have X0_w5 := hide (Dt.by X0_VX1.out hb)
  clear X0_VX1
  have CX0_w5 := hide (CX0_VX1.out.below hb)
  clear CX0_VX1
  have X1_w5 := hide (Dt.by X1_VX1.out hb)
  clear X1_VX1
  have CX1_w5 := hide (CX1.out.below hb)
  clear CX1
  clear hb
  have hlt := indexD.M_lt hM
  have M5_G := hide (show ∀ b ∈ F_w5, VX1.heap.size ≤ b ∧ b < w5.heap.size from fun b hb => ⟨hl b hb, hlt b hb⟩)
  have M5_N := hide hn
  have M5 := hide hM
  clear hM hn hl hlt
  have s0 := CM3_w5.out 0 _ rfl
  have hlt0 : bM3 < w5.heap.size := by have hs := HSZ11.out; omega
  go_wp2_with fail
  clear s0 hlt0
  obtain ⟨VM5, hVM5⟩ : ∃ V, V = w5.alloc (.cells #[.slice ra_w5_0 (imV ix m).entries.length rc_w5_0] 33) := ⟨_, rfl⟩
  rw [← hVM5]
  have hb := (boxed hVM5).1
  have HSZ12 := hide (And.intro (show w5.heap.size ≤ VM5.heap.size by exact hb.size) HSZ11.out)
  clear HSZ11
  have HX_VM5 := hide (below_step HX_w5.out hb)
  clear HX_w5
  have M3_VM5 := hide (Dt.by M3_w5.out hb)
  clear M3_w5
  have CM3_VM5 := hide (CM3_w5.out.below hb)
  clear CM3_w5
  have X0_VM5 := hide (Dt.by X0_w5.out hb)
  clear X0_w5
  have CX0_VM5 := hide (CX0_w5.out.below hb)
  clear CX0_w5
  have X1_VM5 := hide (Dt.by X1_w5.out hb)
  clear X1_w5
  have CX1_VM5 := hide (CX1_w5.out.below hb)
  clear CX1_w5
  have M5_VM5 := hide (Dt.by M5.out hb)
  clear M5
  have HSZ13 := hide (And.intro (show VM5.heap.size = w5.heap.size + 1 by exact (boxed hVM5).2) HSZ12.out)
  clear HSZ12
  have CM5 := hide (Cells.new hVM5)
  clear hb hVM5
  refine (eqIndex_c (imV ix m) (imV ix m) _ _ _ (index_MK M5_VM5.out) (index_MK M3_VM5.out)).mono ?_
  rintro e w6 ⟨rfl, hb⟩
  rw [eqIndexB_eq, dec_same]
  have HSZ14 := hide (And.intro (show VM5.heap.size ≤ w6.heap.size by exact hb.size) HSZ13.out)
  clear HSZ13
  have HX_w6 := hide (below_step HX_VM5.out hb)
  clear HX_VM5
  have M3_w6 := hide (Dt.by M3_VM5.out hb)
  clear M3_VM5
  have CM3_w6 := hide (CM3_VM5.out.below hb)
  clear CM3_VM5
  have X0_w6 := hide (Dt.by X0_VM5.out hb)
  clear X0_VM5
  have CX0_w6 := hide (CX0_VM5.out.below hb)
  clear CX0_VM5
  have X1_w6 := hide (Dt.by X1_VM5.out hb)
  clear X1_VM5
  have CX1_w6 := hide (CX1_VM5.out.below hb)
  clear CX1_VM5
  have M5_w6 := hide (Dt.by M5_VM5.out hb)
  clear M5_VM5
  have CM5_w6 := hide (CM5.out.below hb)
  clear CM5
  clear hb
  have HCx0 := hide (HC0.out.below HX_w6.out)
  have a0_0 := HCx0.out 0 _ rfl
  clear HCx0
  have x0_0 := CX0_w6.out 0 _ rfl
  go_wp2_with fail
  go_region_held3 (fun w' : World => w'.cell? ⟨w.heap.size, 0, none⟩ = some (.slice A0_0 ix.entries.length c0_0) ∧ w'.cell? ⟨w3.heap.size, 0, none⟩ = some (.slice B0_0 ix.entries.length e0_0)) (first | with_reducible exact ⟨a0_0, x0_0⟩ | with_reducible exact ⟨ya0_0, yx0_0⟩ | go_keep) (first
    | (go_at_call 14
       refine (toIndex_c ix _ _ (H0_0.out.below HX_w6.out.drew) HF0.out).mono ?_
       rintro e w7 ⟨cs, F, rfl, hM, -, -, hb⟩
       obtain ⟨u_0, rfl, hK_0⟩ := index_K (indexD.M_K hM)
       have hb1 : Below w6.heap.size w6 w7 := (Below.refl _ w6).drew.trans hb
       have ya0_0 := cell_below hb1 a0_0
       have yx0_0 := cell_below hb1 x0_0
       clear hM hb)
    | (go_at_call 18
       refine (eqIndex_c ix ix _ _ _ (((index_MK X0_w6.out)).below hb1) hK_0).mono ?_
       rintro e w8 ⟨rfl, hb2⟩
       rw [eqIndexB_eq, dec_same]
       replace ya0_0 := cell_below hb2 ya0_0
       replace yx0_0 := cell_below hb2 yx0_0
       skip))
  have hb := below_step hb1 hb2
  have HSZ15 := hide (And.intro (show w6.heap.size ≤ w8.heap.size by exact hb.size) HSZ14.out)
  clear HSZ14
  have HX_w8 := hide (below_step HX_w6.out hb)
  clear HX_w6
  have M3_w8 := hide (Dt.by M3_w6.out hb)
  clear M3_w6
  have CM3_w8 := hide (CM3_w6.out.below hb)
  clear CM3_w6
  have X0_w8 := hide (Dt.by X0_w6.out hb)
  clear X0_w6
  have CX0_w8 := hide (CX0_w6.out.below hb)
  clear CX0_w6
  have X1_w8 := hide (Dt.by X1_w6.out hb)
  clear X1_w6
  have CX1_w8 := hide (CX1_w6.out.below hb)
  clear CX1_w6
  have M5_w8 := hide (Dt.by M5_w6.out hb)
  clear M5_w6
  have CM5_w8 := hide (CM5_w6.out.below hb)
  clear CM5_w6
  clear hb hb1 hb2 a0_0 x0_0 ya0_0 yx0_0
  clear hK_0
  have HCx1 := hide (HC1.out.below HX_w8.out)
  have a1_0 := HCx1.out 0 _ rfl
  have a1_1 := HCx1.out 1 _ rfl
  have a1_2 := HCx1.out 2 _ rfl
  have a1_3 := HCx1.out 3 _ rfl
  have a1_4 := HCx1.out 4 _ rfl
  have a1_5 := HCx1.out 5 _ rfl
  have a1_6 := HCx1.out 6 _ rfl
  have a1_7 := HCx1.out 7 _ rfl
  clear HCx1
  have x1_0 := CX1_w8.out 0 _ rfl
  have x1_1 := CX1_w8.out 1 _ rfl
  have x1_2 := CX1_w8.out 2 _ rfl
  have x1_3 := CX1_w8.out 3 _ rfl
  have x1_4 := CX1_w8.out 4 _ rfl
  have x1_5 := CX1_w8.out 5 _ rfl
  have x1_6 := CX1_w8.out 6 _ rfl
  have x1_7 := CX1_w8.out 7 _ rfl
  go_wp2_with fail
  go_region_held3 (fun w' : World => w'.cell? ⟨w.heap.size + 1, 0, none⟩ = some (.int .i64 m.number) ∧ w'.cell? ⟨w.heap.size + 1, 1, none⟩ = some (.int .i64 m.sender) ∧ w'.cell? ⟨w.heap.size + 1, 2, none⟩ = some (.int .i64 m.at_) ∧ w'.cell? ⟨w.heap.size + 1, 3, none⟩ = some (.string m.text) ∧ w'.cell? ⟨w.heap.size + 1, 4, none⟩ = some (.int .i64 m.edits) ∧ w'.cell? ⟨w.heap.size + 1, 5, none⟩ = some (.bool m.gone) ∧ w'.cell? ⟨w.heap.size + 1, 6, none⟩ = some (.int .i64 m.reply) ∧ w'.cell? ⟨w.heap.size + 1, 7, none⟩ = some (.slice A1_7 m.likes.length c1_7) ∧ w'.cell? ⟨w4.heap.size, 0, none⟩ = some (.int .i64 m.number) ∧ w'.cell? ⟨w4.heap.size, 1, none⟩ = some (.int .i64 m.sender) ∧ w'.cell? ⟨w4.heap.size, 2, none⟩ = some (.int .i64 m.at_) ∧ w'.cell? ⟨w4.heap.size, 3, none⟩ = some (.string m.text) ∧ w'.cell? ⟨w4.heap.size, 4, none⟩ = some (.int .i64 m.edits) ∧ w'.cell? ⟨w4.heap.size, 5, none⟩ = some (.bool m.gone) ∧ w'.cell? ⟨w4.heap.size, 6, none⟩ = some (.int .i64 m.reply) ∧ w'.cell? ⟨w4.heap.size, 7, none⟩ = some (.slice B1_7 m.likes.length e1_7)) (first | with_reducible exact ⟨a1_0, a1_1, a1_2, a1_3, a1_4, a1_5, a1_6, a1_7, x1_0, x1_1, x1_2, x1_3, x1_4, x1_5, x1_6, x1_7⟩ | with_reducible exact ⟨ya1_0, ya1_1, ya1_2, ya1_3, ya1_4, ya1_5, ya1_6, ya1_7, yx1_0, yx1_1, yx1_2, yx1_3, yx1_4, yx1_5, yx1_6, yx1_7⟩ | go_keep) (first
    | (go_at_call 26
       refine (toMessage_c m _ _ (H1_7.out.below HX_w8.out.drew) HF1.out).mono ?_
       rintro e w9 ⟨cs, F, rfl, hM, -, -, hb⟩
       obtain ⟨u_7, rfl, hK_7⟩ := message_K (messageD.M_K hM)
       have hb1 : Below w8.heap.size w8 w9 := (Below.refl _ w8).drew.trans hb
       have ya1_0 := cell_below hb1 a1_0
       have ya1_1 := cell_below hb1 a1_1
       have ya1_2 := cell_below hb1 a1_2
       have ya1_3 := cell_below hb1 a1_3
       have ya1_4 := cell_below hb1 a1_4
       have ya1_5 := cell_below hb1 a1_5
       have ya1_6 := cell_below hb1 a1_6
       have ya1_7 := cell_below hb1 a1_7
       have yx1_0 := cell_below hb1 x1_0
       have yx1_1 := cell_below hb1 x1_1
       have yx1_2 := cell_below hb1 x1_2
       have yx1_3 := cell_below hb1 x1_3
       have yx1_4 := cell_below hb1 x1_4
       have yx1_5 := cell_below hb1 x1_5
       have yx1_6 := cell_below hb1 x1_6
       have yx1_7 := cell_below hb1 x1_7
       clear hM hb)
    | (go_at_call 28
       refine (eqMessage_c m m _ _ _ (((message_MK X1_w8.out)).below hb1) hK_7).mono ?_
       rintro e w10 ⟨rfl, hb2⟩
       rw [eqMessageB_eq, dec_same]
       replace ya1_0 := cell_below hb2 ya1_0
       replace ya1_1 := cell_below hb2 ya1_1
       replace ya1_2 := cell_below hb2 ya1_2
       replace ya1_3 := cell_below hb2 ya1_3
       replace ya1_4 := cell_below hb2 ya1_4
       replace ya1_5 := cell_below hb2 ya1_5
       replace ya1_6 := cell_below hb2 ya1_6
       replace ya1_7 := cell_below hb2 ya1_7
       replace yx1_0 := cell_below hb2 yx1_0
       replace yx1_1 := cell_below hb2 yx1_1
       replace yx1_2 := cell_below hb2 yx1_2
       replace yx1_3 := cell_below hb2 yx1_3
       replace yx1_4 := cell_below hb2 yx1_4
       replace yx1_5 := cell_below hb2 yx1_5
       replace yx1_6 := cell_below hb2 yx1_6
       replace yx1_7 := cell_below hb2 yx1_7
       skip))
  have hb := below_step hb1 hb2
  have HSZ16 := hide (And.intro (show w8.heap.size ≤ w10.heap.size by exact hb.size) HSZ15.out)
  clear HSZ15
  have HX_w10 := hide (below_step HX_w8.out hb)
  clear HX_w8
  have M3_w10 := hide (Dt.by M3_w8.out hb)
  clear M3_w8
  have CM3_w10 := hide (CM3_w8.out.below hb)
  clear CM3_w8
  have X0_w10 := hide (Dt.by X0_w8.out hb)
  clear X0_w8
  have CX0_w10 := hide (CX0_w8.out.below hb)
  clear CX0_w8
  have X1_w10 := hide (Dt.by X1_w8.out hb)
  clear X1_w8
  have CX1_w10 := hide (CX1_w8.out.below hb)
  clear CX1_w8
  have M5_w10 := hide (Dt.by M5_w8.out hb)
  clear M5_w8
  have CM5_w10 := hide (CM5_w8.out.below hb)
  clear CM5_w8
  clear hb hb1 hb2 a1_0 a1_1 a1_2 a1_3 a1_4 a1_5 a1_6 a1_7 x1_0 x1_1 x1_2 x1_3 x1_4 x1_5 x1_6 x1_7 ya1_0 ya1_1 ya1_2 ya1_3 ya1_4 ya1_5 ya1_6 ya1_7 yx1_0 yx1_1 yx1_2 yx1_3 yx1_4 yx1_5 yx1_6 yx1_7
  clear hK_7
  have x0_0 := CX0_w10.out 0 _ rfl
  go_wp2_with fail
  refine (markIndex_c ix _ F0 ((1 : Int)) _ X0_w10.out X0_N.out (by omega) HN0.out).mono ?_
  rintro e w11 ⟨rfl, -, hc⟩
  have HSZ17 := hide (And.intro (show w10.heap.size ≤ w11.heap.size by exact hc.size) HSZ16.out)
  clear HSZ16
  have HX_w11 := hide (HX_w10.out.trans (hc.below (B := W0.heap.size) HX_w10.out.size (fun b hb => by have hs := HSZ17.out; have := X0_G.out b hb; omega)))
  clear HX_w10
  have M3_w11 := hide (Dt.chg M3_w10.out hc (fun b h1 h2 => by have hs := HSZ17.out; have := M3_G.out b h1; have := X0_G.out b h2; omega))
  clear M3_w10
  have CM3_w11 := hide (CM3_w10.out.chg hc (fun h => by have hs := HSZ17.out; have := X0_G.out _ h; omega))
  clear CM3_w10
  have CX0_w11 := hide (CX0_w10.out.chg hc (fun h => by have hs := HSZ17.out; have := X0_G.out _ h; omega))
  clear CX0_w10
  have X1_w11 := hide (Dt.chg X1_w10.out hc (fun b h1 h2 => by have hs := HSZ17.out; have := X1_G.out b h1; have := X0_G.out b h2; omega))
  clear X1_w10
  have CX1_w11 := hide (CX1_w10.out.chg hc (fun h => by have hs := HSZ17.out; have := X0_G.out _ h; omega))
  clear CX1_w10
  have M5_w11 := hide (Dt.chg M5_w10.out hc (fun b h1 h2 => by have hs := HSZ17.out; have := M5_G.out b h1; have := X0_G.out b h2; omega))
  clear M5_w10
  have CM5_w11 := hide (CM5_w10.out.chg hc (fun h => by have hs := HSZ17.out; have := X0_G.out _ h; omega))
  clear CM5_w10
  clear hc
  clear x0_0
  have x1_0 := CX1_w11.out 0 _ rfl
  have x1_1 := CX1_w11.out 1 _ rfl
  have x1_2 := CX1_w11.out 2 _ rfl
  have x1_3 := CX1_w11.out 3 _ rfl
  have x1_4 := CX1_w11.out 4 _ rfl
  have x1_5 := CX1_w11.out 5 _ rfl
  have x1_6 := CX1_w11.out 6 _ rfl
  have x1_7 := CX1_w11.out 7 _ rfl
  go_wp2_with fail
  refine (markMessage_c m _ F1 ((1 : Int) + (tcntIndex ix : Int)) _ X1_w11.out X1_N.out (by omega) HN1.out).mono ?_
  rintro e w12 ⟨rfl, -, hc⟩
  have HSZ18 := hide (And.intro (show w11.heap.size ≤ w12.heap.size by exact hc.size) HSZ17.out)
  clear HSZ17
  have HX_w12 := hide (HX_w11.out.trans (hc.below (B := W0.heap.size) HX_w11.out.size (fun b hb => by have hs := HSZ18.out; have := X1_G.out b hb; omega)))
  clear HX_w11
  have M3_w12 := hide (Dt.chg M3_w11.out hc (fun b h1 h2 => by have hs := HSZ18.out; have := M3_G.out b h1; have := X1_G.out b h2; omega))
  clear M3_w11
  have CM3_w12 := hide (CM3_w11.out.chg hc (fun h => by have hs := HSZ18.out; have := X1_G.out _ h; omega))
  clear CM3_w11
  have CX1_w12 := hide (CX1_w11.out.chg hc (fun h => by have hs := HSZ18.out; have := X1_G.out _ h; omega))
  clear CX1_w11
  have M5_w12 := hide (Dt.chg M5_w11.out hc (fun b h1 h2 => by have hs := HSZ18.out; have := M5_G.out b h1; have := X1_G.out b h2; omega))
  clear M5_w11
  have CM5_w12 := hide (CM5_w11.out.chg hc (fun h => by have hs := HSZ18.out; have := X1_G.out _ h; omega))
  clear CM5_w11
  clear hc
  clear x1_0 x1_1 x1_2 x1_3 x1_4 x1_5 x1_6 x1_7
  have hk : decide ((1 : Int) + (tcntIndex ix : Int) + (tcntMessage m : Int) < 0) = false := by simp; omega
  have g0 := CM5_w12.out 0 _ rfl
  have s0 := CM3_w12.out 0 _ rfl
  go_wp2_with fail
  clear g0 s0
  refine (eqIndex_c (imV ix m) (imV ix m) _ _ _ (index_MK M5_w12.out) (index_MK M3_w12.out)).mono ?_
  rintro e w13 ⟨rfl, hb⟩
  rw [eqIndexB_eq, dec_same]
  have HSZ19 := hide (And.intro (show w12.heap.size ≤ w13.heap.size by exact hb.size) HSZ18.out)
  clear HSZ18
  have HX_w13 := hide (below_step HX_w12.out hb)
  clear HX_w12
  have M3_w13 := hide (Dt.by M3_w12.out hb)
  clear M3_w12
  have CM3_w13 := hide (CM3_w12.out.below hb)
  clear CM3_w12
  have M5_w13 := hide (Dt.by M5_w12.out hb)
  clear M5_w12
  have CM5_w13 := hide (CM5_w12.out.below hb)
  clear CM5_w12
  clear hb
  clear hk
  have g0 := CM5_w13.out 0 _ rfl
  go_wp2_with fail
  clear g0
  refine (markIndex_c (imV ix m) _ F_w5 1 _ M5_w13.out M5_N.out (by decide) HS.out).mono ?_
  rintro e w14 ⟨rfl, hM, hc⟩
  have HSZ20 := hide (And.intro (show w13.heap.size ≤ w14.heap.size by exact hc.size) HSZ19.out)
  clear HSZ19
  have HX_w14 := hide (HX_w13.out.trans (hc.below (B := W0.heap.size) HX_w13.out.size (fun b hb => by have hs := HSZ20.out; have := M5_G.out b hb; omega)))
  clear HX_w13
  have M3_w14 := hide (Dt.chg M3_w13.out hc (fun b h1 h2 => by have hs := HSZ20.out; have := M3_G.out b h1; have := M5_G.out b h2; omega))
  clear M3_w13
  have CM3_w14 := hide (CM3_w13.out.chg hc (fun h => by have hs := HSZ20.out; have := M5_G.out _ h; omega))
  clear CM3_w13
  have CM5_w14 := hide (CM5_w13.out.chg hc (fun h => by have hs := HSZ20.out; have := M5_G.out _ h; omega))
  clear CM5_w13
  have M5m := hide hM
  have hk : decide ((1 : Int) + (tcntIndex (imV ix m) : Int) < 0) = false := by simp; omega
  clear hc hM
  have g0 := CM5_w14.out 0 _ rfl
  go_wp2_with fail
  clear g0
  refine (heldIndex_c (tmkIndex 1 (imV ix m)) _ 1 _ (index_MK (x := tmkIndex 1 (imV ix m)) M5m.out) (by decide) (by rw [tcntIndex_mk]; exact HS.out)).mono ?_
  rintro e w15 ⟨rfl, hb⟩
  rw [theldIndex_mk]
  have HSZ21 := hide (And.intro (show w14.heap.size ≤ w15.heap.size by exact hb.size) HSZ20.out)
  clear HSZ20
  have HX_w15 := hide (below_step HX_w14.out hb)
  clear HX_w14
  have M3_w15 := hide (Dt.by M3_w14.out hb)
  clear M3_w14
  have CM3_w15 := hide (CM3_w14.out.below hb)
  clear CM3_w14
  have M5_w15 := hide (Dt.by M5m.out hb)
  clear M5m
  have CM5_w15 := hide (CM5_w14.out.below hb)
  clear CM5_w14
  clear hb
  have HCx0 := hide (HC0.out.below HX_w15.out)
  have a0_0 := HCx0.out 0 _ rfl
  clear HCx0
  have HCx1 := hide (HC1.out.below HX_w15.out)
  have a1_0 := HCx1.out 0 _ rfl
  have a1_1 := HCx1.out 1 _ rfl
  have a1_2 := HCx1.out 2 _ rfl
  have a1_3 := HCx1.out 3 _ rfl
  have a1_4 := HCx1.out 4 _ rfl
  have a1_5 := HCx1.out 5 _ rfl
  have a1_6 := HCx1.out 6 _ rfl
  have a1_7 := HCx1.out 7 _ rfl
  clear HCx1
  have zl0 : w.heap.size < w15.heap.size := by have hs := HSZ21.out; omega
  have zn0 : ¬ w.heap.size = w15.heap.size := by have hs := HSZ21.out; omega
  have zm0 : ¬ w15.heap.size = w.heap.size := by have hs := HSZ21.out; omega
  have zl1 : w.heap.size + 1 < w15.heap.size := by have hs := HSZ21.out; omega
  have zn1 : ¬ w.heap.size + 1 = w15.heap.size := by have hs := HSZ21.out; omega
  have zm1 : ¬ w15.heap.size = w.heap.size + 1 := by have hs := HSZ21.out; omega
  go_wp2_with fail
  go_cut [15, 16] from 94 (fun sb so w' => ∃ (b : Nat) (rA0 : Option Addr) (rc0 : Nat) (F : List Nat), sb = .pointer (some ⟨b, 0, none⟩) ∧ so = .bool (imOk ix m) ∧ Hid (Below w15.heap.size w15 w') ∧ Hid (Cells w' b [.slice rA0 (imV ix m).entries.length rc0]) ∧ Hid (indexD.M w' (imV ix m) [.slice rA0 (imV ix m).entries.length rc0] F) ∧ Hid F.Nodup ∧ Hid (∀ y ∈ F, w15.heap.size ≤ y ∧ y < w'.heap.size) ∧ Hid (w15.heap.size ≤ b ∧ b < w'.heap.size ∧ b ∉ F))
  case first =>
    go_region_held3 (fun w' : World => w'.cell? ⟨w.heap.size, 0, none⟩ = some (.slice A0_0 ix.entries.length c0_0) ∧ w'.cell? ⟨w.heap.size + 1, 0, none⟩ = some (.int .i64 m.number) ∧ w'.cell? ⟨w.heap.size + 1, 1, none⟩ = some (.int .i64 m.sender) ∧ w'.cell? ⟨w.heap.size + 1, 2, none⟩ = some (.int .i64 m.at_) ∧ w'.cell? ⟨w.heap.size + 1, 3, none⟩ = some (.string m.text) ∧ w'.cell? ⟨w.heap.size + 1, 4, none⟩ = some (.int .i64 m.edits) ∧ w'.cell? ⟨w.heap.size + 1, 5, none⟩ = some (.bool m.gone) ∧ w'.cell? ⟨w.heap.size + 1, 6, none⟩ = some (.int .i64 m.reply) ∧ w'.cell? ⟨w.heap.size + 1, 7, none⟩ = some (.slice A1_7 m.likes.length c1_7)) (first | with_reducible exact ⟨a0_0, a1_0, a1_1, a1_2, a1_3, a1_4, a1_5, a1_6, a1_7⟩ | with_reducible exact ⟨y1a0_0, y1a1_0, y1a1_1, y1a1_2, y1a1_3, y1a1_4, y1a1_5, y1a1_6, y1a1_7⟩ | with_reducible exact ⟨y2a0_0, y2a1_0, y2a1_1, y2a1_2, y2a1_3, y2a1_4, y2a1_5, y2a1_6, y2a1_7⟩ | with_reducible exact ⟨y3a0_0, y3a1_0, y3a1_1, y3a1_2, y3a1_3, y3a1_4, y3a1_5, y3a1_6, y3a1_7⟩ | go_keep) (first
      | (go_at_call 14
         refine (toIndex_c ix _ _ (H0_0.out.below (by first | exact HX_w15.out.drew | exact (HX_w15.out.alloc HX_w15.out.size (.cells #[.slice none 0 0] 33)).drew)) HF0.out).mono ?_
         rintro e f1 ⟨cs0, F0, rfl, hM, hF, hge, hb⟩
         obtain ⟨u0_0, rfl, hK0_0⟩ := index_K (indexD.M_K hM)
         have hbs1 : Below w15.heap.size w15 f1 := (by first | exact (Below.refl _ w15).drew.trans hb | exact ((Below.refl w15.heap.size w15).alloc (Nat.le_refl _) (.cells #[.slice none 0 0] 33)).drew.trans (hb.mono (by simp)))
         have hbx1 : Below w15.heap.size w15 f1 := hbs1
         have HXf1 := hide (below_step HX_w15.out hbx1)
         have hsz1 := hbx1.size
         (try (have hk1_1 : f1.heap[w15.heap.size]? = some (.cells #[.slice none 0 0] 33 (0, 0)) := (hb.block _ (by simp)).trans (alloc_new w15 _)))
         (try (have kk1_1_0 : f1.cell? ⟨w15.heap.size, 0, none⟩ = some (.slice none 0 0) := by rw [cell_block hk1_1]; rfl))
         (try (have kf1_1 : ∀ o, f1.frozen? ⟨w15.heap.size, o, none⟩ = false := fun o => frozen_block hk1_1))
         have y1a0_0 := cell_below hbs1 a0_0
         have y1a1_0 := cell_below hbs1 a1_0
         have y1a1_1 := cell_below hbs1 a1_1
         have y1a1_2 := cell_below hbs1 a1_2
         have y1a1_3 := cell_below hbs1 a1_3
         have y1a1_4 := cell_below hbs1 a1_4
         have y1a1_5 := cell_below hbs1 a1_5
         have y1a1_6 := cell_below hbs1 a1_6
         have y1a1_7 := cell_below hbs1 a1_7
         have y1l0 : w.heap.size < f1.heap.size := (by have hs := HSZ21.out; omega)
         have y1n0 : ¬ w.heap.size = f1.heap.size := (by omega)
         have y1m0 : ¬ f1.heap.size = w.heap.size := (by omega)
         have y1l1 : w.heap.size + 1 < f1.heap.size := (by have hs := HSZ21.out; omega)
         have y1n1 : ¬ w.heap.size + 1 = f1.heap.size := (by omega)
         have y1m1 : ¬ f1.heap.size = w.heap.size + 1 := (by omega)
         have HKf0_0 := hide hK0_0
         clear hM hF hge hb hK0_0)
      | (go_at_call 26
         refine (toMessage_c m _ _ (H1_7.out.below (by first | exact HXf1.out | exact (HXf1.out.alloc HXf1.out.size (.cells #[.slice none 0 0] 33)))) HF1.out).mono ?_
         rintro e f2 ⟨cs1, F1, rfl, hM, hF, hge, hb⟩
         obtain ⟨u1_7, rfl, hK1_7⟩ := message_K (messageD.M_K hM)
         have hbs2 : Below f1.heap.size f1 f2 := (by first | exact hb | exact ((Below.refl f1.heap.size f1).alloc (Nat.le_refl _) (.cells #[.slice none 0 0] 33)).trans (hb.mono (by simp)))
         have hbx2 : Below w15.heap.size w15 f2 := below_step hbx1 hbs2
         have HXf2 := hide (below_step HX_w15.out hbx2)
         have hsz2 := hbx2.size
         (try (have hk2_2 : f2.heap[f1.heap.size]? = some (.cells #[.slice none 0 0] 33 (0, 0)) := (hb.block _ (by simp)).trans (alloc_new f1 _)))
         (try (have hk2_1 := (hbs2.block _ (block_lt hk1_1)).trans hk1_1))
         (try (have kk2_1_0 : f2.cell? ⟨w15.heap.size, 0, none⟩ = some (.slice none 0 0) := by rw [cell_block hk2_1]; rfl))
         (try (have kf2_1 : ∀ o, f2.frozen? ⟨w15.heap.size, o, none⟩ = false := fun o => frozen_block hk2_1))
         (try (have kk2_2_0 : f2.cell? ⟨f1.heap.size, 0, none⟩ = some (.slice none 0 0) := by rw [cell_block hk2_2]; rfl))
         (try (have kf2_2 : ∀ o, f2.frozen? ⟨f1.heap.size, o, none⟩ = false := fun o => frozen_block hk2_2))
         have y2a0_0 := cell_below hbs2 y1a0_0
         have y2a1_0 := cell_below hbs2 y1a1_0
         have y2a1_1 := cell_below hbs2 y1a1_1
         have y2a1_2 := cell_below hbs2 y1a1_2
         have y2a1_3 := cell_below hbs2 y1a1_3
         have y2a1_4 := cell_below hbs2 y1a1_4
         have y2a1_5 := cell_below hbs2 y1a1_5
         have y2a1_6 := cell_below hbs2 y1a1_6
         have y2a1_7 := cell_below hbs2 y1a1_7
         have y2l0 : w.heap.size < f2.heap.size := (by have hs := HSZ21.out; omega)
         have y2n0 : ¬ w.heap.size = f2.heap.size := (by omega)
         have y2m0 : ¬ f2.heap.size = w.heap.size := (by omega)
         have y2l1 : w.heap.size + 1 < f2.heap.size := (by have hs := HSZ21.out; omega)
         have y2n1 : ¬ w.heap.size + 1 = f2.heap.size := (by omega)
         have y2m1 : ¬ f2.heap.size = w.heap.size + 1 := (by omega)
         replace HKf0_0 := hide (HKf0_0.out.below hbs2)
         have HKf1_7 := hide hK1_7
         clear hM hF hge hb hK1_7)
      | (go_at_call 44
         refine (indexMessage_c ix m _ _ _ (SliceK.below (by first | exact Below.refl _ _ | exact (Below.refl _ _).drew | exact (Below.refl _ _).alloc (Nat.le_refl _) (.cells #[.slice none 0 0] 33) | exact ((Below.refl _ _).alloc (Nat.le_refl _) (.cells #[.slice none 0 0] 33)).drew) HKf0_0.out) (SliceK.below (by first | exact Below.refl _ _ | exact (Below.refl _ _).drew | exact (Below.refl _ _).alloc (Nat.le_refl _) (.cells #[.slice none 0 0] 33) | exact ((Below.refl _ _).alloc (Nat.le_refl _) (.cells #[.slice none 0 0] 33)).drew) HKf1_7.out) HO0.out HO1.out HE.out).mono ?_
         rintro e f3 ⟨cs, F9, rfl, hM9, hn9, hl9, hb⟩
         obtain ⟨r9_0, rfl, -⟩ := index_K (indexD.M_K hM9)
         obtain ⟨ra9_0, rc9_0, rfl⟩ := (index_MK hM9).shape
         have hbs3 : Below f2.heap.size f2 f3 := (by first | exact hb | exact ((Below.refl f2.heap.size f2).alloc (Nat.le_refl _) (.cells #[.slice none 0 0] 33)).trans (hb.mono (by simp)))
         have hbx3 : Below w15.heap.size w15 f3 := below_step hbx2 hbs3
         have HXf3 := hide (below_step HX_w15.out hbx3)
         have hsz3 := hbx3.size
         (try (have hk3_3 : f3.heap[f2.heap.size]? = some (.cells #[.slice none 0 0] 33 (0, 0)) := (hb.block _ (by simp)).trans (alloc_new f2 _)))
         (try (have hk3_1 := (hbs3.block _ (block_lt hk2_1)).trans hk2_1))
         (try (have hk3_2 := (hbs3.block _ (block_lt hk2_2)).trans hk2_2))
         (try (have kk3_1_0 : f3.cell? ⟨w15.heap.size, 0, none⟩ = some (.slice none 0 0) := by rw [cell_block hk3_1]; rfl))
         (try (have kf3_1 : ∀ o, f3.frozen? ⟨w15.heap.size, o, none⟩ = false := fun o => frozen_block hk3_1))
         (try (have kk3_2_0 : f3.cell? ⟨f1.heap.size, 0, none⟩ = some (.slice none 0 0) := by rw [cell_block hk3_2]; rfl))
         (try (have kf3_2 : ∀ o, f3.frozen? ⟨f1.heap.size, o, none⟩ = false := fun o => frozen_block hk3_2))
         (try (have kk3_3_0 : f3.cell? ⟨f2.heap.size, 0, none⟩ = some (.slice none 0 0) := by rw [cell_block hk3_3]; rfl))
         (try (have kf3_3 : ∀ o, f3.frozen? ⟨f2.heap.size, o, none⟩ = false := fun o => frozen_block hk3_3))
         have y3a0_0 := cell_below hbs3 y2a0_0
         have y3a1_0 := cell_below hbs3 y2a1_0
         have y3a1_1 := cell_below hbs3 y2a1_1
         have y3a1_2 := cell_below hbs3 y2a1_2
         have y3a1_3 := cell_below hbs3 y2a1_3
         have y3a1_4 := cell_below hbs3 y2a1_4
         have y3a1_5 := cell_below hbs3 y2a1_5
         have y3a1_6 := cell_below hbs3 y2a1_6
         have y3a1_7 := cell_below hbs3 y2a1_7
         have y3l0 : w.heap.size < f3.heap.size := (by have hs := HSZ21.out; omega)
         have y3n0 : ¬ w.heap.size = f3.heap.size := (by omega)
         have y3m0 : ¬ f3.heap.size = w.heap.size := (by omega)
         have y3l1 : w.heap.size + 1 < f3.heap.size := (by have hs := HSZ21.out; omega)
         have y3n1 : ¬ w.heap.size + 1 = f3.heap.size := (by omega)
         have y3m1 : ¬ f3.heap.size = w.heap.size + 1 := (by omega)
         have HM9 := hide (And.intro hM9 (And.intro hn9 (show ∀ y ∈ F9, w15.heap.size ≤ y from fun y hy => (by have h9 := hl9 y hy; have hh9 : w15.heap.size ≤ _ := hbx2.size; (try simp at h9); omega))))
         have HL9 := hide (show ∀ y ∈ F9, y < f3.heap.size from indexD.M_lt hM9)
         (try (have hk9_1 := hk3_1; have HO9_1 := hide (show w15.heap.size ∉ F9 from fun h => (by have h9 := hl9 _ h; have hlb := block_lt hk2_1; (try simp at h9); omega))))
         (try (have hk9_2 := hk3_2; have HO9_2 := hide (show f1.heap.size ∉ F9 from fun h => (by have h9 := hl9 _ h; have hlb := block_lt hk2_2; (try simp at h9); omega))))
         (try (have hk9_3 := hk3_3; have HO9_3 := hide (show f2.heap.size ∉ F9 from fun h => (by have h9 := hl9 _ h; (try simp at h9); omega))))
         clear hM9 hn9 hl9 hb))
    all_goals
      go_wp2_with fail
      go_meet
      case rel =>
        obtain ⟨hM9, hn9, hg9⟩ := HM9.out
        have hl9 := HL9.out
        first
        | (have hx := hk9_1
           clear hx
           have hch : Chg [w15.heap.size] f3 (f3.setCell ⟨w15.heap.size, 0, none⟩ (.slice ra9_0 (imV ix m).entries.length rc9_0)) := Chg.setCell (p := ⟨w15.heap.size, 0, none⟩) (Chg.refl [w15.heap.size] f3) (.inl List.mem_cons_self) (.slice ra9_0 (imV ix m).entries.length rc9_0)
           have hs := setCell_block f3 _ 0 (.slice ra9_0 (imV ix m).entries.length rc9_0) hk9_1
           have hcz : Cells (f3.setCell ⟨w15.heap.size, 0, none⟩ (.slice ra9_0 (imV ix m).entries.length rc9_0)) w15.heap.size [.slice ra9_0 (imV ix m).entries.length rc9_0] := by intro j u hu; rw [cell_block hs]; simpa using hu
           have hszz : (f3.setCell ⟨w15.heap.size, 0, none⟩ (.slice ra9_0 (imV ix m).entries.length rc9_0)).heap.size = f3.heap.size := by simp
           have hlk := block_lt hk9_1
           obtain ⟨wz, hwz⟩ : ∃ V, V = (f3.setCell ⟨w15.heap.size, 0, none⟩ (.slice ra9_0 (imV ix m).entries.length rc9_0)) := ⟨_, rfl⟩
           rw [← hwz] at hch hcz hszz ⊢
           clear hwz hs
           exact ⟨w15.heap.size, ra9_0, rc9_0, F9, rfl, rfl, hide (hbx3.trans (hch.below hbx3.size (fun y hy => by rw [List.mem_singleton.1 hy]; omega))), hide hcz, hide (Dt.chg hM9 hch (fun y hy h => HO9_1.out (List.mem_singleton.1 h ▸ hy))), hide hn9, hide (fun y hy => ⟨hg9 y hy, by rw [hszz]; exact hl9 y hy⟩), hide ⟨by omega, by rw [hszz]; exact hlk, HO9_1.out⟩⟩)
        | (have hx := hk9_2
           clear hx
           have hch : Chg [f1.heap.size] f3 (f3.setCell ⟨f1.heap.size, 0, none⟩ (.slice ra9_0 (imV ix m).entries.length rc9_0)) := Chg.setCell (p := ⟨f1.heap.size, 0, none⟩) (Chg.refl [f1.heap.size] f3) (.inl List.mem_cons_self) (.slice ra9_0 (imV ix m).entries.length rc9_0)
           have hs := setCell_block f3 _ 0 (.slice ra9_0 (imV ix m).entries.length rc9_0) hk9_2
           have hcz : Cells (f3.setCell ⟨f1.heap.size, 0, none⟩ (.slice ra9_0 (imV ix m).entries.length rc9_0)) f1.heap.size [.slice ra9_0 (imV ix m).entries.length rc9_0] := by intro j u hu; rw [cell_block hs]; simpa using hu
           have hszz : (f3.setCell ⟨f1.heap.size, 0, none⟩ (.slice ra9_0 (imV ix m).entries.length rc9_0)).heap.size = f3.heap.size := by simp
           have hlk := block_lt hk9_2
           obtain ⟨wz, hwz⟩ : ∃ V, V = (f3.setCell ⟨f1.heap.size, 0, none⟩ (.slice ra9_0 (imV ix m).entries.length rc9_0)) := ⟨_, rfl⟩
           rw [← hwz] at hch hcz hszz ⊢
           clear hwz hs
           exact ⟨f1.heap.size, ra9_0, rc9_0, F9, rfl, rfl, hide (hbx3.trans (hch.below hbx3.size (fun y hy => by rw [List.mem_singleton.1 hy]; omega))), hide hcz, hide (Dt.chg hM9 hch (fun y hy h => HO9_2.out (List.mem_singleton.1 h ▸ hy))), hide hn9, hide (fun y hy => ⟨hg9 y hy, by rw [hszz]; exact hl9 y hy⟩), hide ⟨by omega, by rw [hszz]; exact hlk, HO9_2.out⟩⟩)
        | (have hx := hk9_3
           clear hx
           have hch : Chg [f2.heap.size] f3 (f3.setCell ⟨f2.heap.size, 0, none⟩ (.slice ra9_0 (imV ix m).entries.length rc9_0)) := Chg.setCell (p := ⟨f2.heap.size, 0, none⟩) (Chg.refl [f2.heap.size] f3) (.inl List.mem_cons_self) (.slice ra9_0 (imV ix m).entries.length rc9_0)
           have hs := setCell_block f3 _ 0 (.slice ra9_0 (imV ix m).entries.length rc9_0) hk9_3
           have hcz : Cells (f3.setCell ⟨f2.heap.size, 0, none⟩ (.slice ra9_0 (imV ix m).entries.length rc9_0)) f2.heap.size [.slice ra9_0 (imV ix m).entries.length rc9_0] := by intro j u hu; rw [cell_block hs]; simpa using hu
           have hszz : (f3.setCell ⟨f2.heap.size, 0, none⟩ (.slice ra9_0 (imV ix m).entries.length rc9_0)).heap.size = f3.heap.size := by simp
           have hlk := block_lt hk9_3
           obtain ⟨wz, hwz⟩ : ∃ V, V = (f3.setCell ⟨f2.heap.size, 0, none⟩ (.slice ra9_0 (imV ix m).entries.length rc9_0)) := ⟨_, rfl⟩
           rw [← hwz] at hch hcz hszz ⊢
           clear hwz hs
           exact ⟨f2.heap.size, ra9_0, rc9_0, F9, rfl, rfl, hide (hbx3.trans (hch.below hbx3.size (fun y hy => by rw [List.mem_singleton.1 hy]; omega))), hide hcz, hide (Dt.chg hM9 hch (fun y hy h => HO9_3.out (List.mem_singleton.1 h ▸ hy))), hide hn9, hide (fun y hy => ⟨hg9 y hy, by rw [hszz]; exact hl9 y hy⟩), hide ⟨by omega, by rw [hszz]; exact hlk, HO9_3.out⟩⟩)
        | (refine ⟨f3.heap.size, ra9_0, rc9_0, F9, rfl, rfl, hide (hbx3.alloc hbx3.size _), hide (Cells.new rfl), hide (Dt.by hM9 ((Below.refl _ _).alloc (Nat.le_refl _) _)), hide hn9, hide (fun y hy => ⟨hg9 y hy, ?_⟩), hide ⟨hsz3, ?_, fun h => ?_⟩⟩
           · have := hl9 y hy; simp; omega
           · simp
           · have := hl9 _ h; omega)
  obtain ⟨bM6, ra_M6_0, rc_M6_0, F_M6, rfl, rfl, HBM6, HCM6, HMM6, HNM6, HGM6, HOM6⟩ := hcut
  have hb := HBM6.out
  obtain ⟨w_M6, hW⟩ : ∃ V, V = wc := ⟨_, rfl⟩
  rw [← hW] at hb HCM6 HMM6 HGM6 HOM6 ⊢
  clear HBM6 hW
  clear zl0 zn0 zm0 zl1 zn1 zm1 a0_0 a1_0 a1_1 a1_2 a1_3 a1_4 a1_5 a1_6 a1_7
  have HSZ22 := hide (And.intro (show w15.heap.size ≤ w_M6.heap.size by exact hb.size) HSZ21.out)
  clear HSZ21
  have HX_w_M6 := hide (below_step HX_w15.out hb)
  clear HX_w15
  have M3_w_M6 := hide (Dt.by M3_w15.out hb)
  clear M3_w15
  have CM3_w_M6 := hide (CM3_w15.out.below hb)
  clear CM3_w15
  have M5_w_M6 := hide (Dt.by M5_w15.out hb)
  clear M5_w15
  have CM5_w_M6 := hide (CM5_w15.out.below hb)
  clear CM5_w15
  clear hb
  have M6_G := HGM6
  have M6_N := HNM6
  have M6 := HMM6
  have CM6 := HCM6
  clear HGM6 HNM6 HMM6 HCM6
  have HSZ23 := hide (And.intro (show w15.heap.size ≤ bM6 ∧ bM6 < w_M6.heap.size by exact ⟨HOM6.out.1, HOM6.out.2.1⟩) HSZ22.out)
  clear HSZ22
  have s0 := CM3_w_M6.out 0 _ rfl
  have g0 := CM6.out 0 _ rfl
  go_wp2_with fail
  clear s0 g0
  refine (eqIndex_c (imV ix m) (imV ix m) _ _ _ (index_MK M6.out) (index_MK M3_w_M6.out)).mono ?_
  rintro e w16 ⟨rfl, hb⟩
  rw [eqIndexB_eq, dec_same]
  have HSZ24 := hide (And.intro (show w_M6.heap.size ≤ w16.heap.size by exact hb.size) HSZ23.out)
  clear HSZ23
  have HX_w16 := hide (below_step HX_w_M6.out hb)
  clear HX_w_M6
  have M3_w16 := hide (Dt.by M3_w_M6.out hb)
  clear M3_w_M6
  have CM3_w16 := hide (CM3_w_M6.out.below hb)
  clear CM3_w_M6
  have M5_w16 := hide (Dt.by M5_w_M6.out hb)
  clear M5_w_M6
  have CM5_w16 := hide (CM5_w_M6.out.below hb)
  clear CM5_w_M6
  have M6_w16 := hide (Dt.by M6.out hb)
  clear M6
  have CM6_w16 := hide (CM6.out.below hb)
  clear CM6
  clear hb
  have g0 := CM5_w16.out 0 _ rfl
  go_wp2_with fail
  clear g0
  refine (heldIndex_c (tmkIndex 1 (imV ix m)) _ 1 _ (index_MK (x := tmkIndex 1 (imV ix m)) M5_w16.out) (by decide) (by rw [tcntIndex_mk]; exact HS.out)).mono ?_
  rintro e w17 ⟨rfl, hb⟩
  rw [theldIndex_mk]
  have HSZ25 := hide (And.intro (show w16.heap.size ≤ w17.heap.size by exact hb.size) HSZ24.out)
  clear HSZ24
  have HX_w17 := hide (below_step HX_w16.out hb)
  clear HX_w16
  have M3_w17 := hide (Dt.by M3_w16.out hb)
  clear M3_w16
  have CM3_w17 := hide (CM3_w16.out.below hb)
  clear CM3_w16
  have M5_w17 := hide (Dt.by M5_w16.out hb)
  clear M5_w16
  have CM5_w17 := hide (CM5_w16.out.below hb)
  clear CM5_w16
  have M6_w17 := hide (Dt.by M6_w16.out hb)
  clear M6_w16
  have CM6_w17 := hide (CM6_w16.out.below hb)
  clear CM6_w16
  clear hb
  go_wp2_with fail
  go_ret
  exact ⟨rfl, HW.out.trans (HX_w17.out.mono HW.out.size)⟩
end Go.Proofs.Yticjphaagmnahaa
