/- The law of PointsFor: its walk. -/
import Derived.Test.YticjphaagmnahaaPointsFor
import Derived.Test.YticjphaagmnahaaRGround
import Derived.Test.YticjphaagmnahaaRTypes
import Derived.Test.YticjphaagmnahaaVMsg
import Derived.Test.YticjphaagmnahaaLawStr
import Derived.Deep.RegionHeld3
import Derived.Deep.Cut
namespace Go.Proofs.Yticjphaagmnahaa
open Go Go.RowKit Go.BigFrame
set_option linter.unusedVariables false
set_option linter.unusedSimpArgs false
set_option maxHeartbeats 16000000 in
set_option maxRecDepth 100000 in
theorem fnExactPointsFor_c (m : Message) (v0_7 : Value) (q : List ByteArray) (v1 : Value) (a : Int) (w : World) (h0_7 : SliceK intD w v0_7 m.likes) (ok0 : okMessage m) (h1 : SliceK strD w v1 q) (ok1 : ∀ y ∈ q, okStr y) :
    Calls Try.prog 4 #[.agg #[.int .i64 m.number, .int .i64 m.sender, .int .i64 m.at_, .string m.text, .int .i64 m.edits, .bool m.gone, .int .i64 m.reply, v0_7], v1, .int .i64 a] w fun e w' => e = .returned (.bool true) ∧ Below w.heap.size w w' := by
  obtain ⟨A0, c0, rfl⟩ := h0_7.shape
  obtain ⟨A1, c1, rfl⟩ := h1.shape
  obtain ⟨W0, hW0⟩ : ∃ W, W = w.alloc (.cells #[.int .i64 m.number, .int .i64 m.sender, .int .i64 m.at_, .string m.text, .int .i64 m.edits, .bool m.gone, .int .i64 m.reply, .slice A0 m.likes.length c0] 43) := ⟨_, rfl⟩
  have HS0 := hide (show St w W0 [blk w.heap.size #[.int .i64 m.number, .int .i64 m.sender, .int .i64 m.at_, .string m.text, .int .i64 m.edits, .bool m.gone, .int .i64 m.reply, .slice A0 m.likes.length c0] 43] by rw [hW0]; (repeat (first | (with_reducible exact St.start w) | (with_reducible apply St.alloc) | (with_reducible apply St.set0) | (with_reducible apply St.set1) | (with_reducible apply St.set2) | (with_reducible apply St.set3) | (with_reducible apply St.drew) | (with_reducible apply St.drewN))); all_goals (try (first | rfl | (simp; done))))
  have H0 := hide h0_7
  have H1 := hide h1
  have HO0 := hide ok0
  have HO1 := hide ok1
  clear h0_7 h1 ok0 ok1
  go_enter Try.func4, Try.ntmps4
  go_wp2_with fail
  rw [← hW0]
  clear hW0
  refine (szMessage_c m _ _ _ (H0.out.below HS0.out.below) (by omega) (by omega) HO0.out).mono ?_
  rintro e w1 ⟨⟨r0, rfl, hr0⟩, hb⟩
  have HS1 := hide (HS0.out.by hb)
  clear hb HS0
  rcases szR_spec hr0 (by omega) with ⟨hr, hs0⟩ | ⟨hr, hs0⟩
  rotate_left
  · have hneg : r0 < 0 := by omega
    clear hr hr0 hs0
    go_wp2_with fail
    go_ret
    exact ⟨rfl, HS1.out.below⟩
  have hn0 : 0 ≤ r0 ∧ r0 ≤ 1048576 := by omega
  have hq0 : (sizeMessage m : Int) ≤ 1048576 := by omega
  have hnn0 : 0 ≤ r0 := by omega
  clear hr hr0 hs0
  go_wp2_with fail
  refine (szStringS_c _ q _ _ (H1.out.below HS1.out.below) (by omega) (by omega) HO1.out).mono ?_
  rintro e w2 ⟨⟨r1, rfl, hr1⟩, hb⟩
  have HS2 := hide (HS1.out.by hb)
  clear hb HS1
  rcases szR_spec hr1 (by omega) with ⟨hr, hs1⟩ | ⟨hr, hs1⟩
  rotate_left
  · have hneg : r1 < 0 := by omega
    clear hr hr1 hs1
    go_wp2_with fail
    go_ret
    exact ⟨rfl, HS2.out.below⟩
  have hq1 : (q.length : Int) ≤ 1048576 := by omega
  have hnn1 : 0 ≤ r1 := by omega
  clear hr hr1 hs1
  have HF0 := hide (show fewMessage m by unfold fewMessage; unfold sizeMessage at hq0; omega)
  have HF1 := hide (show q.length ≤ 1048576 by omega)
  clear hq0 hq1 hn0
  -- the reference's answer
  obtain ⟨a_0, a_1, a_2, a_3, a_4, a_5, a_6, a_7⟩ : w2.cell? ⟨w.heap.size, 0, none⟩ = some (.int .i64 m.number) ∧ w2.cell? ⟨w.heap.size, 1, none⟩ = some (.int .i64 m.sender) ∧ w2.cell? ⟨w.heap.size, 2, none⟩ = some (.int .i64 m.at_) ∧ w2.cell? ⟨w.heap.size, 3, none⟩ = some (.string m.text) ∧ w2.cell? ⟨w.heap.size, 4, none⟩ = some (.int .i64 m.edits) ∧ w2.cell? ⟨w.heap.size, 5, none⟩ = some (.bool m.gone) ∧ w2.cell? ⟨w.heap.size, 6, none⟩ = some (.int .i64 m.reply) ∧ w2.cell? ⟨w.heap.size, 7, none⟩ = some (.slice A0 m.likes.length c0) := ⟨(St.at0 HS2.out).cell 0, (St.at0 HS2.out).cell 1, (St.at0 HS2.out).cell 2, (St.at0 HS2.out).cell 3, (St.at0 HS2.out).cell 4, (St.at0 HS2.out).cell 5, (St.at0 HS2.out).cell 6, (St.at0 HS2.out).cell 7⟩
  have a_z := (St.at0 HS2.out).lt
  go_wp2_with fail
  clear a_0 a_1 a_2 a_3 a_4 a_5 a_6 a_7 a_z
  refine (toMessage_c m _ _ (H0.out.below HS2.out.below) HF0.out).mono ?_
  rintro e w3 he
  obtain ⟨cs3, F3, rfl, hK, hb, hS⟩ := HS2.out.elem he
  obtain ⟨u3, rfl, hk3⟩ := message_K hK
  have HK3 := hide hk3
  have HS3 := hide hS.drop
  clear hb hS he hK hk3 HS2
  go_wp2_with fail
  refine (toStringS_c _ q _ (H1.out.below HS3.out.below) HF1.out).mono ?_
  rintro e w4 ⟨u4, rfl, hm, hb⟩
  have HK4 := hide (HK3.out.below hb)
  have HM4 := hide (show SliceK strD w4 u4 q from by obtain ⟨F, hM, -, -⟩ := hm; exact hM.toK)
  have HS4 := hide (HS3.out.by hb)
  clear hm hb HK3 HS3
  go_wp2_with fail
  refine (specPointsFor_c m q a _ _ _ HK4.out HM4.out HO0.out HO1.out).mono ?_
  rintro e w5 ⟨rfl, hb⟩
  have HS5 := hide (HS4.out.by hb)
  clear hb HK4 HM4 HS4
  -- the program's answer
  obtain ⟨a_0, a_1, a_2, a_3, a_4, a_5, a_6, a_7⟩ : w5.cell? ⟨w.heap.size, 0, none⟩ = some (.int .i64 m.number) ∧ w5.cell? ⟨w.heap.size, 1, none⟩ = some (.int .i64 m.sender) ∧ w5.cell? ⟨w.heap.size, 2, none⟩ = some (.int .i64 m.at_) ∧ w5.cell? ⟨w.heap.size, 3, none⟩ = some (.string m.text) ∧ w5.cell? ⟨w.heap.size, 4, none⟩ = some (.int .i64 m.edits) ∧ w5.cell? ⟨w.heap.size, 5, none⟩ = some (.bool m.gone) ∧ w5.cell? ⟨w.heap.size, 6, none⟩ = some (.int .i64 m.reply) ∧ w5.cell? ⟨w.heap.size, 7, none⟩ = some (.slice A0 m.likes.length c0) := ⟨(St.at0 HS5.out).cell 0, (St.at0 HS5.out).cell 1, (St.at0 HS5.out).cell 2, (St.at0 HS5.out).cell 3, (St.at0 HS5.out).cell 4, (St.at0 HS5.out).cell 5, (St.at0 HS5.out).cell 6, (St.at0 HS5.out).cell 7⟩
  have a_z := (St.at0 HS5.out).lt
  go_wp2_with fail
  clear a_0 a_1 a_2 a_3 a_4 a_5 a_6 a_7 a_z
  refine (toMessage_c m _ _ (H0.out.below HS5.out.below) HF0.out).mono ?_
  rintro e w6 he
  obtain ⟨cs6, F6, rfl, hK, hb, hS⟩ := HS5.out.elem he
  obtain ⟨u6, rfl, hk6⟩ := message_K hK
  obtain ⟨A6, c6, rfl⟩ := hk6.shape
  have HS6 := hide hS
  clear hb hS he hK hk6 HS5
  go_wp2_with fail
  obtain ⟨V6, hV6⟩ : ∃ V, V = w6.alloc (.cells #[.int .i64 m.number, .int .i64 m.sender, .int .i64 m.at_, .string m.text, .int .i64 m.edits, .bool m.gone, .int .i64 m.reply, .slice A6 m.likes.length c6] 47) := ⟨_, rfl⟩
  rw [← hV6]
  have HS7 := hide (show St w V6 (blk w6.heap.size #[.int .i64 m.number, .int .i64 m.sender, .int .i64 m.at_, .string m.text, .int .i64 m.edits, .bool m.gone, .int .i64 m.reply, .slice A6 m.likes.length c6] 47 :: _ :: [_]) by rw [hV6]; exact HS6.out.alloc rfl)
  clear hV6 HS6
  refine (toStringS_c _ q _ (H1.out.below HS7.out.below) HF1.out).mono ?_
  rintro e w8 ⟨u8, rfl, hm, hb⟩
  obtain ⟨F8, hS⟩ := HS7.out.made hm hb
  obtain ⟨A8, c8, rfl⟩ := hm.shape
  have HS8 := hide hS
  clear hb hm hS HS7
  obtain ⟨x_0, x_1, x_2, x_3, x_4, x_5, x_6, x_7⟩ : w8.cell? ⟨w6.heap.size, 0, none⟩ = some (.int .i64 m.number) ∧ w8.cell? ⟨w6.heap.size, 1, none⟩ = some (.int .i64 m.sender) ∧ w8.cell? ⟨w6.heap.size, 2, none⟩ = some (.int .i64 m.at_) ∧ w8.cell? ⟨w6.heap.size, 3, none⟩ = some (.string m.text) ∧ w8.cell? ⟨w6.heap.size, 4, none⟩ = some (.int .i64 m.edits) ∧ w8.cell? ⟨w6.heap.size, 5, none⟩ = some (.bool m.gone) ∧ w8.cell? ⟨w6.heap.size, 6, none⟩ = some (.int .i64 m.reply) ∧ w8.cell? ⟨w6.heap.size, 7, none⟩ = some (.slice A6 m.likes.length c6) := ⟨(St.at1 HS8.out).cell 0, (St.at1 HS8.out).cell 1, (St.at1 HS8.out).cell 2, (St.at1 HS8.out).cell 3, (St.at1 HS8.out).cell 4, (St.at1 HS8.out).cell 5, (St.at1 HS8.out).cell 6, (St.at1 HS8.out).cell 7⟩
  have x_z := (St.at1 HS8.out).lt
  go_wp2_with fail
  clear x_0 x_1 x_2 x_3 x_4 x_5 x_6 x_7 x_z
  refine (pointsForX_c m q a _ _ _ (message_MK (St.head (St.drop (St.drop HS8.out)))) (St.toK HS8.out) HO0.out HO1.out).mono ?_
  rintro e w9 ⟨rfl, hb⟩
  have HS9 := hide (HS8.out.by hb)
  clear hb HS8
  -- the arguments
  obtain ⟨a_0, a_1, a_2, a_3, a_4, a_5, a_6, a_7⟩ : w9.cell? ⟨w.heap.size, 0, none⟩ = some (.int .i64 m.number) ∧ w9.cell? ⟨w.heap.size, 1, none⟩ = some (.int .i64 m.sender) ∧ w9.cell? ⟨w.heap.size, 2, none⟩ = some (.int .i64 m.at_) ∧ w9.cell? ⟨w.heap.size, 3, none⟩ = some (.string m.text) ∧ w9.cell? ⟨w.heap.size, 4, none⟩ = some (.int .i64 m.edits) ∧ w9.cell? ⟨w.heap.size, 5, none⟩ = some (.bool m.gone) ∧ w9.cell? ⟨w.heap.size, 6, none⟩ = some (.int .i64 m.reply) ∧ w9.cell? ⟨w.heap.size, 7, none⟩ = some (.slice A0 m.likes.length c0) := ⟨(St.at3 HS9.out).cell 0, (St.at3 HS9.out).cell 1, (St.at3 HS9.out).cell 2, (St.at3 HS9.out).cell 3, (St.at3 HS9.out).cell 4, (St.at3 HS9.out).cell 5, (St.at3 HS9.out).cell 6, (St.at3 HS9.out).cell 7⟩
  have a_z := (St.at3 HS9.out).lt
  obtain ⟨x_0, x_1, x_2, x_3, x_4, x_5, x_6, x_7⟩ : w9.cell? ⟨w6.heap.size, 0, none⟩ = some (.int .i64 m.number) ∧ w9.cell? ⟨w6.heap.size, 1, none⟩ = some (.int .i64 m.sender) ∧ w9.cell? ⟨w6.heap.size, 2, none⟩ = some (.int .i64 m.at_) ∧ w9.cell? ⟨w6.heap.size, 3, none⟩ = some (.string m.text) ∧ w9.cell? ⟨w6.heap.size, 4, none⟩ = some (.int .i64 m.edits) ∧ w9.cell? ⟨w6.heap.size, 5, none⟩ = some (.bool m.gone) ∧ w9.cell? ⟨w6.heap.size, 6, none⟩ = some (.int .i64 m.reply) ∧ w9.cell? ⟨w6.heap.size, 7, none⟩ = some (.slice A6 m.likes.length c6) := ⟨(St.at1 HS9.out).cell 0, (St.at1 HS9.out).cell 1, (St.at1 HS9.out).cell 2, (St.at1 HS9.out).cell 3, (St.at1 HS9.out).cell 4, (St.at1 HS9.out).cell 5, (St.at1 HS9.out).cell 6, (St.at1 HS9.out).cell 7⟩
  have x_z := (St.at1 HS9.out).lt
  go_wp2_with fail
  go_region_held3 (fun w' : World => (w'.cell? ⟨w.heap.size, 0, none⟩ = some (.int .i64 m.number) ∧ w'.cell? ⟨w.heap.size, 1, none⟩ = some (.int .i64 m.sender) ∧ w'.cell? ⟨w.heap.size, 2, none⟩ = some (.int .i64 m.at_) ∧ w'.cell? ⟨w.heap.size, 3, none⟩ = some (.string m.text) ∧ w'.cell? ⟨w.heap.size, 4, none⟩ = some (.int .i64 m.edits) ∧ w'.cell? ⟨w.heap.size, 5, none⟩ = some (.bool m.gone) ∧ w'.cell? ⟨w.heap.size, 6, none⟩ = some (.int .i64 m.reply) ∧ w'.cell? ⟨w.heap.size, 7, none⟩ = some (.slice A0 m.likes.length c0)) ∧ (w'.cell? ⟨w6.heap.size, 0, none⟩ = some (.int .i64 m.number) ∧ w'.cell? ⟨w6.heap.size, 1, none⟩ = some (.int .i64 m.sender) ∧ w'.cell? ⟨w6.heap.size, 2, none⟩ = some (.int .i64 m.at_) ∧ w'.cell? ⟨w6.heap.size, 3, none⟩ = some (.string m.text) ∧ w'.cell? ⟨w6.heap.size, 4, none⟩ = some (.int .i64 m.edits) ∧ w'.cell? ⟨w6.heap.size, 5, none⟩ = some (.bool m.gone) ∧ w'.cell? ⟨w6.heap.size, 6, none⟩ = some (.int .i64 m.reply) ∧ w'.cell? ⟨w6.heap.size, 7, none⟩ = some (.slice A6 m.likes.length c6))) (first | with_reducible exact ⟨⟨a_0, a_1, a_2, a_3, a_4, a_5, a_6, a_7⟩, ⟨x_0, x_1, x_2, x_3, x_4, x_5, x_6, x_7⟩⟩ | with_reducible exact ⟨⟨ya_0, ya_1, ya_2, ya_3, ya_4, ya_5, ya_6, ya_7⟩, ⟨yx_0, yx_1, yx_2, yx_3, yx_4, yx_5, yx_6, yx_7⟩⟩ | go_keep) (first
    | (go_at_call 26
       refine (toMessage_c m _ _ (H0.out.below HS9.out.below.drew) HF0.out).mono ?_
       rintro e w10 ⟨cs, F, rfl, hM, -, -, hb⟩
       obtain ⟨u_1, rfl, hK_1⟩ := message_K (messageD.M_K hM)
       have hb1 : Below w9.heap.size w9 w10 := (Below.refl _ w9).drew.trans hb
       have ya_0 := cell_below hb1 a_0; have ya_1 := cell_below hb1 a_1; have ya_2 := cell_below hb1 a_2; have ya_3 := cell_below hb1 a_3; have ya_4 := cell_below hb1 a_4; have ya_5 := cell_below hb1 a_5; have ya_6 := cell_below hb1 a_6; have ya_7 := cell_below hb1 a_7
       have yx_0 := cell_below hb1 x_0; have yx_1 := cell_below hb1 x_1; have yx_2 := cell_below hb1 x_2; have yx_3 := cell_below hb1 x_3; have yx_4 := cell_below hb1 x_4; have yx_5 := cell_below hb1 x_5; have yx_6 := cell_below hb1 x_6; have yx_7 := cell_below hb1 x_7
       clear hM hb)
    | (go_at_call 28
       refine (eqMessage_c m m _ _ _ ((message_MK (St.head (St.drop (St.drop HS9.out)))).below hb1) hK_1).mono ?_
       rintro e w11 ⟨rfl, hb2⟩
       rw [eqMessageB_eq, dec_same]
       have ya_0 := cell_below hb2 ya_0; have ya_1 := cell_below hb2 ya_1; have ya_2 := cell_below hb2 ya_2; have ya_3 := cell_below hb2 ya_3; have ya_4 := cell_below hb2 ya_4; have ya_5 := cell_below hb2 ya_5; have ya_6 := cell_below hb2 ya_6; have ya_7 := cell_below hb2 ya_7
       have yx_0 := cell_below hb2 yx_0; have yx_1 := cell_below hb2 yx_1; have yx_2 := cell_below hb2 yx_2; have yx_3 := cell_below hb2 yx_3; have yx_4 := cell_below hb2 yx_4; have yx_5 := cell_below hb2 yx_5; have yx_6 := cell_below hb2 yx_6; have yx_7 := cell_below hb2 yx_7
       skip))
  have HS10 := hide (HS9.out.by (below_step hb1 hb2))
  clear hb1 hb2
  go_wp2_with fail
  refine (toStringS_c _ q _ (H1.out.below HS10.out.below) HF1.out).mono ?_
  rintro e w12 ⟨u12, rfl, hm, hb⟩
  have HM12 := hide (show SliceK strD w12 u12 q from by obtain ⟨F, hM, -, -⟩ := hm; exact hM.toK)
  have HS11 := hide (HS10.out.by hb)
  clear hm hb
  go_wp2_with fail
  refine (eqStringS_c _ _ _ _ _ (St.toK HS11.out) HM12.out).mono ?_
  rintro e w13 ⟨rfl, hb⟩
  rw [dec_same]
  have HS12 := hide (HS11.out.by hb)
  go_wp2_with fail
  go_ret
  exact ⟨rfl, HS12.out.below⟩
end Go.Proofs.Yticjphaagmnahaa
