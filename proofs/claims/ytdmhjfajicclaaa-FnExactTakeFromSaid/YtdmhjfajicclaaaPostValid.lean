/- Valid posts: the program's test. -/
import Derived.Test.YtdmhjfajicclaaaPostSpec4
namespace Go.Proofs.Ytdmhjfajicclaaa
open Go Go.RowKit Go.BigFrame
attribute [local go_sem] Calm.cell Calm.frozen
set_option linter.unusedVariables false
set_option linter.unusedSimpArgs false

theorem isToken_c (s : ByteArray) (w : World) (hs : s.size ≤ 9223372036854775807) : Calls Try.prog 71 #[.string s] w fun e w' => e = .returned (.bool (decide ((s.size : Int) = 16))) ∧ w = w' := by
  go_enter Try.func71, Try.ntmps71
  go_wp2
  all_goals
    go_ret
    refine ⟨?_, rfl⟩
    refine ret_bool ?_
    first
    | (simp [*]; done)
    | (rw [Bool.eq_iff_iff]; simp [*]; done)
set_option maxHeartbeats 4000000 in
set_option maxRecDepth 100000 in
theorem validPost_c (p : Post) (v1 : Value) (w : World) (h1 : SliceK boxD w v1 p.boxes) (ht : okPost p) :
    Calls Try.prog 56 #[.agg #[.int .i64 p.limit, v1]] w fun e w' => e = .returned (.bool (validPostB p)) ∧ Below w.heap.size w w' := by
  obtain ⟨A, c, rfl, hl, hm, hra⟩ := h1
  obtain ⟨V, hV⟩ : ∃ V, V = w.alloc (.cells #[.int .i64 p.limit, .slice A p.boxes.length c] 28) := ⟨_, rfl⟩
  have HV := hide (show Below w.heap.size w V by subst hV; exact (Below.refl _ _).alloc (Nat.le_refl _) _)
  have HB0 := hide (And.intro (show V.cell? ⟨w.heap.size, 0, none⟩ = some (.int .i64 p.limit) by subst hV; simp) (And.intro (show V.cell? ⟨w.heap.size, 1, none⟩ = some (.slice A p.boxes.length c) by subst hV; simp) (show w.heap.size < V.heap.size by subst hV; simp)))
  have HA := hide (show p.boxes = [] ∨ ∃ b o, A = some ⟨b, o, none⟩ ∧ RowAt boxD V b o p.boxes from hra.imp id fun ⟨b, o, h1, h2⟩ => ⟨b, o, h1, h2.below HV.out⟩)
  have HTX := hide ht
  clear hra ht
  by_cases hin : inB p.limit 1 64 = true
  · have HIN := hide hin
    clear hin
    by_cases h40 : (p.boxes.length : Int) ≤ 32
    · have hd4 : decide ((32 : Int) < (p.boxes.length : Int)) = false := by simp; omega
      have hd5 : decide ((p.boxes.length : Int) ≤ 32) = true := by simpa using h40
      go_enter Try.func56, Try.ntmps56
      go_wp2_with (go_at_call 40; refine (in_c _ _ _ _).mono ?_; rintro e w' ⟨rfl, rfl⟩; rw [HIN.out])
      rw [← hV]
      clear hV
      go_loopg [18] p.boxes.length (fun gg s8 wr => ∃ k : Nat, k ≤ p.boxes.length ∧ p.boxes.length - k ≤ gg ∧ s8 = .int .i64 k ∧ Hid (∀ j y, j < k → p.boxes[j]? = some y → boxF p.limit y (prevAt p.boxes j) = true) ∧ Hid (Below V.heap.size V wr))
      case atStart => exact ⟨0, Nat.zero_le _, by omega, rfl, hide (by intro j y hj; omega), Below.refl _ _⟩
      case round =>
        obtain ⟨k, hk, hg, rfl, HT, HB⟩ := hrel
        have hb0 := cell_below HB.out HB0.out.1
        have hb1 := cell_below HB.out HB0.out.2.1
        have hbr := Nat.lt_of_lt_of_le HB0.out.2.2 HB.out.size
        by_cases hlt : k < p.boxes.length
        · obtain ⟨m, hx⟩ : ∃ m, p.boxes[k]? = some m := ⟨_, List.getElem?_eq_getElem hlt⟩
          rcases HA.out with hnil | ⟨q, o2, rfl, hra⟩
          · rw [hnil] at hlt; simp at hlt
          obtain ⟨v3, h3, hq, hc0, hc1, hc2, hc3⟩ := box_at hra HB.out hx
          obtain ⟨A3, c3, rfl⟩ := h3.shape
          have H3 := hide h3
          have hsz := hide (HTX.out m (List.mem_of_getElem? hx))
          have HX := hide hx
          have HRA := hide hra
          have hlt2 : (k : Int) < (p.boxes.length : Int) := by omega
          clear hx hra h3 HA
          by_cases hq0 : (m.token.size : Int) = 16
          · have Q1 := hide hq0
            have Z1 := hide (show decide ((m.token.size : Int) = 16) = true from decide_eq_true hq0)
            clear hq0
            by_cases hq1 : inB m.member 1 1000 = true
            · have HQ2 := hide hq1
              clear hq1
              by_cases hq2 : inB m.missed 0 1000000000 = true
              · have HQ3 := hide hq2
                clear hq2
                by_cases hq3 : (m.held.length : Int) ≤ p.limit
                · have Q5 := hide hq3
                  have z5 : decide (p.limit < (m.held.length : Int)) = false := by simp; omega
                  clear hq3
                  by_cases hq4 : parsOkB m.held = true
                  · have HQ4 := hide hq4
                    clear hq4
                    have HOK := hide (boxOk_yes (lim := p.limit) Q1.out HQ2.out HQ3.out HQ4.out Q5.out)
                    by_cases hk0 : 0 < k
                    · obtain ⟨pr, hy⟩ : ∃ pr, p.boxes[k - 1]? = some pr := ⟨_, List.getElem?_eq_getElem (by omega)⟩
                      have HV2 := hide (prevAt_succ hk0 hy)
                      have HY := hide hy
                      have hk1 : decide (0 < k) = true := by simp; omega
                      have hk3 : (1 : Int) ≤ (k : Int) := by omega
                      have hk5 : IntKind.i64.wrap ((k : Int) - 1) = (k : Int) - 1 := IntWalk.i64_in _ (by omega)
                      have hk6 : (0 : Int) ≤ (k : Int) - 1 := by omega
                      have hk7 : ((k : Int) - 1).toNat = k - 1 := by omega
                      clear hy
                      go_wp2_with (first
                        | (go_at_call 71; refine (isToken_c _ _ hsz.out).mono ?_; rintro e w' ⟨rfl, rfl⟩; rw [Z1.out])
                        | (go_at_call 72; refine (isMember_c _ _).mono ?_; rintro e w' ⟨rfl, rfl⟩; rw [HQ2.out])
                        | (go_at_call 40; refine (in_c _ _ _ _).mono ?_; rintro e w' ⟨rfl, rfl⟩; rw [HQ3.out])
                        | (go_at_call 48
                           refine (parcelsOk_c m.held _ _ (H3.out.below (St.below (w0 := wr) (L := [_]) (by (repeat (first | (with_reducible exact St.start wr) | (with_reducible apply St.alloc) | (with_reducible apply St.set0) | (with_reducible apply St.set1) | (with_reducible apply St.set2) | (with_reducible apply St.set3) | (with_reducible apply St.drew) | (with_reducible apply St.drewN))); all_goals (try (first | rfl | (simp; done))))))).mono ?_
                           rintro e w2 ⟨rfl, hb⟩
                           rw [HQ4.out]
                           have HB2 := hide (HB.out.trans (((Below.refl wr.heap.size wr).alloc (Nat.le_refl _) (.cells #[.string m.token, .int .i64 m.member, .int .i64 m.missed, .slice A3 m.held.length c3] 53)).trans (hb.mono (by simp)) |>.mono HB.out.size))
                           have hbl := (hb.block _ (by simp)).trans (alloc_new wr (.cells #[.string m.token, .int .i64 m.member, .int .i64 m.missed, .slice A3 m.held.length c3] 53))
                           have hc0 := cell_below HB2.out HB0.out.1
                           have hc1 := cell_below HB2.out HB0.out.2.1
                           have hbw := Nat.lt_of_lt_of_le HB0.out.2.2 HB2.out.size
                           have hbc0 : w2.cell? ⟨wr.heap.size, 0, none⟩ = some (.string m.token) := by rw [cell_block hbl]; rfl
                           have hzb := block_lt hbl
                           clear hb hbl))
                      obtain ⟨_, _, hqd, hd0, _, _, _⟩ := box_at HRA.out HB2.out HY.out
                      by_cases hlt3 : tokLt pr.token m.token = true
                      · have hn2 : Op.bytesLess pr.token.toList m.token.toList = true := hlt3
                        have HL := hide hlt3
                        clear hlt3
                        (refine wp_region_calm (by kernel_rfl) (by kernel_rfl) ?_; (repeat (first | go_big_quiet_skip | (go_big_quiet_want; go_big_quiet_op; (first | go_big_quiet_on | (apply Exists.intro; refine ⟨fun ic => ?_, ?_⟩; (focus (fail; done)); go_big_quiet_on))))); refine wpQuiet_nil ?_; intro wq hwq; obtain ⟨iq, hwe⟩ := hwq; subst hwe)
                        have HB3 := hide (HB2.out.trans (Below.mono (show Below w2.heap.size w2 iq.world from iq.below) HB2.out.size))
                        go_wp2_with fail
                        (go_roundg (p.boxes.length - (k + 1)); (case measure => omega); (case rel => exact ⟨k + 1, by omega, by omega, by go_num, hide (adj_step HT.out HX.out (by rw [HV2.out]; exact boxF_some HOK.out HL.out)), HB3⟩))
                      · have HL := hide (show tokLt pr.token m.token = false by simpa using hlt3)
                        have hn2 : Op.bytesLess pr.token.toList m.token.toList = false := HL.out
                        clear hlt3
                        (refine wp_region_calm (by kernel_rfl) (by kernel_rfl) ?_; (repeat (first | go_big_quiet_skip | (go_big_quiet_want; go_big_quiet_op; (first | go_big_quiet_on | (apply Exists.intro; refine ⟨fun ic => ?_, ?_⟩; (focus (fail; done)); go_big_quiet_on))))); refine wpQuiet_nil ?_; intro wq hwq; obtain ⟨iq, hwe⟩ := hwq; subst hwe)
                        have HB3 := hide (HB2.out.trans (Below.mono (show Below w2.heap.size w2 iq.world from iq.below) HB2.out.size))
                        go_wp2_with fail
                        (go_ret; refine ⟨?_, by first | exact below_step HV.out HB3.out | exact below_step HV.out HB2.out | exact below_step HV.out (HB.out.alloc HB.out.size _)⟩; rw [show validPostB p = false from (by simp only [validPostB, adj_fail (f := boxF p.limit) HX.out (by rw [HV2.out]; exact boxF_ord HL.out), Bool.and_false])]; rfl)
                    · have hk1 : decide (0 < k) = false := by simp; omega
                      have HV2 := hide (show prevAt p.boxes k = none by unfold prevAt; rw [if_pos (by omega)])
                      clear hk0
                      go_wp2_with (first
                        | (go_at_call 71; refine (isToken_c _ _ hsz.out).mono ?_; rintro e w' ⟨rfl, rfl⟩; rw [Z1.out])
                        | (go_at_call 72; refine (isMember_c _ _).mono ?_; rintro e w' ⟨rfl, rfl⟩; rw [HQ2.out])
                        | (go_at_call 40; refine (in_c _ _ _ _).mono ?_; rintro e w' ⟨rfl, rfl⟩; rw [HQ3.out])
                        | (go_at_call 48
                           refine (parcelsOk_c m.held _ _ (H3.out.below (St.below (w0 := wr) (L := [_]) (by (repeat (first | (with_reducible exact St.start wr) | (with_reducible apply St.alloc) | (with_reducible apply St.set0) | (with_reducible apply St.set1) | (with_reducible apply St.set2) | (with_reducible apply St.set3) | (with_reducible apply St.drew) | (with_reducible apply St.drewN))); all_goals (try (first | rfl | (simp; done))))))).mono ?_
                           rintro e w2 ⟨rfl, hb⟩
                           rw [HQ4.out]
                           have HB2 := hide (HB.out.trans (((Below.refl wr.heap.size wr).alloc (Nat.le_refl _) (.cells #[.string m.token, .int .i64 m.member, .int .i64 m.missed, .slice A3 m.held.length c3] 53)).trans (hb.mono (by simp)) |>.mono HB.out.size))
                           have hbl := (hb.block _ (by simp)).trans (alloc_new wr (.cells #[.string m.token, .int .i64 m.member, .int .i64 m.missed, .slice A3 m.held.length c3] 53))
                           have hc0 := cell_below HB2.out HB0.out.1
                           have hc1 := cell_below HB2.out HB0.out.2.1
                           have hbw := Nat.lt_of_lt_of_le HB0.out.2.2 HB2.out.size
                           have hbc0 : w2.cell? ⟨wr.heap.size, 0, none⟩ = some (.string m.token) := by rw [cell_block hbl]; rfl
                           have hzb := block_lt hbl
                           clear hb hbl))
                      (refine wp_region_calm (by kernel_rfl) (by kernel_rfl) ?_; (repeat (first | go_big_quiet_skip | (go_big_quiet_want; go_big_quiet_op; (first | go_big_quiet_on | (apply Exists.intro; refine ⟨fun ic => ?_, ?_⟩; (focus (fail; done)); go_big_quiet_on))))); refine wpQuiet_nil ?_; intro wq hwq; obtain ⟨iq, hwe⟩ := hwq; subst hwe)
                      have HB3 := hide (HB2.out.trans (Below.mono (show Below w2.heap.size w2 iq.world from iq.below) HB2.out.size))
                      go_wp2_with fail
                      (go_roundg (p.boxes.length - (k + 1)); (case measure => omega); (case rel => exact ⟨k + 1, by omega, by omega, by go_num, hide (adj_step HT.out HX.out (by rw [HV2.out]; exact boxF_none HOK.out)), HB3⟩))
                  · have HNO := hide (boxOk_no (lim := p.limit) (m := m) (fun h => hq4 h.2.2.2.1))
                    have HQ4 := hide (show parsOkB m.held = false by simpa using hq4)
                    clear hq4
                    go_wp2_with (first
                      | (go_at_call 71; refine (isToken_c _ _ hsz.out).mono ?_; rintro e w' ⟨rfl, rfl⟩; rw [Z1.out])
                      | (go_at_call 72; refine (isMember_c _ _).mono ?_; rintro e w' ⟨rfl, rfl⟩; rw [HQ2.out])
                      | (go_at_call 40; refine (in_c _ _ _ _).mono ?_; rintro e w' ⟨rfl, rfl⟩; rw [HQ3.out])
                      | (go_at_call 48
                         refine (parcelsOk_c m.held _ _ (H3.out.below (St.below (w0 := wr) (L := [_]) (by (repeat (first | (with_reducible exact St.start wr) | (with_reducible apply St.alloc) | (with_reducible apply St.set0) | (with_reducible apply St.set1) | (with_reducible apply St.set2) | (with_reducible apply St.set3) | (with_reducible apply St.drew) | (with_reducible apply St.drewN))); all_goals (try (first | rfl | (simp; done))))))).mono ?_
                         rintro e w2 ⟨rfl, hb⟩
                         rw [HQ4.out]
                         have HB2 := hide (HB.out.trans (((Below.refl wr.heap.size wr).alloc (Nat.le_refl _) (.cells #[.string m.token, .int .i64 m.member, .int .i64 m.missed, .slice A3 m.held.length c3] 53)).trans (hb.mono (by simp)) |>.mono HB.out.size))
                         have hbl := (hb.block _ (by simp)).trans (alloc_new wr (.cells #[.string m.token, .int .i64 m.member, .int .i64 m.missed, .slice A3 m.held.length c3] 53))
                         have hc0 := cell_below HB2.out HB0.out.1
                         have hc1 := cell_below HB2.out HB0.out.2.1
                         have hbw := Nat.lt_of_lt_of_le HB0.out.2.2 HB2.out.size
                         have hbc0 : w2.cell? ⟨wr.heap.size, 0, none⟩ = some (.string m.token) := by rw [cell_block hbl]; rfl
                         have hzb := block_lt hbl
                         clear hb hbl))
                    (go_ret; refine ⟨?_, by first | exact below_step HV.out HB3.out | exact below_step HV.out HB2.out | exact below_step HV.out (HB.out.alloc HB.out.size _)⟩; rw [show validPostB p = false from (by simp only [validPostB, adj_fail (f := boxF p.limit) HX.out (boxF_no HNO.out), Bool.and_false])]; rfl)
                · have HNO := hide (boxOk_no (lim := p.limit) (m := m) (fun h => hq3 h.2.2.2.2))
                  have z5 : decide (p.limit < (m.held.length : Int)) = true := by simp; omega
                  clear hq3
                  go_wp2_with (first
                    | (go_at_call 71; refine (isToken_c _ _ hsz.out).mono ?_; rintro e w' ⟨rfl, rfl⟩; rw [Z1.out])
                    | (go_at_call 72; refine (isMember_c _ _).mono ?_; rintro e w' ⟨rfl, rfl⟩; rw [HQ2.out])
                    | (go_at_call 40; refine (in_c _ _ _ _).mono ?_; rintro e w' ⟨rfl, rfl⟩; rw [HQ3.out])
                    | (go_at_call 48
                       refine (parcelsOk_c m.held _ _ (H3.out.below (St.below (w0 := wr) (L := [_]) (by (repeat (first | (with_reducible exact St.start wr) | (with_reducible apply St.alloc) | (with_reducible apply St.set0) | (with_reducible apply St.set1) | (with_reducible apply St.set2) | (with_reducible apply St.set3) | (with_reducible apply St.drew) | (with_reducible apply St.drewN))); all_goals (try (first | rfl | (simp; done))))))).mono ?_
                       rintro e w2 ⟨rfl, hb⟩
                       rw [HQ4.out]
                       have HB2 := hide (HB.out.trans (((Below.refl wr.heap.size wr).alloc (Nat.le_refl _) (.cells #[.string m.token, .int .i64 m.member, .int .i64 m.missed, .slice A3 m.held.length c3] 53)).trans (hb.mono (by simp)) |>.mono HB.out.size))
                       have hbl := (hb.block _ (by simp)).trans (alloc_new wr (.cells #[.string m.token, .int .i64 m.member, .int .i64 m.missed, .slice A3 m.held.length c3] 53))
                       have hc0 := cell_below HB2.out HB0.out.1
                       have hc1 := cell_below HB2.out HB0.out.2.1
                       have hbw := Nat.lt_of_lt_of_le HB0.out.2.2 HB2.out.size
                       have hbc0 : w2.cell? ⟨wr.heap.size, 0, none⟩ = some (.string m.token) := by rw [cell_block hbl]; rfl
                       have hzb := block_lt hbl
                       clear hb hbl))
                  (go_ret; refine ⟨?_, by first | exact below_step HV.out HB3.out | exact below_step HV.out HB2.out | exact below_step HV.out (HB.out.alloc HB.out.size _)⟩; rw [show validPostB p = false from (by simp only [validPostB, adj_fail (f := boxF p.limit) HX.out (boxF_no HNO.out), Bool.and_false])]; rfl)
              · have HNO := hide (boxOk_no (lim := p.limit) (m := m) (fun h => hq2 h.2.2.1))
                have HQ3 := hide (show inB m.missed 0 1000000000 = false by simpa using hq2)
                clear hq2
                go_wp2_with (first
                  | (go_at_call 71; refine (isToken_c _ _ hsz.out).mono ?_; rintro e w' ⟨rfl, rfl⟩; rw [Z1.out])
                  | (go_at_call 72; refine (isMember_c _ _).mono ?_; rintro e w' ⟨rfl, rfl⟩; rw [HQ2.out])
                  | (go_at_call 40; refine (in_c _ _ _ _).mono ?_; rintro e w' ⟨rfl, rfl⟩; rw [HQ3.out])
                  | (go_at_call 48
                     refine (parcelsOk_c m.held _ _ (H3.out.below (St.below (w0 := wr) (L := [_]) (by (repeat (first | (with_reducible exact St.start wr) | (with_reducible apply St.alloc) | (with_reducible apply St.set0) | (with_reducible apply St.set1) | (with_reducible apply St.set2) | (with_reducible apply St.set3) | (with_reducible apply St.drew) | (with_reducible apply St.drewN))); all_goals (try (first | rfl | (simp; done))))))).mono ?_
                     rintro e w2 ⟨rfl, hb⟩
                     rw [HQ4.out]
                     have HB2 := hide (HB.out.trans (((Below.refl wr.heap.size wr).alloc (Nat.le_refl _) (.cells #[.string m.token, .int .i64 m.member, .int .i64 m.missed, .slice A3 m.held.length c3] 53)).trans (hb.mono (by simp)) |>.mono HB.out.size))
                     have hbl := (hb.block _ (by simp)).trans (alloc_new wr (.cells #[.string m.token, .int .i64 m.member, .int .i64 m.missed, .slice A3 m.held.length c3] 53))
                     have hc0 := cell_below HB2.out HB0.out.1
                     have hc1 := cell_below HB2.out HB0.out.2.1
                     have hbw := Nat.lt_of_lt_of_le HB0.out.2.2 HB2.out.size
                     have hbc0 : w2.cell? ⟨wr.heap.size, 0, none⟩ = some (.string m.token) := by rw [cell_block hbl]; rfl
                     have hzb := block_lt hbl
                     clear hb hbl))
                (go_ret; refine ⟨?_, by first | exact below_step HV.out HB3.out | exact below_step HV.out HB2.out | exact below_step HV.out (HB.out.alloc HB.out.size _)⟩; rw [show validPostB p = false from (by simp only [validPostB, adj_fail (f := boxF p.limit) HX.out (boxF_no HNO.out), Bool.and_false])]; rfl)
            · have HNO := hide (boxOk_no (lim := p.limit) (m := m) (fun h => hq1 h.2.1))
              have HQ2 := hide (show inB m.member 1 1000 = false by simpa using hq1)
              clear hq1
              go_wp2_with (first
                | (go_at_call 71; refine (isToken_c _ _ hsz.out).mono ?_; rintro e w' ⟨rfl, rfl⟩; rw [Z1.out])
                | (go_at_call 72; refine (isMember_c _ _).mono ?_; rintro e w' ⟨rfl, rfl⟩; rw [HQ2.out])
                | (go_at_call 40; refine (in_c _ _ _ _).mono ?_; rintro e w' ⟨rfl, rfl⟩; rw [HQ3.out])
                | (go_at_call 48
                   refine (parcelsOk_c m.held _ _ (H3.out.below (St.below (w0 := wr) (L := [_]) (by (repeat (first | (with_reducible exact St.start wr) | (with_reducible apply St.alloc) | (with_reducible apply St.set0) | (with_reducible apply St.set1) | (with_reducible apply St.set2) | (with_reducible apply St.set3) | (with_reducible apply St.drew) | (with_reducible apply St.drewN))); all_goals (try (first | rfl | (simp; done))))))).mono ?_
                   rintro e w2 ⟨rfl, hb⟩
                   rw [HQ4.out]
                   have HB2 := hide (HB.out.trans (((Below.refl wr.heap.size wr).alloc (Nat.le_refl _) (.cells #[.string m.token, .int .i64 m.member, .int .i64 m.missed, .slice A3 m.held.length c3] 53)).trans (hb.mono (by simp)) |>.mono HB.out.size))
                   have hbl := (hb.block _ (by simp)).trans (alloc_new wr (.cells #[.string m.token, .int .i64 m.member, .int .i64 m.missed, .slice A3 m.held.length c3] 53))
                   have hc0 := cell_below HB2.out HB0.out.1
                   have hc1 := cell_below HB2.out HB0.out.2.1
                   have hbw := Nat.lt_of_lt_of_le HB0.out.2.2 HB2.out.size
                   have hbc0 : w2.cell? ⟨wr.heap.size, 0, none⟩ = some (.string m.token) := by rw [cell_block hbl]; rfl
                   have hzb := block_lt hbl
                   clear hb hbl))
              (go_ret; refine ⟨?_, by first | exact below_step HV.out HB3.out | exact below_step HV.out HB2.out | exact below_step HV.out (HB.out.alloc HB.out.size _)⟩; rw [show validPostB p = false from (by simp only [validPostB, adj_fail (f := boxF p.limit) HX.out (boxF_no HNO.out), Bool.and_false])]; rfl)
          · have HNO := hide (boxOk_no (lim := p.limit) (m := m) (fun h => hq0 h.1))
            have Z1 := hide (show decide ((m.token.size : Int) = 16) = false from decide_eq_false hq0)
            clear hq0
            go_wp2_with (first
              | (go_at_call 71; refine (isToken_c _ _ hsz.out).mono ?_; rintro e w' ⟨rfl, rfl⟩; rw [Z1.out])
              | (go_at_call 72; refine (isMember_c _ _).mono ?_; rintro e w' ⟨rfl, rfl⟩; rw [HQ2.out])
              | (go_at_call 40; refine (in_c _ _ _ _).mono ?_; rintro e w' ⟨rfl, rfl⟩; rw [HQ3.out])
              | (go_at_call 48
                 refine (parcelsOk_c m.held _ _ (H3.out.below (St.below (w0 := wr) (L := [_]) (by (repeat (first | (with_reducible exact St.start wr) | (with_reducible apply St.alloc) | (with_reducible apply St.set0) | (with_reducible apply St.set1) | (with_reducible apply St.set2) | (with_reducible apply St.set3) | (with_reducible apply St.drew) | (with_reducible apply St.drewN))); all_goals (try (first | rfl | (simp; done))))))).mono ?_
                 rintro e w2 ⟨rfl, hb⟩
                 rw [HQ4.out]
                 have HB2 := hide (HB.out.trans (((Below.refl wr.heap.size wr).alloc (Nat.le_refl _) (.cells #[.string m.token, .int .i64 m.member, .int .i64 m.missed, .slice A3 m.held.length c3] 53)).trans (hb.mono (by simp)) |>.mono HB.out.size))
                 have hbl := (hb.block _ (by simp)).trans (alloc_new wr (.cells #[.string m.token, .int .i64 m.member, .int .i64 m.missed, .slice A3 m.held.length c3] 53))
                 have hc0 := cell_below HB2.out HB0.out.1
                 have hc1 := cell_below HB2.out HB0.out.2.1
                 have hbw := Nat.lt_of_lt_of_le HB0.out.2.2 HB2.out.size
                 have hbc0 : w2.cell? ⟨wr.heap.size, 0, none⟩ = some (.string m.token) := by rw [cell_block hbl]; rfl
                 have hzb := block_lt hbl
                 clear hb hbl))
            (go_ret; refine ⟨?_, by first | exact below_step HV.out HB3.out | exact below_step HV.out HB2.out | exact below_step HV.out (HB.out.alloc HB.out.size _)⟩; rw [show validPostB p = false from (by simp only [validPostB, adj_fail (f := boxF p.limit) HX.out (boxF_no HNO.out), Bool.and_false])]; rfl)
        · have : k = p.boxes.length := by omega
          subst this
          have hr := hide (show validPostB p = true by simp only [validPostB, adj_all HT.out, hd5, HIN.out, Bool.true_and])
          clear HA
          go_wp2_with fail
          go_ret
          exact ⟨by rw [hr.out]; rfl, below_step HV.out HB.out⟩
    · have hd4 : decide ((32 : Int) < (p.boxes.length : Int)) = true := by simp; omega
      have hd5 : decide ((p.boxes.length : Int) ≤ 32) = false := by simpa using h40
      have hr := hide (show validPostB p = false by simp only [validPostB, hd5, Bool.false_and, Bool.and_false])
      clear HA
      go_enter Try.func56, Try.ntmps56
      go_wp2_with (go_at_call 40; refine (in_c _ _ _ _).mono ?_; rintro e w' ⟨rfl, rfl⟩; rw [HIN.out])
      rw [← hV]
      go_ret
      exact ⟨by rw [hr.out]; rfl, HV.out⟩
  · have HIN := hide (show inB p.limit 1 64 = false by simpa using hin)
    have hr := hide (show validPostB p = false by simp only [validPostB, HIN.out, Bool.false_and])
    clear HA hin
    go_enter Try.func56, Try.ntmps56
    go_wp2_with (go_at_call 40; refine (in_c _ _ _ _).mono ?_; rintro e w' ⟨rfl, rfl⟩; rw [HIN.out])
    rw [← hV]
    go_ret
    exact ⟨by rw [hr.out]; rfl, HV.out⟩
end Go.Proofs.Ytdmhjfajicclaaa
