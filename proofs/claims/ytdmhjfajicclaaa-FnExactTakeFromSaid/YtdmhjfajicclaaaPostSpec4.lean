/- Valid posts: the reference's test. -/
import Derived.Test.YtdmhjfajicclaaaParcels2
import Derived.Test.YtdmhjfajicclaaaRTypes
import Derived.Laws.Cover1
namespace Go.Proofs.Ytdmhjfajicclaaa
open Go Go.RowKit Go.BigFrame
attribute [local go_sem] Calm.cell Calm.frozen
set_option linter.unusedVariables false
set_option linter.unusedSimpArgs false

theorem boxOk_no {lim : Int} {m : Box} (h : ¬ ((m.token.size : Int) = 16 ∧ inB m.member 1 1000 = true ∧ inB m.missed 0 1000000000 = true ∧ parsOkB m.held = true ∧ (m.held.length : Int) ≤ lim)) : boxOkB lim m = false := by
  rw [Bool.eq_false_iff]
  intro h2
  simp only [boxOkB, Bool.and_eq_true, decide_eq_true_eq] at h2
  exact h ⟨h2.1.1.1.1, h2.1.1.1.2, h2.1.1.2, h2.1.2, h2.2⟩
theorem boxOk_yes {lim : Int} {m : Box} (h1 : (m.token.size : Int) = 16) (h2 : inB m.member 1 1000 = true) (h3 : inB m.missed 0 1000000000 = true) (h4 : parsOkB m.held = true) (h5 : (m.held.length : Int) ≤ lim) : boxOkB lim m = true := by
  simp [boxOkB, h1, h2, h3, h4, h5]
set_option maxHeartbeats 4000000 in
set_option maxRecDepth 100000 in
theorem l04Is_c (p : Post) (b o : Nat) (w : World) (hp : RowAt postD w b o [p]) (ht : okPost p) :
    Calls Try.prog 26 #[.pointer (some ⟨b, o, none⟩)] w fun e w' => e = .returned (.bool (validPostB p)) ∧ Below w.heap.size w w' := by
  obtain ⟨v1, h1, hbz, hb0, hb1⟩ := post_at hp (Below.refl _ _) (j := 0) rfl
  simp only [Nat.zero_mul, Nat.add_zero] at hb0 hb1
  obtain ⟨A, c, rfl, hl, hm, hra⟩ := h1
  have HA := hide hra
  have HTX := hide ht
  clear hra ht hp
  by_cases hin : inB p.limit 1 64 = true
  · have HIN := hide hin
    clear hin
    by_cases h40 : (p.boxes.length : Int) ≤ 32
    · have hd4 : decide ((32 : Int) < (p.boxes.length : Int)) = false := by simp; omega
      have hd5 : decide ((p.boxes.length : Int) ≤ 32) = true := by simpa using h40
      go_enter Try.func26, Try.ntmps26
      go_wp2_with (go_at_call 37; refine (l00In_is HIN.out _).mono ?_; rintro e w' ⟨rfl, rfl⟩)
      go_loopg [3] p.boxes.length (fun gg s8 wr => ∃ k : Nat, k ≤ p.boxes.length ∧ p.boxes.length - k ≤ gg ∧ s8 = .int .i64 k ∧ Hid (∀ j y, j < k → p.boxes[j]? = some y → boxF p.limit y (prevAt p.boxes j) = true) ∧ Hid (Below w.heap.size w wr))
      case atStart => exact ⟨0, Nat.zero_le _, by omega, rfl, hide (by intro j y hj; omega), Below.refl _ _⟩
      case round =>
        obtain ⟨k, hk, hg, rfl, HT, HB⟩ := hrel
        have hb0 := cell_below HB.out hb0
        have hb1 := cell_below HB.out hb1
        have hbr := Nat.lt_of_lt_of_le hbz HB.out.size
        by_cases hlt : k < p.boxes.length
        · obtain ⟨m, hx⟩ : ∃ m, p.boxes[k]? = some m := ⟨_, List.getElem?_eq_getElem hlt⟩
          rcases HA.out with hnil | ⟨q, o2, rfl, hra⟩
          · rw [hnil] at hlt; simp at hlt
          obtain ⟨v3, h3, hq, hc0, hc1, hc2, hc3⟩ := box_at hra HB.out hx
          obtain ⟨A3, c3, rfl⟩ := h3.shape
          have H3 := hide h3
          have hsz := hide (HTX.out m (List.mem_of_getElem? hx))
          have HX := hide hx
          have HRA := hide hra
          have hlt2 : (k : Int) < (p.boxes.length : Int) := by omega
          clear hx hra h3 HA
          by_cases hq0 : (m.token.size : Int) = 16
          · have Q1 := hide hq0
            have z1 : ((m.token.size : Int) != 16) = false := by simp [hq0]
            clear hq0
            by_cases hq1 : inB m.member 1 1000 = true
            · have HQ2 := hide hq1
              clear hq1
              by_cases hq2 : inB m.missed 0 1000000000 = true
              · have HQ3 := hide hq2
                clear hq2
                by_cases hq3 : parsOkB m.held = true
                · have HQ4 := hide hq3
                  clear hq3
                  by_cases hq4 : (m.held.length : Int) ≤ p.limit
                  · have Q5 := hide hq4
                    have z5 : decide (p.limit < (m.held.length : Int)) = false := by simp; omega
                    clear hq4
                    have HOK := hide (boxOk_yes (lim := p.limit) Q1.out HQ2.out HQ3.out HQ4.out Q5.out)
                    by_cases hk0 : 0 < k
                    · obtain ⟨pr, hy⟩ : ∃ pr, p.boxes[k - 1]? = some pr := ⟨_, List.getElem?_eq_getElem (by omega)⟩
                      obtain ⟨_, _, _, hd0, _, _, _⟩ := box_at HRA.out HB.out hy
                      have HV := hide (prevAt_succ hk0 hy)
                      have hk1 : decide (0 < k) = true := by simp; omega
                      have hk3 : (1 : Int) ≤ (k : Int) := by omega
                      have hk5 : IntKind.i64.wrap ((k : Int) - 1) = (k : Int) - 1 := IntWalk.i64_in _ (by omega)
                      have hk6 : (0 : Int) ≤ (k : Int) - 1 := by omega
                      have hk7 : ((k : Int) - 1).toNat = k - 1 := by omega
                      clear hy
                      by_cases hlt3 : tokLt pr.token m.token = true
                      · have hn2 : Op.bytesLess pr.token.toList m.token.toList = true := hlt3
                        have HL := hide hlt3
                        clear hlt3
                        go_wp2_with fail
                        ((refine wp_region_calm (by kernel_rfl) (by kernel_rfl) ?_; (repeat (first | go_big_quiet_skip | (go_big_quiet_want; go_big_quiet_op; (first | go_big_quiet_on | (apply Exists.intro; refine ⟨fun ic => ?_, ?_⟩; (focus (first | (go_at_call 54; refine (l02Id_c _ _).mono ?_; rintro e w2 ⟨rfl, rfl⟩; rw [HQ2.out]; exact ⟨rfl, Calm.next _ (Below.refl _ _)⟩) | (go_at_call 37; refine (l00In_is HQ3.out _).mono ?_; rintro e w2 ⟨rfl, rfl⟩; exact ⟨rfl, Calm.next _ (Below.refl _ _)⟩) | (go_at_call 43; refine (l04Parcels_c m.held _ _ (H3.out.below ic.below)).mono ?_; rintro e w2 ⟨rfl, hb⟩; rw [HQ4.out]; exact ⟨rfl, Calm.next _ hb⟩); done)); go_big_quiet_on))))); refine wpQuiet_nil ?_; intro wq hwq; obtain ⟨iq, hwe⟩ := hwq; subst hwe); have HN := hide (HB.out.trans (iq.below.mono HB.out.size)); clear HB; have HB := HN; clear HN; have hz := iq.size; go_wp2_with fail)
                        ((refine wp_region_calm (by kernel_rfl) (by kernel_rfl) ?_; (repeat (first | go_big_quiet_skip | (go_big_quiet_want; go_big_quiet_op; (first | go_big_quiet_on | (apply Exists.intro; refine ⟨fun ic => ?_, ?_⟩; (focus (first | (go_at_call 54; refine (l02Id_c _ _).mono ?_; rintro e w2 ⟨rfl, rfl⟩; rw [HQ2.out]; exact ⟨rfl, Calm.next _ (Below.refl _ _)⟩) | (go_at_call 37; refine (l00In_is HQ3.out _).mono ?_; rintro e w2 ⟨rfl, rfl⟩; exact ⟨rfl, Calm.next _ (Below.refl _ _)⟩) | (go_at_call 43; refine (l04Parcels_c m.held _ _ (H3.out.below ic.below)).mono ?_; rintro e w2 ⟨rfl, hb⟩; rw [HQ4.out]; exact ⟨rfl, Calm.next _ hb⟩); done)); go_big_quiet_on))))); refine wpQuiet_nil ?_; intro wq hwq; obtain ⟨iq, hwe⟩ := hwq; subst hwe); have HN := hide (HB.out.trans (iq.below.mono HB.out.size)); clear HB; have HB := HN; clear HN; have hz := iq.size; go_wp2_with fail)
                        (go_roundg (p.boxes.length - (k + 1)); (case measure => omega); (case rel => exact ⟨k + 1, by omega, by omega, by go_num, hide (adj_step HT.out HX.out (by rw [HV.out]; exact boxF_some HOK.out HL.out)), hide HB.out⟩))
                      · have HL := hide (show tokLt pr.token m.token = false by simpa using hlt3)
                        have hn2 : Op.bytesLess pr.token.toList m.token.toList = false := HL.out
                        clear hlt3
                        go_wp2_with fail
                        ((refine wp_region_calm (by kernel_rfl) (by kernel_rfl) ?_; (repeat (first | go_big_quiet_skip | (go_big_quiet_want; go_big_quiet_op; (first | go_big_quiet_on | (apply Exists.intro; refine ⟨fun ic => ?_, ?_⟩; (focus (first | (go_at_call 54; refine (l02Id_c _ _).mono ?_; rintro e w2 ⟨rfl, rfl⟩; rw [HQ2.out]; exact ⟨rfl, Calm.next _ (Below.refl _ _)⟩) | (go_at_call 37; refine (l00In_is HQ3.out _).mono ?_; rintro e w2 ⟨rfl, rfl⟩; exact ⟨rfl, Calm.next _ (Below.refl _ _)⟩) | (go_at_call 43; refine (l04Parcels_c m.held _ _ (H3.out.below ic.below)).mono ?_; rintro e w2 ⟨rfl, hb⟩; rw [HQ4.out]; exact ⟨rfl, Calm.next _ hb⟩); done)); go_big_quiet_on))))); refine wpQuiet_nil ?_; intro wq hwq; obtain ⟨iq, hwe⟩ := hwq; subst hwe); have HN := hide (HB.out.trans (iq.below.mono HB.out.size)); clear HB; have HB := HN; clear HN; have hz := iq.size; go_wp2_with fail)
                        ((refine wp_region_calm (by kernel_rfl) (by kernel_rfl) ?_; (repeat (first | go_big_quiet_skip | (go_big_quiet_want; go_big_quiet_op; (first | go_big_quiet_on | (apply Exists.intro; refine ⟨fun ic => ?_, ?_⟩; (focus (first | (go_at_call 54; refine (l02Id_c _ _).mono ?_; rintro e w2 ⟨rfl, rfl⟩; rw [HQ2.out]; exact ⟨rfl, Calm.next _ (Below.refl _ _)⟩) | (go_at_call 37; refine (l00In_is HQ3.out _).mono ?_; rintro e w2 ⟨rfl, rfl⟩; exact ⟨rfl, Calm.next _ (Below.refl _ _)⟩) | (go_at_call 43; refine (l04Parcels_c m.held _ _ (H3.out.below ic.below)).mono ?_; rintro e w2 ⟨rfl, hb⟩; rw [HQ4.out]; exact ⟨rfl, Calm.next _ hb⟩); done)); go_big_quiet_on))))); refine wpQuiet_nil ?_; intro wq hwq; obtain ⟨iq, hwe⟩ := hwq; subst hwe); have HN := hide (HB.out.trans (iq.below.mono HB.out.size)); clear HB; have HB := HN; clear HN; have hz := iq.size; go_wp2_with fail)
                        (go_ret; refine ⟨?_, HB.out⟩; rw [show validPostB p = false from (by simp only [validPostB, adj_fail (f := boxF p.limit) HX.out (by rw [HV.out]; exact boxF_ord HL.out), Bool.and_false])]; rfl)
                    · have hk1 : decide (0 < k) = false := by simp; omega
                      have HV := hide (show prevAt p.boxes k = none by unfold prevAt; rw [if_pos (by omega)])
                      clear hk0
                      go_wp2_with fail
                      ((refine wp_region_calm (by kernel_rfl) (by kernel_rfl) ?_; (repeat (first | go_big_quiet_skip | (go_big_quiet_want; go_big_quiet_op; (first | go_big_quiet_on | (apply Exists.intro; refine ⟨fun ic => ?_, ?_⟩; (focus (first | (go_at_call 54; refine (l02Id_c _ _).mono ?_; rintro e w2 ⟨rfl, rfl⟩; rw [HQ2.out]; exact ⟨rfl, Calm.next _ (Below.refl _ _)⟩) | (go_at_call 37; refine (l00In_is HQ3.out _).mono ?_; rintro e w2 ⟨rfl, rfl⟩; exact ⟨rfl, Calm.next _ (Below.refl _ _)⟩) | (go_at_call 43; refine (l04Parcels_c m.held _ _ (H3.out.below ic.below)).mono ?_; rintro e w2 ⟨rfl, hb⟩; rw [HQ4.out]; exact ⟨rfl, Calm.next _ hb⟩); done)); go_big_quiet_on))))); refine wpQuiet_nil ?_; intro wq hwq; obtain ⟨iq, hwe⟩ := hwq; subst hwe); have HN := hide (HB.out.trans (iq.below.mono HB.out.size)); clear HB; have HB := HN; clear HN; have hz := iq.size; go_wp2_with fail)
                      ((refine wp_region_calm (by kernel_rfl) (by kernel_rfl) ?_; (repeat (first | go_big_quiet_skip | (go_big_quiet_want; go_big_quiet_op; (first | go_big_quiet_on | (apply Exists.intro; refine ⟨fun ic => ?_, ?_⟩; (focus (first | (go_at_call 54; refine (l02Id_c _ _).mono ?_; rintro e w2 ⟨rfl, rfl⟩; rw [HQ2.out]; exact ⟨rfl, Calm.next _ (Below.refl _ _)⟩) | (go_at_call 37; refine (l00In_is HQ3.out _).mono ?_; rintro e w2 ⟨rfl, rfl⟩; exact ⟨rfl, Calm.next _ (Below.refl _ _)⟩) | (go_at_call 43; refine (l04Parcels_c m.held _ _ (H3.out.below ic.below)).mono ?_; rintro e w2 ⟨rfl, hb⟩; rw [HQ4.out]; exact ⟨rfl, Calm.next _ hb⟩); done)); go_big_quiet_on))))); refine wpQuiet_nil ?_; intro wq hwq; obtain ⟨iq, hwe⟩ := hwq; subst hwe); have HN := hide (HB.out.trans (iq.below.mono HB.out.size)); clear HB; have HB := HN; clear HN; have hz := iq.size; go_wp2_with fail)
                      (go_roundg (p.boxes.length - (k + 1)); (case measure => omega); (case rel => exact ⟨k + 1, by omega, by omega, by go_num, hide (adj_step HT.out HX.out (by rw [HV.out]; exact boxF_none HOK.out)), hide HB.out⟩))
                  · have HNO := hide (boxOk_no (lim := p.limit) (m := m) (fun h => hq4 h.2.2.2.2))
                    have z5 : decide (p.limit < (m.held.length : Int)) = true := by simp; omega
                    clear hq4
                    go_wp2_with fail
                    ((refine wp_region_calm (by kernel_rfl) (by kernel_rfl) ?_; (repeat (first | go_big_quiet_skip | (go_big_quiet_want; go_big_quiet_op; (first | go_big_quiet_on | (apply Exists.intro; refine ⟨fun ic => ?_, ?_⟩; (focus (first | (go_at_call 54; refine (l02Id_c _ _).mono ?_; rintro e w2 ⟨rfl, rfl⟩; rw [HQ2.out]; exact ⟨rfl, Calm.next _ (Below.refl _ _)⟩) | (go_at_call 37; refine (l00In_is HQ3.out _).mono ?_; rintro e w2 ⟨rfl, rfl⟩; exact ⟨rfl, Calm.next _ (Below.refl _ _)⟩) | (go_at_call 43; refine (l04Parcels_c m.held _ _ (H3.out.below ic.below)).mono ?_; rintro e w2 ⟨rfl, hb⟩; rw [HQ4.out]; exact ⟨rfl, Calm.next _ hb⟩); done)); go_big_quiet_on))))); refine wpQuiet_nil ?_; intro wq hwq; obtain ⟨iq, hwe⟩ := hwq; subst hwe); have HN := hide (HB.out.trans (iq.below.mono HB.out.size)); clear HB; have HB := HN; clear HN; have hz := iq.size; go_wp2_with fail)
                    (go_ret; refine ⟨?_, HB.out⟩; rw [show validPostB p = false from (by simp only [validPostB, adj_fail (f := boxF p.limit) HX.out (boxF_no HNO.out), Bool.and_false])]; rfl)
                · have HNO := hide (boxOk_no (lim := p.limit) (m := m) (fun h => hq3 h.2.2.2.1))
                  have HQ4 := hide (show parsOkB m.held = false by simpa using hq3)
                  clear hq3
                  go_wp2_with fail
                  ((refine wp_region_calm (by kernel_rfl) (by kernel_rfl) ?_; (repeat (first | go_big_quiet_skip | (go_big_quiet_want; go_big_quiet_op; (first | go_big_quiet_on | (apply Exists.intro; refine ⟨fun ic => ?_, ?_⟩; (focus (first | (go_at_call 54; refine (l02Id_c _ _).mono ?_; rintro e w2 ⟨rfl, rfl⟩; rw [HQ2.out]; exact ⟨rfl, Calm.next _ (Below.refl _ _)⟩) | (go_at_call 37; refine (l00In_is HQ3.out _).mono ?_; rintro e w2 ⟨rfl, rfl⟩; exact ⟨rfl, Calm.next _ (Below.refl _ _)⟩) | (go_at_call 43; refine (l04Parcels_c m.held _ _ (H3.out.below ic.below)).mono ?_; rintro e w2 ⟨rfl, hb⟩; rw [HQ4.out]; exact ⟨rfl, Calm.next _ hb⟩); done)); go_big_quiet_on))))); refine wpQuiet_nil ?_; intro wq hwq; obtain ⟨iq, hwe⟩ := hwq; subst hwe); have HN := hide (HB.out.trans (iq.below.mono HB.out.size)); clear HB; have HB := HN; clear HN; have hz := iq.size; go_wp2_with fail)
                  (go_ret; refine ⟨?_, HB.out⟩; rw [show validPostB p = false from (by simp only [validPostB, adj_fail (f := boxF p.limit) HX.out (boxF_no HNO.out), Bool.and_false])]; rfl)
              · have HNO := hide (boxOk_no (lim := p.limit) (m := m) (fun h => hq2 h.2.2.1))
                have HQ3 := hide (show inB m.missed 0 1000000000 = false by simpa using hq2)
                clear hq2
                go_wp2_with fail
                ((refine wp_region_calm (by kernel_rfl) (by kernel_rfl) ?_; (repeat (first | go_big_quiet_skip | (go_big_quiet_want; go_big_quiet_op; (first | go_big_quiet_on | (apply Exists.intro; refine ⟨fun ic => ?_, ?_⟩; (focus (first | (go_at_call 54; refine (l02Id_c _ _).mono ?_; rintro e w2 ⟨rfl, rfl⟩; rw [HQ2.out]; exact ⟨rfl, Calm.next _ (Below.refl _ _)⟩) | (go_at_call 37; refine (l00In_is HQ3.out _).mono ?_; rintro e w2 ⟨rfl, rfl⟩; exact ⟨rfl, Calm.next _ (Below.refl _ _)⟩) | (go_at_call 43; refine (l04Parcels_c m.held _ _ (H3.out.below ic.below)).mono ?_; rintro e w2 ⟨rfl, hb⟩; rw [HQ4.out]; exact ⟨rfl, Calm.next _ hb⟩); done)); go_big_quiet_on))))); refine wpQuiet_nil ?_; intro wq hwq; obtain ⟨iq, hwe⟩ := hwq; subst hwe); have HN := hide (HB.out.trans (iq.below.mono HB.out.size)); clear HB; have HB := HN; clear HN; have hz := iq.size; go_wp2_with fail)
                (go_ret; refine ⟨?_, HB.out⟩; rw [show validPostB p = false from (by simp only [validPostB, adj_fail (f := boxF p.limit) HX.out (boxF_no HNO.out), Bool.and_false])]; rfl)
            · have HNO := hide (boxOk_no (lim := p.limit) (m := m) (fun h => hq1 h.2.1))
              have HQ2 := hide (show inB m.member 1 1000 = false by simpa using hq1)
              clear hq1
              go_wp2_with fail
              ((refine wp_region_calm (by kernel_rfl) (by kernel_rfl) ?_; (repeat (first | go_big_quiet_skip | (go_big_quiet_want; go_big_quiet_op; (first | go_big_quiet_on | (apply Exists.intro; refine ⟨fun ic => ?_, ?_⟩; (focus (first | (go_at_call 54; refine (l02Id_c _ _).mono ?_; rintro e w2 ⟨rfl, rfl⟩; rw [HQ2.out]; exact ⟨rfl, Calm.next _ (Below.refl _ _)⟩) | (go_at_call 37; refine (l00In_is HQ3.out _).mono ?_; rintro e w2 ⟨rfl, rfl⟩; exact ⟨rfl, Calm.next _ (Below.refl _ _)⟩) | (go_at_call 43; refine (l04Parcels_c m.held _ _ (H3.out.below ic.below)).mono ?_; rintro e w2 ⟨rfl, hb⟩; rw [HQ4.out]; exact ⟨rfl, Calm.next _ hb⟩); done)); go_big_quiet_on))))); refine wpQuiet_nil ?_; intro wq hwq; obtain ⟨iq, hwe⟩ := hwq; subst hwe); have HN := hide (HB.out.trans (iq.below.mono HB.out.size)); clear HB; have HB := HN; clear HN; have hz := iq.size; go_wp2_with fail)
              (go_ret; refine ⟨?_, HB.out⟩; rw [show validPostB p = false from (by simp only [validPostB, adj_fail (f := boxF p.limit) HX.out (boxF_no HNO.out), Bool.and_false])]; rfl)
          · have HNO := hide (boxOk_no (lim := p.limit) (m := m) (fun h => hq0 h.1))
            have z1 : ((m.token.size : Int) != 16) = true := by simp [hq0]
            clear hq0
            go_wp2_with fail
            ((refine wp_region_calm (by kernel_rfl) (by kernel_rfl) ?_; (repeat (first | go_big_quiet_skip | (go_big_quiet_want; go_big_quiet_op; (first | go_big_quiet_on | (apply Exists.intro; refine ⟨fun ic => ?_, ?_⟩; (focus (first | (go_at_call 54; refine (l02Id_c _ _).mono ?_; rintro e w2 ⟨rfl, rfl⟩; rw [HQ2.out]; exact ⟨rfl, Calm.next _ (Below.refl _ _)⟩) | (go_at_call 37; refine (l00In_is HQ3.out _).mono ?_; rintro e w2 ⟨rfl, rfl⟩; exact ⟨rfl, Calm.next _ (Below.refl _ _)⟩) | (go_at_call 43; refine (l04Parcels_c m.held _ _ (H3.out.below ic.below)).mono ?_; rintro e w2 ⟨rfl, hb⟩; rw [HQ4.out]; exact ⟨rfl, Calm.next _ hb⟩); done)); go_big_quiet_on))))); refine wpQuiet_nil ?_; intro wq hwq; obtain ⟨iq, hwe⟩ := hwq; subst hwe); have HN := hide (HB.out.trans (iq.below.mono HB.out.size)); clear HB; have HB := HN; clear HN; have hz := iq.size; go_wp2_with fail)
            (go_ret; refine ⟨?_, HB.out⟩; rw [show validPostB p = false from (by simp only [validPostB, adj_fail (f := boxF p.limit) HX.out (boxF_no HNO.out), Bool.and_false])]; rfl)
        · have : k = p.boxes.length := by omega
          subst this
          have hr := hide (show validPostB p = true by simp only [validPostB, adj_all HT.out, hd5, HIN.out, Bool.true_and])
          clear HA
          go_wp2_with fail
          go_ret
          exact ⟨by rw [hr.out]; rfl, HB.out⟩
    · have hd4 : decide ((32 : Int) < (p.boxes.length : Int)) = true := by simp; omega
      have hd5 : decide ((p.boxes.length : Int) ≤ 32) = false := by simpa using h40
      have hr := hide (show validPostB p = false by simp only [validPostB, hd5, Bool.false_and, Bool.and_false])
      clear HA
      go_enter Try.func26, Try.ntmps26
      go_wp2_with (go_at_call 37; refine (l00In_is HIN.out _).mono ?_; rintro e w' ⟨rfl, rfl⟩)
      go_ret
      exact ⟨by rw [hr.out]; rfl, Below.refl _ _⟩
  · have HIN := hide (show inB p.limit 1 64 = false by simpa using hin)
    have hr := hide (show validPostB p = false by simp only [validPostB, HIN.out, Bool.false_and])
    clear HA hin
    go_enter Try.func26, Try.ntmps26
    go_wp2_with (go_at_call 37; refine (l00In_is HIN.out _).mono ?_; rintro e w' ⟨rfl, rfl⟩)
    go_ret
    exact ⟨by rw [hr.out]; rfl, Below.refl _ _⟩
end Go.Proofs.Ytdmhjfajicclaaa
