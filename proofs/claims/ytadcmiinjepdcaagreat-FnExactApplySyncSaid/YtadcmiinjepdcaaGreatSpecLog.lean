/- Valid logs: the reference's test. -/
import Derived.Test.YtadcmiinjepdcaaGreatSpecMsg
namespace Go.Proofs.YtadcmiinjepdcaaGreat
open Go Go.RowKit Go.BigFrame
attribute [local go_sem] Calm.cell Calm.frozen
set_option linter.unusedVariables false
set_option linter.unusedSimpArgs false

set_option maxHeartbeats 4000000 in
theorem l03Is_c (l : Log) (b o : Nat) (w : World) (hp : RowAt logD w b o [l]) (ht : okTexts l.messages) :
    Calls Tryz.prog 43 #[.pointer (some ⟨b, o, none⟩)] w fun e w' => e = .returned (.bool (validLogB l)) ∧ Below w.heap.size w w' := by
  obtain ⟨v1, h1, hbz, hb0, hb1⟩ := log_at hp (Below.refl _ _) (j := 0) rfl
  simp only [Nat.zero_mul, Nat.add_zero] at hb0 hb1
  obtain ⟨A, c, rfl, hl, hm, hra⟩ := h1
  have HA := hide hra
  have HTX := hide ht
  clear hra ht hp
  by_cases h40 : (l.messages.length : Int) ≤ 40
  · have hd4 : decide ((40 : Int) < (l.messages.length : Int)) = false := by simp; omega
    have hd5 : decide ((l.messages.length : Int) ≤ 40) = true := by simpa using h40
    by_cases hin : inB l.next 1 1000000000 = true
    · have HIN := hide hin
      clear hin
      go_enter Tryz.func43, Tryz.ntmps43
      go_wp2_with (go_at_call 36; refine (l00In_is HIN.out _).mono ?_; rintro e w' ⟨rfl, rfl⟩)
      go_loopg [24] l.messages.length (fun gg s8 wr => ∃ k : Nat, k ≤ l.messages.length ∧ l.messages.length - k ≤ gg ∧ s8 = .int .i64 k ∧ Hid (∀ j y, j < k → l.messages[j]? = some y → logF l.next y (prevAt l.messages j) = true) ∧ Hid (Below w.heap.size w wr))
      case atStart => exact ⟨0, Nat.zero_le _, by omega, rfl, hide (by intro j y hj; omega), Below.refl _ _⟩
      case round =>
        obtain ⟨k, hk, hg, rfl, HT, HB⟩ := hrel
        have hb0 := cell_below HB.out hb0
        have hb1 := cell_below HB.out hb1
        have hbr := Nat.lt_of_lt_of_le hbz HB.out.size
        by_cases hlt : k < l.messages.length
        · obtain ⟨m, hx⟩ : ∃ m, l.messages[k]? = some m := ⟨_, List.getElem?_eq_getElem hlt⟩
          rcases HA.out with hnil | ⟨q, o2, rfl, hra⟩
          · rw [hnil] at hlt; simp at hlt
          obtain ⟨v7, h7, hq, hc0, hc1, hc2, hc3, hc4, hc5, hc6, hc7⟩ := message_at hra HB.out hx
          have HP : Hid (RowAt messageD w q (o2 + k * 8) [m]) := hide (hra.ptr hx)
          have hsz := hide (HTX.out m (List.mem_of_getElem? hx))
          have HX := hide hx
          have hlt2 : (k : Int) < (l.messages.length : Int) := by omega
          by_cases hv : validMessageB m = true
          · have HVM := hide hv
            by_cases hnx : m.number < l.next
            · have hn1 : decide (l.next ≤ m.number) = false := by simp; omega
              by_cases hk0 : 0 < k
              · obtain ⟨p, hy⟩ : ∃ p, l.messages[k - 1]? = some p := ⟨_, List.getElem?_eq_getElem (by omega)⟩
                obtain ⟨_, _, _, hd0, _, hd2, _, _, _, _, _⟩ := message_at hra HB.out hy
                have HV := hide (prevAt_succ hk0 hy)
                have hk1 : decide (0 < k) = true := by simp; omega
                have hk3 : (1 : Int) ≤ (k : Int) := by omega
                have hk5 : IntKind.i64.wrap ((k : Int) - 1) = (k : Int) - 1 := IntWalk.i64_in _ (by omega)
                have hk6 : (0 : Int) ≤ (k : Int) - 1 := by omega
                have hk7 : ((k : Int) - 1).toNat = k - 1 := by omega
                clear hv hx hra HA h7 hy
                by_cases hpn : p.number < m.number
                · have hn2 : decide (m.number ≤ p.number) = false := by simp; omega
                  by_cases hpa : p.at_ ≤ m.at_
                  · have hn3 : decide (m.at_ < p.at_) = false := by simp; omega
                    go_wp2_with fail
                    ((refine wp_region_calm (by kernel_rfl) (by kernel_rfl) ?_; (repeat (first | go_big_quiet_skip | (go_big_quiet_want; go_big_quiet_op; (first | go_big_quiet_on | (apply Exists.intro; refine ⟨fun ic => ?_, ?_⟩; (focus (go_at_call 62; refine (l03Message_c m _ _ _ (HP.out.below (HB.out.trans (ic.below.mono HB.out.size))) hsz.out).mono ?_; rintro e w2 ⟨rfl, hb⟩; rw [HVM.out]; exact ⟨rfl, Calm.next _ hb⟩; done)); go_big_quiet_on))))); refine wpQuiet_nil ?_; intro wq hwq; obtain ⟨iq, hwe⟩ := hwq; subst hwe); have HN := hide (HB.out.trans (iq.below.mono HB.out.size)); clear HB; have HB := HN; clear HN; have hz := iq.size; go_wp2_with fail)
                    ((refine wp_region_calm (by kernel_rfl) (by kernel_rfl) ?_; (repeat (first | go_big_quiet_skip | (go_big_quiet_want; go_big_quiet_op; (first | go_big_quiet_on | (apply Exists.intro; refine ⟨fun ic => ?_, ?_⟩; (focus (go_at_call 62; refine (l03Message_c m _ _ _ (HP.out.below (HB.out.trans (ic.below.mono HB.out.size))) hsz.out).mono ?_; rintro e w2 ⟨rfl, hb⟩; rw [HVM.out]; exact ⟨rfl, Calm.next _ hb⟩; done)); go_big_quiet_on))))); refine wpQuiet_nil ?_; intro wq hwq; obtain ⟨iq, hwe⟩ := hwq; subst hwe); have HN := hide (HB.out.trans (iq.below.mono HB.out.size)); clear HB; have HB := HN; clear HN; have hz := iq.size; go_wp2_with fail)
                    (go_roundg (l.messages.length - (k + 1)); (case measure => omega); (case rel => exact ⟨k + 1, by omega, by omega, by go_num, hide (adj_step HT.out HX.out (by rw [HV.out]; exact logF_some HVM.out hnx hpn hpa)), hide HB.out⟩))
                  · have hn3 : decide (m.at_ < p.at_) = true := by simp; omega
                    go_wp2_with fail
                    ((refine wp_region_calm (by kernel_rfl) (by kernel_rfl) ?_; (repeat (first | go_big_quiet_skip | (go_big_quiet_want; go_big_quiet_op; (first | go_big_quiet_on | (apply Exists.intro; refine ⟨fun ic => ?_, ?_⟩; (focus (go_at_call 62; refine (l03Message_c m _ _ _ (HP.out.below (HB.out.trans (ic.below.mono HB.out.size))) hsz.out).mono ?_; rintro e w2 ⟨rfl, hb⟩; rw [HVM.out]; exact ⟨rfl, Calm.next _ hb⟩; done)); go_big_quiet_on))))); refine wpQuiet_nil ?_; intro wq hwq; obtain ⟨iq, hwe⟩ := hwq; subst hwe); have HN := hide (HB.out.trans (iq.below.mono HB.out.size)); clear HB; have HB := HN; clear HN; have hz := iq.size; go_wp2_with fail)
                    ((refine wp_region_calm (by kernel_rfl) (by kernel_rfl) ?_; (repeat (first | go_big_quiet_skip | (go_big_quiet_want; go_big_quiet_op; (first | go_big_quiet_on | (apply Exists.intro; refine ⟨fun ic => ?_, ?_⟩; (focus (go_at_call 62; refine (l03Message_c m _ _ _ (HP.out.below (HB.out.trans (ic.below.mono HB.out.size))) hsz.out).mono ?_; rintro e w2 ⟨rfl, hb⟩; rw [HVM.out]; exact ⟨rfl, Calm.next _ hb⟩; done)); go_big_quiet_on))))); refine wpQuiet_nil ?_; intro wq hwq; obtain ⟨iq, hwe⟩ := hwq; subst hwe); have HN := hide (HB.out.trans (iq.below.mono HB.out.size)); clear HB; have HB := HN; clear HN; have hz := iq.size; go_wp2_with fail)
                    (go_ret; refine ⟨?_, HB.out⟩; rw [show validLogB l = false from (by simp only [validLogB, adj_fail (f := logF l.next) HX.out (by rw [HV.out]; exact logF_at (by omega)), Bool.false_and])]; rfl)
                · have hn2 : decide (m.number ≤ p.number) = true := by simp; omega
                  go_wp2_with fail
                  ((refine wp_region_calm (by kernel_rfl) (by kernel_rfl) ?_; (repeat (first | go_big_quiet_skip | (go_big_quiet_want; go_big_quiet_op; (first | go_big_quiet_on | (apply Exists.intro; refine ⟨fun ic => ?_, ?_⟩; (focus (go_at_call 62; refine (l03Message_c m _ _ _ (HP.out.below (HB.out.trans (ic.below.mono HB.out.size))) hsz.out).mono ?_; rintro e w2 ⟨rfl, hb⟩; rw [HVM.out]; exact ⟨rfl, Calm.next _ hb⟩; done)); go_big_quiet_on))))); refine wpQuiet_nil ?_; intro wq hwq; obtain ⟨iq, hwe⟩ := hwq; subst hwe); have HN := hide (HB.out.trans (iq.below.mono HB.out.size)); clear HB; have HB := HN; clear HN; have hz := iq.size; go_wp2_with fail)
                  ((refine wp_region_calm (by kernel_rfl) (by kernel_rfl) ?_; (repeat (first | go_big_quiet_skip | (go_big_quiet_want; go_big_quiet_op; (first | go_big_quiet_on | (apply Exists.intro; refine ⟨fun ic => ?_, ?_⟩; (focus (go_at_call 62; refine (l03Message_c m _ _ _ (HP.out.below (HB.out.trans (ic.below.mono HB.out.size))) hsz.out).mono ?_; rintro e w2 ⟨rfl, hb⟩; rw [HVM.out]; exact ⟨rfl, Calm.next _ hb⟩; done)); go_big_quiet_on))))); refine wpQuiet_nil ?_; intro wq hwq; obtain ⟨iq, hwe⟩ := hwq; subst hwe); have HN := hide (HB.out.trans (iq.below.mono HB.out.size)); clear HB; have HB := HN; clear HN; have hz := iq.size; go_wp2_with fail)
                  (go_ret; refine ⟨?_, HB.out⟩; rw [show validLogB l = false from (by simp only [validLogB, adj_fail (f := logF l.next) HX.out (by rw [HV.out]; exact logF_num (by omega)), Bool.false_and])]; rfl)
              · have hk1 : decide (0 < k) = false := by simp; omega
                have HV := hide (show prevAt l.messages k = none by unfold prevAt; rw [if_pos (by omega)])
                clear hv hx hra HA h7 hk0
                go_wp2_with fail
                ((refine wp_region_calm (by kernel_rfl) (by kernel_rfl) ?_; (repeat (first | go_big_quiet_skip | (go_big_quiet_want; go_big_quiet_op; (first | go_big_quiet_on | (apply Exists.intro; refine ⟨fun ic => ?_, ?_⟩; (focus (go_at_call 62; refine (l03Message_c m _ _ _ (HP.out.below (HB.out.trans (ic.below.mono HB.out.size))) hsz.out).mono ?_; rintro e w2 ⟨rfl, hb⟩; rw [HVM.out]; exact ⟨rfl, Calm.next _ hb⟩; done)); go_big_quiet_on))))); refine wpQuiet_nil ?_; intro wq hwq; obtain ⟨iq, hwe⟩ := hwq; subst hwe); have HN := hide (HB.out.trans (iq.below.mono HB.out.size)); clear HB; have HB := HN; clear HN; have hz := iq.size; go_wp2_with fail)
                ((refine wp_region_calm (by kernel_rfl) (by kernel_rfl) ?_; (repeat (first | go_big_quiet_skip | (go_big_quiet_want; go_big_quiet_op; (first | go_big_quiet_on | (apply Exists.intro; refine ⟨fun ic => ?_, ?_⟩; (focus (go_at_call 62; refine (l03Message_c m _ _ _ (HP.out.below (HB.out.trans (ic.below.mono HB.out.size))) hsz.out).mono ?_; rintro e w2 ⟨rfl, hb⟩; rw [HVM.out]; exact ⟨rfl, Calm.next _ hb⟩; done)); go_big_quiet_on))))); refine wpQuiet_nil ?_; intro wq hwq; obtain ⟨iq, hwe⟩ := hwq; subst hwe); have HN := hide (HB.out.trans (iq.below.mono HB.out.size)); clear HB; have HB := HN; clear HN; have hz := iq.size; go_wp2_with fail)
                (go_roundg (l.messages.length - (k + 1)); (case measure => omega); (case rel => exact ⟨k + 1, by omega, by omega, by go_num, hide (adj_step HT.out HX.out (by rw [HV.out]; exact logF_none HVM.out hnx)), hide HB.out⟩))
            · have hn1 : decide (l.next ≤ m.number) = true := by simp; omega
              clear hv hx hra HA h7
              go_wp2_with fail
              ((refine wp_region_calm (by kernel_rfl) (by kernel_rfl) ?_; (repeat (first | go_big_quiet_skip | (go_big_quiet_want; go_big_quiet_op; (first | go_big_quiet_on | (apply Exists.intro; refine ⟨fun ic => ?_, ?_⟩; (focus (go_at_call 62; refine (l03Message_c m _ _ _ (HP.out.below (HB.out.trans (ic.below.mono HB.out.size))) hsz.out).mono ?_; rintro e w2 ⟨rfl, hb⟩; rw [HVM.out]; exact ⟨rfl, Calm.next _ hb⟩; done)); go_big_quiet_on))))); refine wpQuiet_nil ?_; intro wq hwq; obtain ⟨iq, hwe⟩ := hwq; subst hwe); have HN := hide (HB.out.trans (iq.below.mono HB.out.size)); clear HB; have HB := HN; clear HN; have hz := iq.size; go_wp2_with fail)
              (go_ret; refine ⟨?_, HB.out⟩; rw [show validLogB l = false from (by simp only [validLogB, adj_fail (f := logF l.next) HX.out (logF_next (by omega)), Bool.false_and])]; rfl)
          · have HVM := hide (show validMessageB m = false by simpa using hv)
            clear hv hx hra HA h7
            go_wp2_with fail
            ((refine wp_region_calm (by kernel_rfl) (by kernel_rfl) ?_; (repeat (first | go_big_quiet_skip | (go_big_quiet_want; go_big_quiet_op; (first | go_big_quiet_on | (apply Exists.intro; refine ⟨fun ic => ?_, ?_⟩; (focus (go_at_call 62; refine (l03Message_c m _ _ _ (HP.out.below (HB.out.trans (ic.below.mono HB.out.size))) hsz.out).mono ?_; rintro e w2 ⟨rfl, hb⟩; rw [HVM.out]; exact ⟨rfl, Calm.next _ hb⟩; done)); go_big_quiet_on))))); refine wpQuiet_nil ?_; intro wq hwq; obtain ⟨iq, hwe⟩ := hwq; subst hwe); have HN := hide (HB.out.trans (iq.below.mono HB.out.size)); clear HB; have HB := HN; clear HN; have hz := iq.size; go_wp2_with fail)
            (go_ret; refine ⟨?_, HB.out⟩; rw [show validLogB l = false from (by simp only [validLogB, adj_fail (f := logF l.next) HX.out (logF_no HVM.out), Bool.false_and])]; rfl)
        · have : k = l.messages.length := by omega
          subst this
          have hr := hide (show validLogB l = true by simp only [validLogB, adj_all HT.out, hd5, HIN.out, Bool.true_and])
          clear HA
          go_wp2_with fail
          go_ret
          exact ⟨by rw [hr.out]; rfl, HB.out⟩
    · have HIN := hide (show inB l.next 1 1000000000 = false by simpa using hin)
      have hr := hide (show validLogB l = false by simp only [validLogB, HIN.out, Bool.and_false])
      clear HA hin
      go_enter Tryz.func43, Tryz.ntmps43
      go_wp2_with (go_at_call 36; refine (l00In_is HIN.out _).mono ?_; rintro e w' ⟨rfl, rfl⟩)
      go_ret
      exact ⟨by rw [hr.out]; rfl, Below.refl _ _⟩
  · have hd4 : decide ((40 : Int) < (l.messages.length : Int)) = true := by simp; omega
    have hd5 : decide ((l.messages.length : Int) ≤ 40) = false := by simpa using h40
    have hr := hide (show validLogB l = false by simp only [validLogB, hd5, Bool.false_and, Bool.and_false])
    clear HA
    go_enter Tryz.func43, Tryz.ntmps43
    go_wp2_with (go_at_call 36; refine (l00In_c _ _ _ _).mono ?_; rintro e w' ⟨rfl, rfl⟩)
    go_ret
    exact ⟨by rw [hr.out]; rfl, Below.refl _ _⟩
end Go.Proofs.YtadcmiinjepdcaaGreat
