/- Valid logs: the program's test. -/
import Derived.Test.YtadcmiinjepdcaaGreatValidMsg
import Derived.Test.YtadcmiinjepdcaaGreatCalm
namespace Go.Proofs.YtadcmiinjepdcaaGreat
open Go Go.RowKit Go.BigFrame
attribute [local go_sem] Calm.cell Calm.frozen
set_option linter.unusedVariables false
set_option linter.unusedSimpArgs false

/-- A message beside the one before it, in a log. -/
def logF (next : Int) (m : Message) (p : Option Message) : Bool :=
  validMessageB m && decide (m.number < next) && match p with | none => true | some q => decide (q.number < m.number) && decide (q.at_ ≤ m.at_)
/-- A valid log. -/
def validLogB (l : Log) : Bool := adjB (logF l.next) none l.messages && decide ((l.messages.length : Int) ≤ 40) && inB l.next 1 1000000000

/-- What a walk through a log wants of its messages: texts that a machine holds. -/
def okTexts (ms : List Message) : Prop := ∀ m ∈ ms, m.text.size ≤ 9223372036854775807
theorem logF_no {next : Int} {m : Message} {p : Option Message} (h : validMessageB m = false) : logF next m p = false := by simp [logF, h]
theorem logF_next {next : Int} {m : Message} {p : Option Message} (h : next ≤ m.number) : logF next m p = false := by simp [logF]; intro _ h2; omega
theorem logF_num {next : Int} {m q : Message} (h : m.number ≤ q.number) : logF next m (some q) = false := by simp [logF]; intro _ _ h2; omega
theorem logF_at {next : Int} {m q : Message} (h : m.at_ < q.at_) : logF next m (some q) = false := by simp [logF]; intro _ _ _; omega
theorem logF_some {next : Int} {m q : Message} (h : validMessageB m = true) (h1 : m.number < next) (h2 : q.number < m.number) (h3 : q.at_ ≤ m.at_) : logF next m (some q) = true := by simp [logF, h, h1, h2, h3]
theorem logF_none {next : Int} {m : Message} (h : validMessageB m = true) (h1 : m.number < next) : logF next m none = true := by simp [logF, h, h1]
set_option maxHeartbeats 4000000 in
theorem validLog_c (l : Log) (v1 : Value) (w : World) (h1 : SliceK messageD w v1 l.messages) (ht : okTexts l.messages) :
    Calls Tryz.prog 48 #[.agg #[.int .i64 l.next, v1]] w fun e w' => e = .returned (.bool (validLogB l)) ∧ Below w.heap.size w w' := by
  obtain ⟨A, c, rfl, hl, hm, hra⟩ := h1
  have HA := hide hra
  have HTX := hide ht
  clear hra ht
  have HB0 := hide ((Below.refl w.heap.size w).alloc (Nat.le_refl _) (.cells #[.int .i64 l.next, .slice A l.messages.length c] 31))
  go_enter Tryz.func48, Tryz.ntmps48
  go_wp2_with fail
  go_loopg [8] l.messages.length (fun gg s8 wr => ∃ k : Nat, k ≤ l.messages.length ∧ l.messages.length - k ≤ gg ∧ s8 = .int .i64 k ∧ Hid (∀ j y, j < k → l.messages[j]? = some y → logF l.next y (prevAt l.messages j) = true) ∧ Hid (Below (w.heap.size + 1) (w.alloc (.cells #[.int .i64 l.next, .slice A l.messages.length c] 31)) wr))
  case atStart => exact ⟨0, Nat.zero_le _, by omega, rfl, hide (by intro j y hj; omega), Below.refl _ _⟩
  case round =>
    obtain ⟨k, hk, hg, rfl, HT, HX0⟩ := hrel
    have HB := hide (HB0.out.trans (HX0.out.mono (by omega)))
    have hbx : ∀ o, wr.cell? ⟨w.heap.size, o, none⟩ = (#[.int .i64 l.next, .slice A l.messages.length c] : Array Value)[o]? := fun o => by
      rw [HX0.out.cell (p := ⟨w.heap.size, o, none⟩) (Nat.lt_succ_self _)]; simp
    have hb0 := hbx 0
    have hb1 := hbx 1
    simp at hb0 hb1
    have hwz : w.heap.size < wr.heap.size := by have := HX0.out.size; simp at this; omega
    clear hbx HB0
    by_cases hlt : k < l.messages.length
    · obtain ⟨m, hx⟩ : ∃ m, l.messages[k]? = some m := ⟨_, List.getElem?_eq_getElem hlt⟩
      rcases HA.out with hnil | ⟨q, o, rfl, hra⟩
      · rw [hnil] at hlt; simp at hlt
      obtain ⟨v7, h7, hq, hc0, hc1, hc2, hc3, hc4, hc5, hc6, hc7⟩ := message_at hra HB.out hx
      obtain ⟨A7, c7, rfl⟩ := h7.shape
      have hsz := hide (HTX.out m (List.mem_of_getElem? hx))
      have HX := hide hx
      have H7 := hide h7
      have hlt2 : (k : Int) < (l.messages.length : Int) := by omega
      by_cases hv : validMessageB m = true
      · have HVM := hide hv
        by_cases hnx : m.number < l.next
        · have hn1 : decide (l.next ≤ m.number) = false := by simp; omega
          by_cases hk0 : 0 < k
          · obtain ⟨p, hy⟩ : ∃ p, l.messages[k - 1]? = some p := ⟨_, List.getElem?_eq_getElem (by omega)⟩
            obtain ⟨_, _, _, hd0, _, hd2, _, _, _, _, _⟩ := message_at hra HB.out hy
            have HV := hide (prevAt_succ hk0 hy)
            have hk1 : decide (0 < k) = true := by simp; omega
            have hk3 : (1 : Int) ≤ (k : Int) := by omega
            have hk5 : IntKind.i64.wrap ((k : Int) - 1) = (k : Int) - 1 := IntWalk.i64_in _ (by omega)
            have hk6 : (0 : Int) ≤ (k : Int) - 1 := by omega
            have hk7 : ((k : Int) - 1).toNat = k - 1 := by omega
            clear hv hx hra HA h7 hy
            by_cases hpn : p.number < m.number
            · have hn2 : decide (m.number ≤ p.number) = false := by simp; omega
              by_cases hpa : p.at_ ≤ m.at_
              · have hn3 : decide (m.at_ < p.at_) = false := by simp; omega
                (((go_wp2_with fail); (refine wp_region_calm (by kernel_rfl) (by kernel_rfl) ?_; (repeat (first | go_big_quiet_skip | (go_big_quiet_want; go_big_quiet_op; (first | go_big_quiet_on | (apply Exists.intro; refine ⟨fun ic => ?_, ?_⟩; (focus (go_at_call 65; refine (validMessage_c m _ _ (H7.out.below ic.boxed) hsz.out).mono ?_; rintro e w2 ⟨rfl, hb⟩; rw [HVM.out]; exact ⟨rfl, Calm.next _ hb⟩; done)); go_big_quiet_on))))); refine wpQuiet_nil ?_; intro wq hwq; obtain ⟨iq, hwe⟩ := hwq; subst hwe); have HBQ := hide (HB.out.trans (iq.boxed.mono HB.out.size)); have hzq := iq.size; simp only [World.size_alloc] at hzq; go_wp2); go_roundg (l.messages.length - (k + 1)); (case measure => omega); (case rel => exact ⟨k + 1, by omega, by omega, by go_num, hide (adj_step HT.out HX.out (by rw [HV.out]; exact logF_some HVM.out hnx hpn hpa)), hide (HX0.out.trans (iq.boxed.mono (by have := HX0.out.size; simp at this; omega)))⟩))
              · have hn3 : decide (m.at_ < p.at_) = true := by simp; omega
                (((go_wp2_with fail); (refine wp_region_calm (by kernel_rfl) (by kernel_rfl) ?_; (repeat (first | go_big_quiet_skip | (go_big_quiet_want; go_big_quiet_op; (first | go_big_quiet_on | (apply Exists.intro; refine ⟨fun ic => ?_, ?_⟩; (focus (go_at_call 65; refine (validMessage_c m _ _ (H7.out.below ic.boxed) hsz.out).mono ?_; rintro e w2 ⟨rfl, hb⟩; rw [HVM.out]; exact ⟨rfl, Calm.next _ hb⟩; done)); go_big_quiet_on))))); refine wpQuiet_nil ?_; intro wq hwq; obtain ⟨iq, hwe⟩ := hwq; subst hwe); have HBQ := hide (HB.out.trans (iq.boxed.mono HB.out.size)); have hzq := iq.size; simp only [World.size_alloc] at hzq; go_wp2); go_ret; refine ⟨?_, HBQ.out⟩; rw [show validLogB l = false from (by simp only [validLogB, adj_fail (f := logF l.next) HX.out (by rw [HV.out]; exact logF_at (by omega)), Bool.false_and])]; rfl)
            · have hn2 : decide (m.number ≤ p.number) = true := by simp; omega
              (((go_wp2_with fail); (refine wp_region_calm (by kernel_rfl) (by kernel_rfl) ?_; (repeat (first | go_big_quiet_skip | (go_big_quiet_want; go_big_quiet_op; (first | go_big_quiet_on | (apply Exists.intro; refine ⟨fun ic => ?_, ?_⟩; (focus (go_at_call 65; refine (validMessage_c m _ _ (H7.out.below ic.boxed) hsz.out).mono ?_; rintro e w2 ⟨rfl, hb⟩; rw [HVM.out]; exact ⟨rfl, Calm.next _ hb⟩; done)); go_big_quiet_on))))); refine wpQuiet_nil ?_; intro wq hwq; obtain ⟨iq, hwe⟩ := hwq; subst hwe); have HBQ := hide (HB.out.trans (iq.boxed.mono HB.out.size)); have hzq := iq.size; simp only [World.size_alloc] at hzq; go_wp2); go_ret; refine ⟨?_, HBQ.out⟩; rw [show validLogB l = false from (by simp only [validLogB, adj_fail (f := logF l.next) HX.out (by rw [HV.out]; exact logF_num (by omega)), Bool.false_and])]; rfl)
          · have hk1 : decide (0 < k) = false := by simp; omega
            have HV := hide (show prevAt l.messages k = none by unfold prevAt; rw [if_pos (by omega)])
            clear hv hx hra HA h7 hk0
            (((go_wp2_with fail); (refine wp_region_calm (by kernel_rfl) (by kernel_rfl) ?_; (repeat (first | go_big_quiet_skip | (go_big_quiet_want; go_big_quiet_op; (first | go_big_quiet_on | (apply Exists.intro; refine ⟨fun ic => ?_, ?_⟩; (focus (go_at_call 65; refine (validMessage_c m _ _ (H7.out.below ic.boxed) hsz.out).mono ?_; rintro e w2 ⟨rfl, hb⟩; rw [HVM.out]; exact ⟨rfl, Calm.next _ hb⟩; done)); go_big_quiet_on))))); refine wpQuiet_nil ?_; intro wq hwq; obtain ⟨iq, hwe⟩ := hwq; subst hwe); have HBQ := hide (HB.out.trans (iq.boxed.mono HB.out.size)); have hzq := iq.size; simp only [World.size_alloc] at hzq; go_wp2); go_roundg (l.messages.length - (k + 1)); (case measure => omega); (case rel => exact ⟨k + 1, by omega, by omega, by go_num, hide (adj_step HT.out HX.out (by rw [HV.out]; exact logF_none HVM.out hnx)), hide (HX0.out.trans (iq.boxed.mono (by have := HX0.out.size; simp at this; omega)))⟩))
        · have hn1 : decide (l.next ≤ m.number) = true := by simp; omega
          clear hv hx hra HA h7
          (((go_wp2_with fail); (refine wp_region_calm (by kernel_rfl) (by kernel_rfl) ?_; (repeat (first | go_big_quiet_skip | (go_big_quiet_want; go_big_quiet_op; (first | go_big_quiet_on | (apply Exists.intro; refine ⟨fun ic => ?_, ?_⟩; (focus (go_at_call 65; refine (validMessage_c m _ _ (H7.out.below ic.boxed) hsz.out).mono ?_; rintro e w2 ⟨rfl, hb⟩; rw [HVM.out]; exact ⟨rfl, Calm.next _ hb⟩; done)); go_big_quiet_on))))); refine wpQuiet_nil ?_; intro wq hwq; obtain ⟨iq, hwe⟩ := hwq; subst hwe); have HBQ := hide (HB.out.trans (iq.boxed.mono HB.out.size)); have hzq := iq.size; simp only [World.size_alloc] at hzq; go_wp2); go_ret; refine ⟨?_, HBQ.out⟩; rw [show validLogB l = false from (by simp only [validLogB, adj_fail (f := logF l.next) HX.out (logF_next (by omega)), Bool.false_and])]; rfl)
      · have HVM := hide (show validMessageB m = false by simpa using hv)
        clear hv hx hra HA h7
        (((go_wp2_with fail); (refine wp_region_calm (by kernel_rfl) (by kernel_rfl) ?_; (repeat (first | go_big_quiet_skip | (go_big_quiet_want; go_big_quiet_op; (first | go_big_quiet_on | (apply Exists.intro; refine ⟨fun ic => ?_, ?_⟩; (focus (go_at_call 65; refine (validMessage_c m _ _ (H7.out.below ic.boxed) hsz.out).mono ?_; rintro e w2 ⟨rfl, hb⟩; rw [HVM.out]; exact ⟨rfl, Calm.next _ hb⟩; done)); go_big_quiet_on))))); refine wpQuiet_nil ?_; intro wq hwq; obtain ⟨iq, hwe⟩ := hwq; subst hwe); have HBQ := hide (HB.out.trans (iq.boxed.mono HB.out.size)); have hzq := iq.size; simp only [World.size_alloc] at hzq; go_wp2); go_ret; refine ⟨?_, HBQ.out⟩; rw [show validLogB l = false from (by simp only [validLogB, adj_fail (f := logF l.next) HX.out (logF_no HVM.out), Bool.false_and])]; rfl)
    · have : k = l.messages.length := by omega
      subst this
      by_cases h40 : (l.messages.length : Int) ≤ 40
      · have hd4 : decide ((l.messages.length : Int) ≤ 40) = true := by simpa using h40
        have hr := hide (show validLogB l = inB l.next 1 1000000000 by simp only [validLogB, adj_all HT.out, hd4, Bool.true_and])
        clear HA
        go_wp2_with (go_at_call 39; refine (in_c _ _ _ _).mono ?_; rintro e w' ⟨rfl, rfl⟩)
        go_ret
        exact ⟨by rw [hr.out]; rfl, HB.out⟩
      · have hd4 : decide ((l.messages.length : Int) ≤ 40) = false := by simpa using h40
        have hr := hide (show validLogB l = false by simp only [validLogB, hd4, Bool.false_and, Bool.and_false])
        clear HA
        go_wp2_with (go_at_call 39; refine (in_c _ _ _ _).mono ?_; rintro e w' ⟨rfl, rfl⟩)
        go_ret
        exact ⟨by rw [hr.out]; rfl, HB.out⟩
end Go.Proofs.YtadcmiinjepdcaaGreat
