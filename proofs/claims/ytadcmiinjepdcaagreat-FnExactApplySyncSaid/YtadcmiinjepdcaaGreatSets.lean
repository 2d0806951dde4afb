/- Sets: rising numbers. -/
import Derived.Test.YtadcmiinjepdcaaGreatCore
import Derived.Shelf.Abstract
import Derived.Test.YtadcmiinjepdcaaGreatCalm
namespace Go.Proofs.YtadcmiinjepdcaaGreat
open Go Go.RowKit Go.BigFrame
attribute [local go_sem] Calm.cell Calm.frozen
set_option linter.unusedVariables false
set_option linter.unusedSimpArgs false
/-! ### sets -/
theorem rise_no {p : Int → Bool} {x : Int} (h : ¬ p x = true) (q : Option Int) : riseF p x q = false := by simp [riseF, h]
theorem rise_not {p : Int → Bool} {x y : Int} (h : x ≤ y) : riseF p x (some y) = false := by simp [riseF]; intro _; omega
theorem rise_some {p : Int → Bool} {x y : Int} (h : p x = true) (h2 : y < x) : riseF p x (some y) = true := by simp [riseF, h, h2]
theorem rise_none {p : Int → Bool} {x : Int} (h : p x = true) : riseF p x none = true := by simp [riseF, h]
set_option maxHeartbeats 1000000 in
theorem rising_c (g : Nat) (p : Int → Bool) (v : Value) (l : List Int) (w : World) (h : SliceK intD w v l)
    (eg : ∀ args w, (callFunc g args).run Tryz.prog w = .ok (.enter g args) w) (hp : ∀ n W, Calls Tryz.prog g #[.int .i64 n] W fun e W' => e = .returned (.bool (p n)) ∧ W = W') :
    Calls Tryz.prog 108 #[v, .func (.func g) #[] #[]] w fun e w' => e = .returned (.bool (risesB p l)) ∧ Below w.heap.size w w' := by
  obtain ⟨A, c, rfl, hl, hm, hra⟩ := h
  have HA := hide hra
  have HP := hide hp
  clear hra hp
  go_enter Tryz.func108, Tryz.ntmps108
  go_wp2
  go_loopg [9] l.length (fun gg s6 wr => ∃ k : Nat, k ≤ l.length ∧ l.length - k ≤ gg ∧ s6 = .int .i64 k ∧ Hid (∀ j y, j < k → l[j]? = some y → riseF p y (prevAt l j) = true) ∧ Hid (Below w.heap.size w wr))
  case atStart => exact ⟨0, Nat.zero_le _, by omega, rfl, hide (by intro j y hj; omega), Below.refl _ _⟩
  case round =>
    obtain ⟨k, hk, hg, rfl, HT, HB⟩ := hrel
    by_cases hlt : k < l.length
    · obtain ⟨x, hx⟩ : ∃ x, l[k]? = some x := ⟨_, List.getElem?_eq_getElem hlt⟩
      rcases HA.out with rfl | ⟨q, o, rfl, hra⟩
      · simp at hlt
      obtain ⟨hq, hc⟩ := int_at hra HB.out hx
      have HX := hide hx
      by_cases hk0 : 0 < k
      · obtain ⟨y, hy⟩ : ∃ y, l[k - 1]? = some y := ⟨_, List.getElem?_eq_getElem (by omega)⟩
        obtain ⟨_, hd⟩ := int_at hra HB.out hy
        have HV := hide (prevAt_succ hk0 hy)
        have hk1 : (0 : Int) < (k : Int) := by omega
        have hk3 : (1 : Int) ≤ (k : Int) := by omega
        clear hx hra HA hy
        go_wp2_with (go_at_fn g; refine (HP.out _ _).mono ?_; rintro e w' ⟨rfl, rfl⟩)
        all_goals first
        | (
           go_roundg (l.length - (k + 1))
           case measure => omega
           case rel => exact ⟨k + 1, by omega, by omega, by go_num, hide (adj_step HT.out HX.out (by rw [HV.out]; exact rise_some ‹p x = true› ‹y < x›)), HB⟩)
        | (
           go_ret
           refine ⟨?_, HB.out⟩
           rw [show risesB p l = false from adj_fail HX.out (by rw [HV.out]; first | (exact rise_no ‹¬ p x = true› _) | (exact rise_not ‹x ≤ y›))]
           rfl)
      · have hk1 : ¬ (0 : Int) < (k : Int) := by omega
        have HV := hide (show prevAt l k = none by unfold prevAt; rw [if_pos (by omega)])
        clear hx hra HA hk0
        go_wp2_with (go_at_fn g; refine (HP.out _ _).mono ?_; rintro e w' ⟨rfl, rfl⟩)
        all_goals first
        | (
           go_roundg (l.length - (k + 1))
           case measure => omega
           case rel => exact ⟨k + 1, by omega, by omega, by go_num, hide (adj_step HT.out HX.out (by rw [HV.out]; exact rise_none ‹p x = true›)), HB⟩)
        | (
           go_ret
           refine ⟨?_, HB.out⟩
           rw [show risesB p l = false from adj_fail HX.out (by rw [HV.out]; first | (exact rise_no ‹¬ p x = true› _))]
           rfl)
    · have : k = l.length := by omega
      subst this
      have hr := hide (show risesB p l = true from adj_all HT.out)
      go_wp2
      go_ret
      exact ⟨by rw [hr.out]; rfl, HB.out⟩
theorem isMembers_c (v : Value) (l : List Int) (w : World) (h : SliceK intD w v l) :
    Calls Tryz.prog 91 #[v] w fun e w' => e = .returned (.bool (risesB (fun n => inB n 1 1000) l)) ∧ Below w.heap.size w w' := by
  have H := hide h
  clear h
  have eg := enters_of Tryz.func88 (by kernel_rfl) rfl
  go_enter Tryz.func91, Tryz.ntmps91
  go_wp2_with (go_at_call 108; refine (rising_c _ (fun n => inB n 1 1000) _ l _ H.out eg (fun n W => isMember_c n W)).mono ?_; rintro e w1 ⟨rfl, hb⟩; have HB := hide hb; clear hb)
  go_ret
  exact ⟨rfl, HB.out⟩
set_option maxHeartbeats 2000000 in
theorem l00Rises_c (v : Value) (l : List Int) (lo hi : Int) (w : World) (h : SliceK intD w v l) :
    Calls Tryz.prog 107 #[v, .int .i64 lo, .int .i64 hi] w fun e w' => e = .returned (.bool (risesB (fun n => inB n lo hi) l)) ∧ Below w.heap.size w w' := by
  obtain ⟨A, c, rfl, hl, hm, hra⟩ := h
  have HA := hide hra
  clear hra
  go_enter Tryz.func107, Tryz.ntmps107
  go_wp2
  go_loopg [7] l.length (fun gg s6 wr => ∃ k : Nat, k ≤ l.length ∧ l.length - k ≤ gg ∧ s6 = .int .i64 k ∧ Hid (∀ j y, j < k → l[j]? = some y → riseF (fun n => inB n lo hi) y (prevAt l j) = true) ∧ Hid (Below w.heap.size w wr))
  case atStart => exact ⟨0, Nat.zero_le _, by omega, rfl, hide (by intro j y hj; omega), Below.refl _ _⟩
  case round =>
    obtain ⟨k, hk, hg, rfl, HT, HB⟩ := hrel
    by_cases hlt : k < l.length
    · obtain ⟨x, hx⟩ : ∃ x, l[k]? = some x := ⟨_, List.getElem?_eq_getElem hlt⟩
      rcases HA.out with rfl | ⟨q, o, rfl, hra⟩
      · simp at hlt
      obtain ⟨hq, hc⟩ := int_at hra HB.out hx
      have HX := hide hx
      by_cases hpx : inB x lo hi = true
      · by_cases hk0 : 0 < k
        · obtain ⟨y, hy⟩ : ∃ y, l[k - 1]? = some y := ⟨_, List.getElem?_eq_getElem (by omega)⟩
          obtain ⟨_, hd⟩ := int_at hra HB.out hy
          have HV := hide (prevAt_succ hk0 hy)
          have hk1 : decide ((0 : Int) < (k : Int)) = true := by simp; omega
          have hk1' : (0 : Int) < (k : Int) := by omega
          have hk3 : (1 : Int) ≤ (k : Int) := by omega
          have hlt' : (k : Int) < l.length := by omega
          have hk5 : IntKind.i64.wrap ((k : Int) - 1) = (k : Int) - 1 := IntWalk.i64_in _ (by omega)
          have hk6 : (0 : Int) ≤ (k : Int) - 1 := by omega
          have hk7 : ((k : Int) - 1).toNat = k - 1 := by omega
          have HP := hide hpx
          clear hx hra HA hy hpx
          go_wp2
          (refine wp_region_calm (by kernel_rfl) (by kernel_rfl) ?_; (repeat (first | go_big_quiet_skip | (go_big_quiet_want; go_big_quiet_op; (first | go_big_quiet_on | (apply Exists.intro; refine ⟨fun ic => ?_, ?_⟩; (focus (go_at_call 36; refine (l00In_is HP.out _).mono ?_; rintro e w2 ⟨rfl, rfl⟩; exact ⟨rfl, Calm.same _⟩; done)); go_big_quiet_on))))); refine wpQuiet_nil ?_; intro wq hwq; obtain ⟨iq, hwe⟩ := hwq; subst hwe)
          clear hk5 hk6 hk7
          go_wp2
          all_goals first
          | (
           go_roundg (l.length - (k + 1))
           case measure => omega
           case rel => exact ⟨k + 1, by omega, by omega, by go_num, hide (adj_step HT.out HX.out (by rw [HV.out]; exact rise_some HP.out ‹y < x›)), hide (HB.out.trans (iq.below.mono HB.out.size))⟩)
          | (
           go_ret
           refine ⟨?_, HB.out.trans (iq.below.mono HB.out.size)⟩
           rw [show risesB (fun n => inB n lo hi) l = false from adj_fail HX.out (by rw [HV.out]; exact rise_not ‹x ≤ y›)]
           rfl)
        · have hk1 : decide (0 < k) = false := by simp; omega
          have HV := hide (show prevAt l k = none by unfold prevAt; rw [if_pos (by omega)])
          have hlt' : (k : Int) < l.length := by omega
          have HP := hide hpx
          clear hx hra HA hpx hk0
          go_wp2
          (refine wp_region_calm (by kernel_rfl) (by kernel_rfl) ?_; (repeat (first | go_big_quiet_skip | (go_big_quiet_want; go_big_quiet_op; (first | go_big_quiet_on | (apply Exists.intro; refine ⟨fun ic => ?_, ?_⟩; (focus (go_at_call 36; refine (l00In_is HP.out _).mono ?_; rintro e w2 ⟨rfl, rfl⟩; exact ⟨rfl, Calm.same _⟩; done)); go_big_quiet_on))))); refine wpQuiet_nil ?_; intro wq hwq; obtain ⟨iq, hwe⟩ := hwq; subst hwe)
          go_wp2
          (
           go_roundg (l.length - (k + 1))
           case measure => omega
           case rel => exact ⟨k + 1, by omega, by omega, by go_num, hide (adj_step HT.out HX.out (by rw [HV.out]; exact rise_none HP.out)), hide (HB.out.trans (iq.below.mono HB.out.size))⟩)
      · have hpf : inB x lo hi = false := by simpa using hpx
        have HV := hide (show True from trivial)
        have hlt' : (k : Int) < l.length := by omega
        have HP := hide hpf
        have HQ := hide hpx
        clear hx hra HA hpx hpf
        go_wp2
        (refine wp_region_calm (by kernel_rfl) (by kernel_rfl) ?_; (repeat (first | go_big_quiet_skip | (go_big_quiet_want; go_big_quiet_op; (first | go_big_quiet_on | (apply Exists.intro; refine ⟨fun ic => ?_, ?_⟩; (focus (go_at_call 36; refine (l00In_is HP.out _).mono ?_; rintro e w2 ⟨rfl, rfl⟩; exact ⟨rfl, Calm.same _⟩; done)); go_big_quiet_on))))); refine wpQuiet_nil ?_; intro wq hwq; obtain ⟨iq, hwe⟩ := hwq; subst hwe)
        go_wp2
        (
           go_ret
           refine ⟨?_, HB.out.trans (iq.below.mono HB.out.size)⟩
           rw [show risesB (fun n => inB n lo hi) l = false from adj_fail HX.out (by exact rise_no (p := fun n => inB n lo hi) HQ.out _)]
           rfl)
    · have : k = l.length := by omega
      subst this
      have hr := hide (show risesB (fun n => inB n lo hi) l = true from adj_all HT.out)
      go_wp2
      go_ret
      exact ⟨by rw [hr.out]; rfl, HB.out⟩
theorem l01Members_c (v : Value) (l : List Int) (w : World) (h : SliceK intD w v l) :
    Calls Tryz.prog 85 #[v] w fun e w' => e = .returned (.bool (risesB (fun n => inB n 1 1000) l)) ∧ Below w.heap.size w w' := by
  have H := hide h
  clear h
  go_enter Tryz.func85, Tryz.ntmps85
  go_wp2_with (go_at_call 107; refine (l00Rises_c _ l _ _ _ H.out).mono ?_; rintro e w1 ⟨rfl, hb⟩; have HB := hide hb; clear hb)
  go_ret
  exact ⟨rfl, HB.out⟩
end Go.Proofs.YtadcmiinjepdcaaGreat
