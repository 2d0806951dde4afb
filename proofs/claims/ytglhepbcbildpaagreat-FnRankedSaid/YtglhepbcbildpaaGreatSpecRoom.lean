/- Valid rooms: the reference's test. -/
import Derived.Test.YtglhepbcbildpaaGreatValidRoom
namespace Go.Proofs.YtglhepbcbildpaaGreat
open Go Go.RowKit Go.BigFrame
attribute [local go_sem] Calm.cell Calm.frozen
set_option linter.unusedVariables false
set_option linter.unusedSimpArgs false

def membersB (r : Room) : Bool := decide (1 ≤ (r.members.length : Int)) && decide ((r.members.length : Int) ≤ 32) && adjB memF none r.members && ownB r.members
theorem badm {r : Room} {j : Nat} {m : Member} (hx : r.members[j]? = some m) (h : memF m (prevAt r.members j) = false) : membersB r = false := by
  simp only [membersB, adj_fail (f := memF) hx h, Bool.and_false, Bool.false_and]
theorem room_no {r : Room} (h : membersB r = false) : validRoomB r = false := by
  rw [Bool.eq_false_iff] at *
  intro hv; apply h
  simp only [validRoomB, membersB, Bool.and_eq_true] at hv ⊢
  exact ⟨⟨⟨hv.1.1.1.1.1.1.1, hv.1.1.1.1.1.1.2⟩, hv.1.1.1.2⟩, hv.2⟩
set_option maxHeartbeats 16000000 in
set_option maxRecDepth 100000 in
theorem l02Members_c (r : Room) (b o : Nat) (w : World) (hp : RowAt roomD w b o [r]) :
    Calls Tryz.prog 75 #[.pointer (some ⟨b, o, none⟩)] w fun e w' => e = .returned (.bool (membersB r)) ∧ Below w.heap.size w w' := by
  obtain ⟨v1, v2, v3, h1, h2, h3, hbz, hb0, hb1, hb2, hb3⟩ := room_at hp (Below.refl _ _) (j := 0) rfl
  simp only [Nat.zero_mul, Nat.add_zero] at hb0 hb1 hb2 hb3
  obtain ⟨A, c, rfl, hl, hm, hra⟩ := h1
  have HA := hide hra
  clear hra hp h2 h3
  by_cases l1 : 1 ≤ (r.members.length : Int)
  · by_cases l2 : (r.members.length : Int) ≤ 32
    · have l1' : decide ((r.members.length : Int) < 1) = false := by simp; omega
      have l2' : decide ((32 : Int) < (r.members.length : Int)) = false := by simp; omega
      have d1 : decide (1 ≤ (r.members.length : Int)) = true := by simpa using l1
      have d2 : decide ((r.members.length : Int) ≤ 32) = true := by simpa using l2
      go_enter Tryz.func75, Tryz.ntmps75
      go_wp2_with fail
      go_loopg [3, 4] r.members.length (fun gg s3 s4 wr => ∃ k : Nat, k ≤ r.members.length ∧ r.members.length - k ≤ gg ∧ s3 = .int .i64 (roleN (r.members.take k) 3) ∧ s4 = .int .i64 k ∧ Hid (∀ j y, j < k → r.members[j]? = some y → memF y (prevAt r.members j) = true) ∧ Hid (Below w.heap.size w wr))
      case atStart => exact ⟨0, Nat.zero_le _, by omega, by simp [roleN], rfl, hide (by intro j y hj; omega), Below.refl _ _⟩
      case round =>
        obtain ⟨k, hk, hg, rfl, rfl, HT, HB⟩ := hrel
        have hb1 := cell_below HB.out hb1
        have hbr := Nat.lt_of_lt_of_le hbz HB.out.size
        have hbd := roleN_nn (r.members.take k) 3
        have hlen : (r.members.take k).length ≤ 32 := by simp; omega
        have hwr : IntKind.i64.wrap (roleN (r.members.take k) 3 + 1) = roleN (r.members.take k) 3 + 1 := IntWalk.i64_in _ (by omega)
        clear hbd
        by_cases hlt : k < r.members.length
        · obtain ⟨m, hx⟩ : ∃ m, r.members[k]? = some m := ⟨_, List.getElem?_eq_getElem hlt⟩
          rcases HA.out with hnil | ⟨q, o2, rfl, hra⟩
          · rw [hnil] at hlt; simp at hlt
          obtain ⟨hqc, hc0, hc1, hc2, hc3⟩ := member_at hra HB.out hx
          have HX := hide hx
          have HRA := hide hra
          have hlt2 : (k : Int) < (r.members.length : Int) := by omega
          clear hx hra HA
          by_cases a1 : inB m.id 1 1000 = true
          · by_cases a2 : inB m.role 0 3 = true
            · by_cases a3 : inB m.since 0 1000000 = true
              · by_cases a4 : inB m.quiet 0 1000000 = true
                · have HOKM := hide (show memOkB m = true by simp [memOkB, a1, a2, a3, a4])
                  by_cases hk0 : 0 < k
                  · obtain ⟨p, hy⟩ : ∃ p, r.members[k - 1]? = some p := ⟨_, List.getElem?_eq_getElem (by omega)⟩
                    obtain ⟨hqp, hd0, hd1, hd2, hd3⟩ := member_at HRA.out HB.out hy
                    have HPV := hide (prevAt_succ hk0 hy)
                    have hk1 : decide (0 < k) = true := by simp; omega
                    have hk3 : (1 : Int) ≤ (k : Int) := by omega
                    have hk5 : IntKind.i64.wrap ((k : Int) - 1) = (k : Int) - 1 := IntWalk.i64_in _ (by omega)
                    have hk6 : (0 : Int) ≤ (k : Int) - 1 := by omega
                    have hk7 : ((k : Int) - 1).toNat = k - 1 := by omega
                    clear hy
                    by_cases hpo : p.id < m.id
                    · have hpo2 : decide (m.id ≤ p.id) = false := by simp; omega
                      by_cases hown : m.role = 3
                      · have HST := hide (show roleN (r.members.take (k + 1)) 3 = roleN (r.members.take k) 3 + 1 by rw [roleN_step HX.out, if_pos hown])
                        have HOWN := hide hown
                        clear hown
                        go_wp2_with fail
                        (refine wp_region_calm (by kernel_rfl) (by kernel_rfl) ?_; (repeat (first | go_big_quiet_skip | (go_big_quiet_want; go_big_quiet_op; (first | go_big_quiet_on | (apply Exists.intro; refine ⟨fun ic => ?_, ?_⟩; (focus (first | (go_at_call 76; refine (l02Id_c _ _).mono ?_; rintro e w2 ⟨rfl, rfl⟩; exact ⟨rfl, Calm.same _⟩) | (go_at_call 90; refine (l02Role_c _ _).mono ?_; rintro e w2 ⟨rfl, rfl⟩; exact ⟨rfl, Calm.same _⟩) | (go_at_call 77; refine (l02Tick_c _ _).mono ?_; rintro e w2 ⟨rfl, rfl⟩; exact ⟨rfl, Calm.same _⟩); done)); go_big_quiet_on))))); refine wpQuiet_nil ?_; intro wq hwq; obtain ⟨iq, hwe⟩ := hwq; subst hwe)
                        have HB2 := hide (HB.out.trans (iq.below.mono HB.out.size))
                        have hzq := iq.size
                        have hown := HOWN.out
                        go_wp2_with fail
                        go_roundg (r.members.length - (k + 1))
                        case measure => omega
                        case rel => exact ⟨k + 1, by omega, by omega, by rw [HST.out], by go_num, hide (adj_step HT.out HX.out (by rw [HPV.out]; exact memF_some HOKM.out hpo)), HB2⟩
                      · have HST := hide (show roleN (r.members.take (k + 1)) 3 = roleN (r.members.take k) 3 by rw [roleN_step HX.out, if_neg hown]; omega)
                        have HOWN := hide hown
                        clear hown
                        go_wp2_with fail
                        (refine wp_region_calm (by kernel_rfl) (by kernel_rfl) ?_; (repeat (first | go_big_quiet_skip | (go_big_quiet_want; go_big_quiet_op; (first | go_big_quiet_on | (apply Exists.intro; refine ⟨fun ic => ?_, ?_⟩; (focus (first | (go_at_call 76; refine (l02Id_c _ _).mono ?_; rintro e w2 ⟨rfl, rfl⟩; exact ⟨rfl, Calm.same _⟩) | (go_at_call 90; refine (l02Role_c _ _).mono ?_; rintro e w2 ⟨rfl, rfl⟩; exact ⟨rfl, Calm.same _⟩) | (go_at_call 77; refine (l02Tick_c _ _).mono ?_; rintro e w2 ⟨rfl, rfl⟩; exact ⟨rfl, Calm.same _⟩); done)); go_big_quiet_on))))); refine wpQuiet_nil ?_; intro wq hwq; obtain ⟨iq, hwe⟩ := hwq; subst hwe)
                        have HB2 := hide (HB.out.trans (iq.below.mono HB.out.size))
                        have hzq := iq.size
                        have hown := HOWN.out
                        go_wp2_with fail
                        go_roundg (r.members.length - (k + 1))
                        case measure => omega
                        case rel => exact ⟨k + 1, by omega, by omega, by rw [HST.out], by go_num, hide (adj_step HT.out HX.out (by rw [HPV.out]; exact memF_some HOKM.out hpo)), HB2⟩
                    · have hpo2 : decide (m.id ≤ p.id) = true := by simp; omega
                      go_wp2_with fail
                      (refine wp_region_calm (by kernel_rfl) (by kernel_rfl) ?_; (repeat (first | go_big_quiet_skip | (go_big_quiet_want; go_big_quiet_op; (first | go_big_quiet_on | (apply Exists.intro; refine ⟨fun ic => ?_, ?_⟩; (focus (first | (go_at_call 76; refine (l02Id_c _ _).mono ?_; rintro e w2 ⟨rfl, rfl⟩; exact ⟨rfl, Calm.same _⟩) | (go_at_call 90; refine (l02Role_c _ _).mono ?_; rintro e w2 ⟨rfl, rfl⟩; exact ⟨rfl, Calm.same _⟩) | (go_at_call 77; refine (l02Tick_c _ _).mono ?_; rintro e w2 ⟨rfl, rfl⟩; exact ⟨rfl, Calm.same _⟩); done)); go_big_quiet_on))))); refine wpQuiet_nil ?_; intro wq hwq; obtain ⟨iq, hwe⟩ := hwq; subst hwe)
                      have HB2 := hide (HB.out.trans (iq.below.mono HB.out.size))
                      have hzq := iq.size
                      go_wp2_with fail
                      go_ret
                      exact ⟨by rw [show membersB r = false from badm HX.out (by rw [HPV.out]; exact memF_ord (by omega))]; rfl, HB2.out⟩
                  · have hk1 : decide (0 < k) = false := by simp; omega
                    have HPV := hide (show prevAt r.members k = none by unfold prevAt; rw [if_pos (by omega)])
                    clear hk0
                    by_cases hown : m.role = 3
                    · have HST := hide (show roleN (r.members.take (k + 1)) 3 = roleN (r.members.take k) 3 + 1 by rw [roleN_step HX.out, if_pos hown])
                      have HOWN := hide hown
                      clear hown
                      go_wp2_with fail
                      (refine wp_region_calm (by kernel_rfl) (by kernel_rfl) ?_; (repeat (first | go_big_quiet_skip | (go_big_quiet_want; go_big_quiet_op; (first | go_big_quiet_on | (apply Exists.intro; refine ⟨fun ic => ?_, ?_⟩; (focus (first | (go_at_call 76; refine (l02Id_c _ _).mono ?_; rintro e w2 ⟨rfl, rfl⟩; exact ⟨rfl, Calm.same _⟩) | (go_at_call 90; refine (l02Role_c _ _).mono ?_; rintro e w2 ⟨rfl, rfl⟩; exact ⟨rfl, Calm.same _⟩) | (go_at_call 77; refine (l02Tick_c _ _).mono ?_; rintro e w2 ⟨rfl, rfl⟩; exact ⟨rfl, Calm.same _⟩); done)); go_big_quiet_on))))); refine wpQuiet_nil ?_; intro wq hwq; obtain ⟨iq, hwe⟩ := hwq; subst hwe)
                      have HB2 := hide (HB.out.trans (iq.below.mono HB.out.size))
                      have hzq := iq.size
                      have hown := HOWN.out
                      go_wp2_with fail
                      go_roundg (r.members.length - (k + 1))
                      case measure => omega
                      case rel => exact ⟨k + 1, by omega, by omega, by rw [HST.out], by go_num, hide (adj_step HT.out HX.out (by rw [HPV.out]; exact memF_none HOKM.out)), HB2⟩
                    · have HST := hide (show roleN (r.members.take (k + 1)) 3 = roleN (r.members.take k) 3 by rw [roleN_step HX.out, if_neg hown]; omega)
                      have HOWN := hide hown
                      clear hown
                      go_wp2_with fail
                      (refine wp_region_calm (by kernel_rfl) (by kernel_rfl) ?_; (repeat (first | go_big_quiet_skip | (go_big_quiet_want; go_big_quiet_op; (first | go_big_quiet_on | (apply Exists.intro; refine ⟨fun ic => ?_, ?_⟩; (focus (first | (go_at_call 76; refine (l02Id_c _ _).mono ?_; rintro e w2 ⟨rfl, rfl⟩; exact ⟨rfl, Calm.same _⟩) | (go_at_call 90; refine (l02Role_c _ _).mono ?_; rintro e w2 ⟨rfl, rfl⟩; exact ⟨rfl, Calm.same _⟩) | (go_at_call 77; refine (l02Tick_c _ _).mono ?_; rintro e w2 ⟨rfl, rfl⟩; exact ⟨rfl, Calm.same _⟩); done)); go_big_quiet_on))))); refine wpQuiet_nil ?_; intro wq hwq; obtain ⟨iq, hwe⟩ := hwq; subst hwe)
                      have HB2 := hide (HB.out.trans (iq.below.mono HB.out.size))
                      have hzq := iq.size
                      have hown := HOWN.out
                      go_wp2_with fail
                      go_roundg (r.members.length - (k + 1))
                      case measure => omega
                      case rel => exact ⟨k + 1, by omega, by omega, by rw [HST.out], by go_num, hide (adj_step HT.out HX.out (by rw [HPV.out]; exact memF_none HOKM.out)), HB2⟩
                · have a4 : inB m.quiet 0 1000000 = false := by simpa using a4
                  have HNO := hide (show memOkB m = false by simp [memOkB, a4])
                  go_wp2_with fail
                  (refine wp_region_calm (by kernel_rfl) (by kernel_rfl) ?_; (repeat (first | go_big_quiet_skip | (go_big_quiet_want; go_big_quiet_op; (first | go_big_quiet_on | (apply Exists.intro; refine ⟨fun ic => ?_, ?_⟩; (focus (first | (go_at_call 76; refine (l02Id_c _ _).mono ?_; rintro e w2 ⟨rfl, rfl⟩; exact ⟨rfl, Calm.same _⟩) | (go_at_call 90; refine (l02Role_c _ _).mono ?_; rintro e w2 ⟨rfl, rfl⟩; exact ⟨rfl, Calm.same _⟩) | (go_at_call 77; refine (l02Tick_c _ _).mono ?_; rintro e w2 ⟨rfl, rfl⟩; exact ⟨rfl, Calm.same _⟩); done)); go_big_quiet_on))))); refine wpQuiet_nil ?_; intro wq hwq; obtain ⟨iq, hwe⟩ := hwq; subst hwe)
                  have HB2 := hide (HB.out.trans (iq.below.mono HB.out.size))
                  have hzq := iq.size
                  go_wp2_with fail
                  go_ret
                  exact ⟨by rw [show membersB r = false from badm HX.out (memF_no HNO.out)]; rfl, HB2.out⟩
              · have a3 : inB m.since 0 1000000 = false := by simpa using a3
                have HNO := hide (show memOkB m = false by simp [memOkB, a3])
                go_wp2_with fail
                (refine wp_region_calm (by kernel_rfl) (by kernel_rfl) ?_; (repeat (first | go_big_quiet_skip | (go_big_quiet_want; go_big_quiet_op; (first | go_big_quiet_on | (apply Exists.intro; refine ⟨fun ic => ?_, ?_⟩; (focus (first | (go_at_call 76; refine (l02Id_c _ _).mono ?_; rintro e w2 ⟨rfl, rfl⟩; exact ⟨rfl, Calm.same _⟩) | (go_at_call 90; refine (l02Role_c _ _).mono ?_; rintro e w2 ⟨rfl, rfl⟩; exact ⟨rfl, Calm.same _⟩) | (go_at_call 77; refine (l02Tick_c _ _).mono ?_; rintro e w2 ⟨rfl, rfl⟩; exact ⟨rfl, Calm.same _⟩); done)); go_big_quiet_on))))); refine wpQuiet_nil ?_; intro wq hwq; obtain ⟨iq, hwe⟩ := hwq; subst hwe)
                have HB2 := hide (HB.out.trans (iq.below.mono HB.out.size))
                have hzq := iq.size
                go_wp2_with fail
                go_ret
                exact ⟨by rw [show membersB r = false from badm HX.out (memF_no HNO.out)]; rfl, HB2.out⟩
            · have a2 : inB m.role 0 3 = false := by simpa using a2
              have HNO := hide (show memOkB m = false by simp [memOkB, a2])
              go_wp2_with fail
              (refine wp_region_calm (by kernel_rfl) (by kernel_rfl) ?_; (repeat (first | go_big_quiet_skip | (go_big_quiet_want; go_big_quiet_op; (first | go_big_quiet_on | (apply Exists.intro; refine ⟨fun ic => ?_, ?_⟩; (focus (first | (go_at_call 76; refine (l02Id_c _ _).mono ?_; rintro e w2 ⟨rfl, rfl⟩; exact ⟨rfl, Calm.same _⟩) | (go_at_call 90; refine (l02Role_c _ _).mono ?_; rintro e w2 ⟨rfl, rfl⟩; exact ⟨rfl, Calm.same _⟩) | (go_at_call 77; refine (l02Tick_c _ _).mono ?_; rintro e w2 ⟨rfl, rfl⟩; exact ⟨rfl, Calm.same _⟩); done)); go_big_quiet_on))))); refine wpQuiet_nil ?_; intro wq hwq; obtain ⟨iq, hwe⟩ := hwq; subst hwe)
              have HB2 := hide (HB.out.trans (iq.below.mono HB.out.size))
              have hzq := iq.size
              go_wp2_with fail
              go_ret
              exact ⟨by rw [show membersB r = false from badm HX.out (memF_no HNO.out)]; rfl, HB2.out⟩
          · have a1 : inB m.id 1 1000 = false := by simpa using a1
            have HNO := hide (show memOkB m = false by simp [memOkB, a1])
            go_wp2_with fail
            (refine wp_region_calm (by kernel_rfl) (by kernel_rfl) ?_; (repeat (first | go_big_quiet_skip | (go_big_quiet_want; go_big_quiet_op; (first | go_big_quiet_on | (apply Exists.intro; refine ⟨fun ic => ?_, ?_⟩; (focus (first | (go_at_call 76; refine (l02Id_c _ _).mono ?_; rintro e w2 ⟨rfl, rfl⟩; exact ⟨rfl, Calm.same _⟩) | (go_at_call 90; refine (l02Role_c _ _).mono ?_; rintro e w2 ⟨rfl, rfl⟩; exact ⟨rfl, Calm.same _⟩) | (go_at_call 77; refine (l02Tick_c _ _).mono ?_; rintro e w2 ⟨rfl, rfl⟩; exact ⟨rfl, Calm.same _⟩); done)); go_big_quiet_on))))); refine wpQuiet_nil ?_; intro wq hwq; obtain ⟨iq, hwe⟩ := hwq; subst hwe)
            have HB2 := hide (HB.out.trans (iq.below.mono HB.out.size))
            have hzq := iq.size
            go_wp2_with fail
            go_ret
            exact ⟨by rw [show membersB r = false from badm HX.out (memF_no HNO.out)]; rfl, HB2.out⟩
        · have : k = r.members.length := by omega
          subst this
          have HALL := hide (show adjB memF none r.members = true from adj_all HT.out)
          rw [List.take_length] at *
          go_wp2_with fail
          go_ret
          exact ⟨ret_bool (by simp only [membersB, HALL.out, ← roleN_own, d1, d2, Bool.true_and]), HB.out⟩
    · have l1' : decide ((r.members.length : Int) < 1) = false := by simp; omega
      have l2' : decide ((32 : Int) < (r.members.length : Int)) = true := by simp; omega
      have hr := hide (show membersB r = false by simp only [membersB, decide_eq_false l2, Bool.and_false, Bool.false_and])
      go_enter Tryz.func75, Tryz.ntmps75
      go_wp2_with fail
      go_ret
      exact ⟨by rw [hr.out]; rfl, Below.refl _ _⟩
  · have l1' : decide ((r.members.length : Int) < 1) = true := by simp; omega
    have hr := hide (show membersB r = false by simp only [membersB, decide_eq_false l1, Bool.and_false, Bool.false_and])
    go_enter Tryz.func75, Tryz.ntmps75
    go_wp2_with fail
    go_ret
    exact ⟨by rw [hr.out]; rfl, Below.refl _ _⟩
set_option maxHeartbeats 16000000 in
set_option maxRecDepth 100000 in
theorem l02Is_c (r : Room) (b o : Nat) (w : World) (hp : RowAt roomD w b o [r]) :
    Calls Tryz.prog 39 #[.pointer (some ⟨b, o, none⟩)] w fun e w' => e = .returned (.bool (validRoomB r)) ∧ Below w.heap.size w w' := by
  obtain ⟨v1, v2, v3, h1, h2, h3, hbz, hb0, hb1, hb2, hb3⟩ := room_at hp (Below.refl _ _) (j := 0) rfl
  simp only [Nat.zero_mul, Nat.add_zero] at hb0 hb1 hb2 hb3
  obtain ⟨A1, c1, rfl⟩ := h1.shape
  obtain ⟨A2, c2, rfl, hl2, hm2, hr2⟩ := h2
  obtain ⟨A3, c3, rfl, hl3, hm3, hr3⟩ := h3
  have HP := hide hp
  have HR2 := hide hr2
  have HR3 := hide hr3
  have HBC := hide (And.intro hb1 (And.intro hb2 hb3))
  clear hr2 hr3 hp h1 hb0 hb1 hb2 hb3
  by_cases hmb : membersB r = true
  · have HMB := hide hmb
    clear hmb
    by_cases l2 : (r.invites.length : Int) ≤ 16
    · have l2' : decide ((16 : Int) < (r.invites.length : Int)) = false := by simp; omega
      by_cases l3 : (r.bans.length : Int) ≤ 16
      · have l3' : decide ((16 : Int) < (r.bans.length : Int)) = false := by simp; omega
        have HL := hide (And.intro l2 l3)
        go_enter Tryz.func39, Tryz.ntmps39
        go_wp2_with (
          go_at_call 75
          refine (l02Members_c r _ _ _ HP.out).mono ?_
          rintro e w1 ⟨rfl, hb⟩
          rw [HMB.out]
          have HBS := hide hb
          have b1 := cell_below hb HBC.out.1
          have b2 := cell_below hb HBC.out.2.1
          have b3 := cell_below hb HBC.out.2.2
          clear hb)
        clear b1 b2 b3
        go_loopg [3] r.invites.length (fun gg sk wv => ∃ k : Nat, k ≤ r.invites.length ∧ r.invites.length - k ≤ gg ∧ sk = .int .i64 k ∧ Hid (∀ j y, j < k → r.invites[j]? = some y → invF r y (prevAt r.invites j) = true) ∧ Hid (Below w.heap.size w wv))
        case atStart => exact ⟨0, Nat.zero_le _, by omega, rfl, hide (by intro j y hj; omega), HBS⟩
        case round =>
          obtain ⟨k, hk, hg, rfl, HT, HB⟩ := hrel
          clear HBS
          have b1 := cell_below HB.out HBC.out.1
          have b2 := cell_below HB.out HBC.out.2.1
          have b3 := cell_below HB.out HBC.out.2.2
          have hbr := Nat.lt_of_lt_of_le hbz HB.out.size
          by_cases hlt : k < r.invites.length
          · obtain ⟨m, hx⟩ : ∃ m, r.invites[k]? = some m := ⟨_, List.getElem?_eq_getElem hlt⟩
            rcases HR2.out with hnil | ⟨q, o2, rfl, hra⟩
            · rw [hnil] at hlt; simp at hlt
            obtain ⟨hq, hc0, hc1, hc2⟩ := invite_at hra HB.out hx
            have HX := hide hx
            have HRA := hide hra
            have hlt2 : (k : Int) < (r.invites.length : Int) := by omega
            clear hx hra
            by_cases a1 : inB m.id 1 1000 = true
            · by_cases a2 : inB m.by_ 1 1000 = true
              · by_cases a3 : inB m.until_ 0 1000000 = true
                · by_cases hk0 : 0 < k
                  · obtain ⟨p, hy⟩ : ∃ p, r.invites[k - 1]? = some p := ⟨_, List.getElem?_eq_getElem (by omega)⟩
                    obtain ⟨hqp, hd0, hd1, hd2⟩ := invite_at HRA.out HB.out hy
                    have HPV := hide (prevAt_succ hk0 hy)
                    have hk1 : decide (0 < k) = true := by simp; omega
                    have hk3 : (1 : Int) ≤ (k : Int) := by omega
                    have hk5 : IntKind.i64.wrap ((k : Int) - 1) = (k : Int) - 1 := IntWalk.i64_in _ (by omega)
                    have hk6 : (0 : Int) ≤ (k : Int) - 1 := by omega
                    have hk7 : ((k : Int) - 1).toNat = k - 1 := by omega
                    clear hy
                    by_cases hpo : p.id < m.id
                    · have hpo2 : decide (m.id ≤ p.id) = false := by simp; omega
                      by_cases a4 : decide (0 ≤ idxP (idIs m.id) r.members) = true
                      · have HNO := hide (show invOkB r m = false by simp only [invOkB, hasId, invd, a4, Bool.not_true, Bool.and_false, Bool.false_and])
                        go_wp2_with fail
                        (refine wp_region_calm (by kernel_rfl) (by kernel_rfl) ?_; (repeat (first | go_big_quiet_skip | (go_big_quiet_want; go_big_quiet_op; (first | go_big_quiet_on | (apply Exists.intro; refine ⟨fun ic => ?_, ?_⟩; (focus (first | (go_at_call 76; refine (l02Id_c _ _).mono ?_; rintro e w2 ⟨rfl, rfl⟩; exact ⟨rfl, Calm.same _⟩) | (go_at_call 77; refine (l02Tick_c _ _).mono ?_; rintro e w2 ⟨rfl, rfl⟩; exact ⟨rfl, Calm.same _⟩) | (go_at_call 40; refine (l02Find_c r _ _ _ _ (HP.out.below (HB.out.trans (ic.below.mono HB.out.size)))).mono ?_; rintro e w2 ⟨rfl, hb⟩; exact ⟨rfl, Calm.next _ hb⟩); done)); go_big_quiet_on))))); refine wpQuiet_nil ?_; intro wq hwq; obtain ⟨iq, hwe⟩ := hwq; subst hwe)
                        have HB2 := hide (HB.out.trans (iq.below.mono HB.out.size))
                        have hzq := iq.size
                        go_wp2_with fail
                        go_ret
                        exact ⟨by rw [show validRoomB r = false from bad_inv HX.out (invF_no HNO.out)]; rfl, HB2.out⟩
                      · have a4 : decide (0 ≤ idxP (idIs m.id) r.members) = false := by simpa using a4
                        have HOKM := hide (show invOkB r m = true by simp only [invOkB, hasId, invd, a1, a2, a3, a4]; rfl)
                        go_wp2_with fail
                        (refine wp_region_calm (by kernel_rfl) (by kernel_rfl) ?_; (repeat (first | go_big_quiet_skip | (go_big_quiet_want; go_big_quiet_op; (first | go_big_quiet_on | (apply Exists.intro; refine ⟨fun ic => ?_, ?_⟩; (focus (first | (go_at_call 76; refine (l02Id_c _ _).mono ?_; rintro e w2 ⟨rfl, rfl⟩; exact ⟨rfl, Calm.same _⟩) | (go_at_call 77; refine (l02Tick_c _ _).mono ?_; rintro e w2 ⟨rfl, rfl⟩; exact ⟨rfl, Calm.same _⟩) | (go_at_call 40; refine (l02Find_c r _ _ _ _ (HP.out.below (HB.out.trans (ic.below.mono HB.out.size)))).mono ?_; rintro e w2 ⟨rfl, hb⟩; exact ⟨rfl, Calm.next _ hb⟩); done)); go_big_quiet_on))))); refine wpQuiet_nil ?_; intro wq hwq; obtain ⟨iq, hwe⟩ := hwq; subst hwe)
                        have HB2 := hide (HB.out.trans (iq.below.mono HB.out.size))
                        have hzq := iq.size
                        go_wp2_with fail
                        go_roundg (r.invites.length - (k + 1))
                        case measure => omega
                        case rel => exact ⟨k + 1, by omega, by omega, by go_num, hide (adj_step HT.out HX.out (by rw [HPV.out]; exact invF_some HOKM.out hpo)), HB2⟩
                    · have hpo2 : decide (m.id ≤ p.id) = true := by simp; omega
                      go_wp2_with fail
                      (refine wp_region_calm (by kernel_rfl) (by kernel_rfl) ?_; (repeat (first | go_big_quiet_skip | (go_big_quiet_want; go_big_quiet_op; (first | go_big_quiet_on | (apply Exists.intro; refine ⟨fun ic => ?_, ?_⟩; (focus (first | (go_at_call 76; refine (l02Id_c _ _).mono ?_; rintro e w2 ⟨rfl, rfl⟩; exact ⟨rfl, Calm.same _⟩) | (go_at_call 77; refine (l02Tick_c _ _).mono ?_; rintro e w2 ⟨rfl, rfl⟩; exact ⟨rfl, Calm.same _⟩) | (go_at_call 40; refine (l02Find_c r _ _ _ _ (HP.out.below (HB.out.trans (ic.below.mono HB.out.size)))).mono ?_; rintro e w2 ⟨rfl, hb⟩; exact ⟨rfl, Calm.next _ hb⟩); done)); go_big_quiet_on))))); refine wpQuiet_nil ?_; intro wq hwq; obtain ⟨iq, hwe⟩ := hwq; subst hwe)
                      have HB2 := hide (HB.out.trans (iq.below.mono HB.out.size))
                      have hzq := iq.size
                      go_wp2_with fail
                      go_ret
                      exact ⟨by rw [show validRoomB r = false from bad_inv HX.out (by rw [HPV.out]; exact invF_ord (by omega))]; rfl, HB2.out⟩
                  · have hk1 : decide (0 < k) = false := by simp; omega
                    have HPV := hide (show prevAt r.invites k = none by unfold prevAt; rw [if_pos (by omega)])
                    clear hk0
                    by_cases a4 : decide (0 ≤ idxP (idIs m.id) r.members) = true
                    · have HNO := hide (show invOkB r m = false by simp only [invOkB, hasId, invd, a4, Bool.not_true, Bool.and_false, Bool.false_and])
                      go_wp2_with fail
                      (refine wp_region_calm (by kernel_rfl) (by kernel_rfl) ?_; (repeat (first | go_big_quiet_skip | (go_big_quiet_want; go_big_quiet_op; (first | go_big_quiet_on | (apply Exists.intro; refine ⟨fun ic => ?_, ?_⟩; (focus (first | (go_at_call 76; refine (l02Id_c _ _).mono ?_; rintro e w2 ⟨rfl, rfl⟩; exact ⟨rfl, Calm.same _⟩) | (go_at_call 77; refine (l02Tick_c _ _).mono ?_; rintro e w2 ⟨rfl, rfl⟩; exact ⟨rfl, Calm.same _⟩) | (go_at_call 40; refine (l02Find_c r _ _ _ _ (HP.out.below (HB.out.trans (ic.below.mono HB.out.size)))).mono ?_; rintro e w2 ⟨rfl, hb⟩; exact ⟨rfl, Calm.next _ hb⟩); done)); go_big_quiet_on))))); refine wpQuiet_nil ?_; intro wq hwq; obtain ⟨iq, hwe⟩ := hwq; subst hwe)
                      have HB2 := hide (HB.out.trans (iq.below.mono HB.out.size))
                      have hzq := iq.size
                      go_wp2_with fail
                      go_ret
                      exact ⟨by rw [show validRoomB r = false from bad_inv HX.out (invF_no HNO.out)]; rfl, HB2.out⟩
                    · have a4 : decide (0 ≤ idxP (idIs m.id) r.members) = false := by simpa using a4
                      have HOKM := hide (show invOkB r m = true by simp only [invOkB, hasId, invd, a1, a2, a3, a4]; rfl)
                      go_wp2_with fail
                      (refine wp_region_calm (by kernel_rfl) (by kernel_rfl) ?_; (repeat (first | go_big_quiet_skip | (go_big_quiet_want; go_big_quiet_op; (first | go_big_quiet_on | (apply Exists.intro; refine ⟨fun ic => ?_, ?_⟩; (focus (first | (go_at_call 76; refine (l02Id_c _ _).mono ?_; rintro e w2 ⟨rfl, rfl⟩; exact ⟨rfl, Calm.same _⟩) | (go_at_call 77; refine (l02Tick_c _ _).mono ?_; rintro e w2 ⟨rfl, rfl⟩; exact ⟨rfl, Calm.same _⟩) | (go_at_call 40; refine (l02Find_c r _ _ _ _ (HP.out.below (HB.out.trans (ic.below.mono HB.out.size)))).mono ?_; rintro e w2 ⟨rfl, hb⟩; exact ⟨rfl, Calm.next _ hb⟩); done)); go_big_quiet_on))))); refine wpQuiet_nil ?_; intro wq hwq; obtain ⟨iq, hwe⟩ := hwq; subst hwe)
                      have HB2 := hide (HB.out.trans (iq.below.mono HB.out.size))
                      have hzq := iq.size
                      go_wp2_with fail
                      go_roundg (r.invites.length - (k + 1))
                      case measure => omega
                      case rel => exact ⟨k + 1, by omega, by omega, by go_num, hide (adj_step HT.out HX.out (by rw [HPV.out]; exact invF_none HOKM.out)), HB2⟩
                · have a3 : inB m.until_ 0 1000000 = false := by simpa using a3
                  have HNO := hide (show invOkB r m = false by simp [invOkB, a3])
                  go_wp2_with fail
                  (refine wp_region_calm (by kernel_rfl) (by kernel_rfl) ?_; (repeat (first | go_big_quiet_skip | (go_big_quiet_want; go_big_quiet_op; (first | go_big_quiet_on | (apply Exists.intro; refine ⟨fun ic => ?_, ?_⟩; (focus (first | (go_at_call 76; refine (l02Id_c _ _).mono ?_; rintro e w2 ⟨rfl, rfl⟩; exact ⟨rfl, Calm.same _⟩) | (go_at_call 77; refine (l02Tick_c _ _).mono ?_; rintro e w2 ⟨rfl, rfl⟩; exact ⟨rfl, Calm.same _⟩) | (go_at_call 40; refine (l02Find_c r _ _ _ _ (HP.out.below (HB.out.trans (ic.below.mono HB.out.size)))).mono ?_; rintro e w2 ⟨rfl, hb⟩; exact ⟨rfl, Calm.next _ hb⟩); done)); go_big_quiet_on))))); refine wpQuiet_nil ?_; intro wq hwq; obtain ⟨iq, hwe⟩ := hwq; subst hwe)
                  have HB2 := hide (HB.out.trans (iq.below.mono HB.out.size))
                  have hzq := iq.size
                  go_wp2_with fail
                  go_ret
                  exact ⟨by rw [show validRoomB r = false from bad_inv HX.out (invF_no HNO.out)]; rfl, HB2.out⟩
              · have a2 : inB m.by_ 1 1000 = false := by simpa using a2
                have HNO := hide (show invOkB r m = false by simp [invOkB, a2])
                go_wp2_with fail
                (refine wp_region_calm (by kernel_rfl) (by kernel_rfl) ?_; (repeat (first | go_big_quiet_skip | (go_big_quiet_want; go_big_quiet_op; (first | go_big_quiet_on | (apply Exists.intro; refine ⟨fun ic => ?_, ?_⟩; (focus (first | (go_at_call 76; refine (l02Id_c _ _).mono ?_; rintro e w2 ⟨rfl, rfl⟩; exact ⟨rfl, Calm.same _⟩) | (go_at_call 77; refine (l02Tick_c _ _).mono ?_; rintro e w2 ⟨rfl, rfl⟩; exact ⟨rfl, Calm.same _⟩) | (go_at_call 40; refine (l02Find_c r _ _ _ _ (HP.out.below (HB.out.trans (ic.below.mono HB.out.size)))).mono ?_; rintro e w2 ⟨rfl, hb⟩; exact ⟨rfl, Calm.next _ hb⟩); done)); go_big_quiet_on))))); refine wpQuiet_nil ?_; intro wq hwq; obtain ⟨iq, hwe⟩ := hwq; subst hwe)
                have HB2 := hide (HB.out.trans (iq.below.mono HB.out.size))
                have hzq := iq.size
                go_wp2_with fail
                go_ret
                exact ⟨by rw [show validRoomB r = false from bad_inv HX.out (invF_no HNO.out)]; rfl, HB2.out⟩
            · have a1 : inB m.id 1 1000 = false := by simpa using a1
              have HNO := hide (show invOkB r m = false by simp [invOkB, a1])
              go_wp2_with fail
              (refine wp_region_calm (by kernel_rfl) (by kernel_rfl) ?_; (repeat (first | go_big_quiet_skip | (go_big_quiet_want; go_big_quiet_op; (first | go_big_quiet_on | (apply Exists.intro; refine ⟨fun ic => ?_, ?_⟩; (focus (first | (go_at_call 76; refine (l02Id_c _ _).mono ?_; rintro e w2 ⟨rfl, rfl⟩; exact ⟨rfl, Calm.same _⟩) | (go_at_call 77; refine (l02Tick_c _ _).mono ?_; rintro e w2 ⟨rfl, rfl⟩; exact ⟨rfl, Calm.same _⟩) | (go_at_call 40; refine (l02Find_c r _ _ _ _ (HP.out.below (HB.out.trans (ic.below.mono HB.out.size)))).mono ?_; rintro e w2 ⟨rfl, hb⟩; exact ⟨rfl, Calm.next _ hb⟩); done)); go_big_quiet_on))))); refine wpQuiet_nil ?_; intro wq hwq; obtain ⟨iq, hwe⟩ := hwq; subst hwe)
              have HB2 := hide (HB.out.trans (iq.below.mono HB.out.size))
              have hzq := iq.size
              go_wp2_with fail
              go_ret
              exact ⟨by rw [show validRoomB r = false from bad_inv HX.out (invF_no HNO.out)]; rfl, HB2.out⟩
          · have : k = r.invites.length := by omega
            subst this
            have HALL2 := hide (show adjB (invF r) none r.invites = true from adj_all HT.out)
            have HBS := HB
            clear HT HB
            go_wp2_with fail
            go_loopg [5] r.bans.length (fun gg sk wx => ∃ k : Nat, k ≤ r.bans.length ∧ r.bans.length - k ≤ gg ∧ sk = .int .i64 k ∧ Hid (∀ j y, j < k → r.bans[j]? = some y → banF r y (prevAt r.bans j) = true) ∧ Hid (Below w.heap.size w wx))
            case atStart => exact ⟨0, Nat.zero_le _, by omega, rfl, hide (by intro j y hj; omega), HBS⟩
            case round =>
              obtain ⟨k, hk, hg, rfl, HT, HB⟩ := hrel
              clear HBS
              have b1 := cell_below HB.out HBC.out.1
              have b2 := cell_below HB.out HBC.out.2.1
              have b3 := cell_below HB.out HBC.out.2.2
              have hbr := Nat.lt_of_lt_of_le hbz HB.out.size
              by_cases hlt : k < r.bans.length
              · obtain ⟨m, hx⟩ : ∃ m, r.bans[k]? = some m := ⟨_, List.getElem?_eq_getElem hlt⟩
                rcases HR3.out with hnil | ⟨q, o2, rfl, hra⟩
                · rw [hnil] at hlt; simp at hlt
                obtain ⟨hq, hc0, hc1⟩ := ban_at hra HB.out hx
                have HX := hide hx
                have HRA := hide hra
                have hlt2 : (k : Int) < (r.bans.length : Int) := by omega
                clear hx hra
                by_cases a1 : inB m.id 1 1000 = true
                · by_cases a2 : inB m.until_ 0 1000000 = true
                  · by_cases hk0 : 0 < k
                    · obtain ⟨p, hy⟩ : ∃ p, r.bans[k - 1]? = some p := ⟨_, List.getElem?_eq_getElem (by omega)⟩
                      obtain ⟨hqp, hd0, hd1⟩ := ban_at HRA.out HB.out hy
                      have HPV := hide (prevAt_succ hk0 hy)
                      have hk1 : decide (0 < k) = true := by simp; omega
                      have hk3 : (1 : Int) ≤ (k : Int) := by omega
                      have hk5 : IntKind.i64.wrap ((k : Int) - 1) = (k : Int) - 1 := IntWalk.i64_in _ (by omega)
                      have hk6 : (0 : Int) ≤ (k : Int) - 1 := by omega
                      have hk7 : ((k : Int) - 1).toNat = k - 1 := by omega
                      clear hy
                      by_cases hpo : p.id < m.id
                      · have hpo2 : decide (m.id ≤ p.id) = false := by simp; omega
                        by_cases a3 : decide (0 ≤ idxP (idIs m.id) r.members) = true
                        · have HNO := hide (show banOkB r m = false by simp only [banOkB, hasId, invd, a3, Bool.not_true, Bool.and_false, Bool.false_and])
                          go_wp2_with fail
                          (refine wp_region_calm (by kernel_rfl) (by kernel_rfl) ?_; (repeat (first | go_big_quiet_skip | (go_big_quiet_want; go_big_quiet_op; (first | go_big_quiet_on | (apply Exists.intro; refine ⟨fun ic => ?_, ?_⟩; (focus (first | (go_at_call 76; refine (l02Id_c _ _).mono ?_; rintro e w2 ⟨rfl, rfl⟩; exact ⟨rfl, Calm.same _⟩) | (go_at_call 77; refine (l02Tick_c _ _).mono ?_; rintro e w2 ⟨rfl, rfl⟩; exact ⟨rfl, Calm.same _⟩) | (go_at_call 40; refine (l02Find_c r _ _ _ _ (HP.out.below (HB.out.trans (ic.below.mono HB.out.size)))).mono ?_; rintro e w2 ⟨rfl, hb⟩; exact ⟨rfl, Calm.next _ hb⟩) | (go_at_call 78; refine (l02Invited_c r _ _ _ _ (HP.out.below (HB.out.trans (ic.below.mono HB.out.size)))).mono ?_; rintro e w2 ⟨rfl, hb⟩; exact ⟨rfl, Calm.next _ hb⟩); done)); go_big_quiet_on))))); refine wpQuiet_nil ?_; intro wq hwq; obtain ⟨iq, hwe⟩ := hwq; subst hwe)
                          have HB2 := hide (HB.out.trans (iq.below.mono HB.out.size))
                          have hzq := iq.size
                          go_wp2_with fail
                          go_ret
                          exact ⟨by rw [show validRoomB r = false from bad_ban HX.out (banF_no HNO.out)]; rfl, HB2.out⟩
                        · have a3 : decide (0 ≤ idxP (idIs m.id) r.members) = false := by simpa using a3
                          by_cases a4 : decide (0 ≤ idxP (invIs m.id) r.invites) = true
                          · have HNO := hide (show banOkB r m = false by simp only [banOkB, hasId, invd, a4, Bool.not_true, Bool.and_false, Bool.false_and])
                            go_wp2_with fail
                            (refine wp_region_calm (by kernel_rfl) (by kernel_rfl) ?_; (repeat (first | go_big_quiet_skip | (go_big_quiet_want; go_big_quiet_op; (first | go_big_quiet_on | (apply Exists.intro; refine ⟨fun ic => ?_, ?_⟩; (focus (first | (go_at_call 76; refine (l02Id_c _ _).mono ?_; rintro e w2 ⟨rfl, rfl⟩; exact ⟨rfl, Calm.same _⟩) | (go_at_call 77; refine (l02Tick_c _ _).mono ?_; rintro e w2 ⟨rfl, rfl⟩; exact ⟨rfl, Calm.same _⟩) | (go_at_call 40; refine (l02Find_c r _ _ _ _ (HP.out.below (HB.out.trans (ic.below.mono HB.out.size)))).mono ?_; rintro e w2 ⟨rfl, hb⟩; exact ⟨rfl, Calm.next _ hb⟩) | (go_at_call 78; refine (l02Invited_c r _ _ _ _ (HP.out.below (HB.out.trans (ic.below.mono HB.out.size)))).mono ?_; rintro e w2 ⟨rfl, hb⟩; exact ⟨rfl, Calm.next _ hb⟩); done)); go_big_quiet_on))))); refine wpQuiet_nil ?_; intro wq hwq; obtain ⟨iq, hwe⟩ := hwq; subst hwe)
                            have HB2 := hide (HB.out.trans (iq.below.mono HB.out.size))
                            have hzq := iq.size
                            go_wp2_with fail
                            go_ret
                            exact ⟨by rw [show validRoomB r = false from bad_ban HX.out (banF_no HNO.out)]; rfl, HB2.out⟩
                          · have a4 : decide (0 ≤ idxP (invIs m.id) r.invites) = false := by simpa using a4
                            have HOKM := hide (show banOkB r m = true by simp only [banOkB, hasId, invd, a1, a2, a3, a4]; rfl)
                            go_wp2_with fail
                            (refine wp_region_calm (by kernel_rfl) (by kernel_rfl) ?_; (repeat (first | go_big_quiet_skip | (go_big_quiet_want; go_big_quiet_op; (first | go_big_quiet_on | (apply Exists.intro; refine ⟨fun ic => ?_, ?_⟩; (focus (first | (go_at_call 76; refine (l02Id_c _ _).mono ?_; rintro e w2 ⟨rfl, rfl⟩; exact ⟨rfl, Calm.same _⟩) | (go_at_call 77; refine (l02Tick_c _ _).mono ?_; rintro e w2 ⟨rfl, rfl⟩; exact ⟨rfl, Calm.same _⟩) | (go_at_call 40; refine (l02Find_c r _ _ _ _ (HP.out.below (HB.out.trans (ic.below.mono HB.out.size)))).mono ?_; rintro e w2 ⟨rfl, hb⟩; exact ⟨rfl, Calm.next _ hb⟩) | (go_at_call 78; refine (l02Invited_c r _ _ _ _ (HP.out.below (HB.out.trans (ic.below.mono HB.out.size)))).mono ?_; rintro e w2 ⟨rfl, hb⟩; exact ⟨rfl, Calm.next _ hb⟩); done)); go_big_quiet_on))))); refine wpQuiet_nil ?_; intro wq hwq; obtain ⟨iq, hwe⟩ := hwq; subst hwe)
                            have HB2 := hide (HB.out.trans (iq.below.mono HB.out.size))
                            have hzq := iq.size
                            go_wp2_with fail
                            go_roundg (r.bans.length - (k + 1))
                            case measure => omega
                            case rel => exact ⟨k + 1, by omega, by omega, by go_num, hide (adj_step HT.out HX.out (by rw [HPV.out]; exact banF_some HOKM.out hpo)), HB2⟩
                      · have hpo2 : decide (m.id ≤ p.id) = true := by simp; omega
                        go_wp2_with fail
                        (refine wp_region_calm (by kernel_rfl) (by kernel_rfl) ?_; (repeat (first | go_big_quiet_skip | (go_big_quiet_want; go_big_quiet_op; (first | go_big_quiet_on | (apply Exists.intro; refine ⟨fun ic => ?_, ?_⟩; (focus (first | (go_at_call 76; refine (l02Id_c _ _).mono ?_; rintro e w2 ⟨rfl, rfl⟩; exact ⟨rfl, Calm.same _⟩) | (go_at_call 77; refine (l02Tick_c _ _).mono ?_; rintro e w2 ⟨rfl, rfl⟩; exact ⟨rfl, Calm.same _⟩) | (go_at_call 40; refine (l02Find_c r _ _ _ _ (HP.out.below (HB.out.trans (ic.below.mono HB.out.size)))).mono ?_; rintro e w2 ⟨rfl, hb⟩; exact ⟨rfl, Calm.next _ hb⟩) | (go_at_call 78; refine (l02Invited_c r _ _ _ _ (HP.out.below (HB.out.trans (ic.below.mono HB.out.size)))).mono ?_; rintro e w2 ⟨rfl, hb⟩; exact ⟨rfl, Calm.next _ hb⟩); done)); go_big_quiet_on))))); refine wpQuiet_nil ?_; intro wq hwq; obtain ⟨iq, hwe⟩ := hwq; subst hwe)
                        have HB2 := hide (HB.out.trans (iq.below.mono HB.out.size))
                        have hzq := iq.size
                        go_wp2_with fail
                        go_ret
                        exact ⟨by rw [show validRoomB r = false from bad_ban HX.out (by rw [HPV.out]; exact banF_ord (by omega))]; rfl, HB2.out⟩
                    · have hk1 : decide (0 < k) = false := by simp; omega
                      have HPV := hide (show prevAt r.bans k = none by unfold prevAt; rw [if_pos (by omega)])
                      clear hk0
                      by_cases a3 : decide (0 ≤ idxP (idIs m.id) r.members) = true
                      · have HNO := hide (show banOkB r m = false by simp only [banOkB, hasId, invd, a3, Bool.not_true, Bool.and_false, Bool.false_and])
                        go_wp2_with fail
                        (refine wp_region_calm (by kernel_rfl) (by kernel_rfl) ?_; (repeat (first | go_big_quiet_skip | (go_big_quiet_want; go_big_quiet_op; (first | go_big_quiet_on | (apply Exists.intro; refine ⟨fun ic => ?_, ?_⟩; (focus (first | (go_at_call 76; refine (l02Id_c _ _).mono ?_; rintro e w2 ⟨rfl, rfl⟩; exact ⟨rfl, Calm.same _⟩) | (go_at_call 77; refine (l02Tick_c _ _).mono ?_; rintro e w2 ⟨rfl, rfl⟩; exact ⟨rfl, Calm.same _⟩) | (go_at_call 40; refine (l02Find_c r _ _ _ _ (HP.out.below (HB.out.trans (ic.below.mono HB.out.size)))).mono ?_; rintro e w2 ⟨rfl, hb⟩; exact ⟨rfl, Calm.next _ hb⟩) | (go_at_call 78; refine (l02Invited_c r _ _ _ _ (HP.out.below (HB.out.trans (ic.below.mono HB.out.size)))).mono ?_; rintro e w2 ⟨rfl, hb⟩; exact ⟨rfl, Calm.next _ hb⟩); done)); go_big_quiet_on))))); refine wpQuiet_nil ?_; intro wq hwq; obtain ⟨iq, hwe⟩ := hwq; subst hwe)
                        have HB2 := hide (HB.out.trans (iq.below.mono HB.out.size))
                        have hzq := iq.size
                        go_wp2_with fail
                        go_ret
                        exact ⟨by rw [show validRoomB r = false from bad_ban HX.out (banF_no HNO.out)]; rfl, HB2.out⟩
                      · have a3 : decide (0 ≤ idxP (idIs m.id) r.members) = false := by simpa using a3
                        by_cases a4 : decide (0 ≤ idxP (invIs m.id) r.invites) = true
                        · have HNO := hide (show banOkB r m = false by simp only [banOkB, hasId, invd, a4, Bool.not_true, Bool.and_false, Bool.false_and])
                          go_wp2_with fail
                          (refine wp_region_calm (by kernel_rfl) (by kernel_rfl) ?_; (repeat (first | go_big_quiet_skip | (go_big_quiet_want; go_big_quiet_op; (first | go_big_quiet_on | (apply Exists.intro; refine ⟨fun ic => ?_, ?_⟩; (focus (first | (go_at_call 76; refine (l02Id_c _ _).mono ?_; rintro e w2 ⟨rfl, rfl⟩; exact ⟨rfl, Calm.same _⟩) | (go_at_call 77; refine (l02Tick_c _ _).mono ?_; rintro e w2 ⟨rfl, rfl⟩; exact ⟨rfl, Calm.same _⟩) | (go_at_call 40; refine (l02Find_c r _ _ _ _ (HP.out.below (HB.out.trans (ic.below.mono HB.out.size)))).mono ?_; rintro e w2 ⟨rfl, hb⟩; exact ⟨rfl, Calm.next _ hb⟩) | (go_at_call 78; refine (l02Invited_c r _ _ _ _ (HP.out.below (HB.out.trans (ic.below.mono HB.out.size)))).mono ?_; rintro e w2 ⟨rfl, hb⟩; exact ⟨rfl, Calm.next _ hb⟩); done)); go_big_quiet_on))))); refine wpQuiet_nil ?_; intro wq hwq; obtain ⟨iq, hwe⟩ := hwq; subst hwe)
                          have HB2 := hide (HB.out.trans (iq.below.mono HB.out.size))
                          have hzq := iq.size
                          go_wp2_with fail
                          go_ret
                          exact ⟨by rw [show validRoomB r = false from bad_ban HX.out (banF_no HNO.out)]; rfl, HB2.out⟩
                        · have a4 : decide (0 ≤ idxP (invIs m.id) r.invites) = false := by simpa using a4
                          have HOKM := hide (show banOkB r m = true by simp only [banOkB, hasId, invd, a1, a2, a3, a4]; rfl)
                          go_wp2_with fail
                          (refine wp_region_calm (by kernel_rfl) (by kernel_rfl) ?_; (repeat (first | go_big_quiet_skip | (go_big_quiet_want; go_big_quiet_op; (first | go_big_quiet_on | (apply Exists.intro; refine ⟨fun ic => ?_, ?_⟩; (focus (first | (go_at_call 76; refine (l02Id_c _ _).mono ?_; rintro e w2 ⟨rfl, rfl⟩; exact ⟨rfl, Calm.same _⟩) | (go_at_call 77; refine (l02Tick_c _ _).mono ?_; rintro e w2 ⟨rfl, rfl⟩; exact ⟨rfl, Calm.same _⟩) | (go_at_call 40; refine (l02Find_c r _ _ _ _ (HP.out.below (HB.out.trans (ic.below.mono HB.out.size)))).mono ?_; rintro e w2 ⟨rfl, hb⟩; exact ⟨rfl, Calm.next _ hb⟩) | (go_at_call 78; refine (l02Invited_c r _ _ _ _ (HP.out.below (HB.out.trans (ic.below.mono HB.out.size)))).mono ?_; rintro e w2 ⟨rfl, hb⟩; exact ⟨rfl, Calm.next _ hb⟩); done)); go_big_quiet_on))))); refine wpQuiet_nil ?_; intro wq hwq; obtain ⟨iq, hwe⟩ := hwq; subst hwe)
                          have HB2 := hide (HB.out.trans (iq.below.mono HB.out.size))
                          have hzq := iq.size
                          go_wp2_with fail
                          go_roundg (r.bans.length - (k + 1))
                          case measure => omega
                          case rel => exact ⟨k + 1, by omega, by omega, by go_num, hide (adj_step HT.out HX.out (by rw [HPV.out]; exact banF_none HOKM.out)), HB2⟩
                  · have a2 : inB m.until_ 0 1000000 = false := by simpa using a2
                    have HNO := hide (show banOkB r m = false by simp [banOkB, a2])
                    go_wp2_with fail
                    (refine wp_region_calm (by kernel_rfl) (by kernel_rfl) ?_; (repeat (first | go_big_quiet_skip | (go_big_quiet_want; go_big_quiet_op; (first | go_big_quiet_on | (apply Exists.intro; refine ⟨fun ic => ?_, ?_⟩; (focus (first | (go_at_call 76; refine (l02Id_c _ _).mono ?_; rintro e w2 ⟨rfl, rfl⟩; exact ⟨rfl, Calm.same _⟩) | (go_at_call 77; refine (l02Tick_c _ _).mono ?_; rintro e w2 ⟨rfl, rfl⟩; exact ⟨rfl, Calm.same _⟩) | (go_at_call 40; refine (l02Find_c r _ _ _ _ (HP.out.below (HB.out.trans (ic.below.mono HB.out.size)))).mono ?_; rintro e w2 ⟨rfl, hb⟩; exact ⟨rfl, Calm.next _ hb⟩) | (go_at_call 78; refine (l02Invited_c r _ _ _ _ (HP.out.below (HB.out.trans (ic.below.mono HB.out.size)))).mono ?_; rintro e w2 ⟨rfl, hb⟩; exact ⟨rfl, Calm.next _ hb⟩); done)); go_big_quiet_on))))); refine wpQuiet_nil ?_; intro wq hwq; obtain ⟨iq, hwe⟩ := hwq; subst hwe)
                    have HB2 := hide (HB.out.trans (iq.below.mono HB.out.size))
                    have hzq := iq.size
                    go_wp2_with fail
                    go_ret
                    exact ⟨by rw [show validRoomB r = false from bad_ban HX.out (banF_no HNO.out)]; rfl, HB2.out⟩
                · have a1 : inB m.id 1 1000 = false := by simpa using a1
                  have HNO := hide (show banOkB r m = false by simp [banOkB, a1])
                  go_wp2_with fail
                  (refine wp_region_calm (by kernel_rfl) (by kernel_rfl) ?_; (repeat (first | go_big_quiet_skip | (go_big_quiet_want; go_big_quiet_op; (first | go_big_quiet_on | (apply Exists.intro; refine ⟨fun ic => ?_, ?_⟩; (focus (first | (go_at_call 76; refine (l02Id_c _ _).mono ?_; rintro e w2 ⟨rfl, rfl⟩; exact ⟨rfl, Calm.same _⟩) | (go_at_call 77; refine (l02Tick_c _ _).mono ?_; rintro e w2 ⟨rfl, rfl⟩; exact ⟨rfl, Calm.same _⟩) | (go_at_call 40; refine (l02Find_c r _ _ _ _ (HP.out.below (HB.out.trans (ic.below.mono HB.out.size)))).mono ?_; rintro e w2 ⟨rfl, hb⟩; exact ⟨rfl, Calm.next _ hb⟩) | (go_at_call 78; refine (l02Invited_c r _ _ _ _ (HP.out.below (HB.out.trans (ic.below.mono HB.out.size)))).mono ?_; rintro e w2 ⟨rfl, hb⟩; exact ⟨rfl, Calm.next _ hb⟩); done)); go_big_quiet_on))))); refine wpQuiet_nil ?_; intro wq hwq; obtain ⟨iq, hwe⟩ := hwq; subst hwe)
                  have HB2 := hide (HB.out.trans (iq.below.mono HB.out.size))
                  have hzq := iq.size
                  go_wp2_with fail
                  go_ret
                  exact ⟨by rw [show validRoomB r = false from bad_ban HX.out (banF_no HNO.out)]; rfl, HB2.out⟩
              · have : k = r.bans.length := by omega
                subst this
                have HALL3 := hide (show adjB (banF r) none r.bans = true from adj_all HT.out)
                have HBS := HB
                clear HT HB
                go_wp2_with fail
                go_ret
                refine ⟨ret_bool ?_, HBS.out⟩
                have hmb := HMB.out
                simp only [membersB, Bool.and_eq_true] at hmb
                have d3 : decide ((r.invites.length : Int) ≤ 16) = true := by simpa using HL.out.1
                have d4 : decide ((r.bans.length : Int) ≤ 16) = true := by simpa using HL.out.2
                simp only [validRoomB, HALL2.out, HALL3.out, hmb.1.1.1, hmb.1.1.2, hmb.1.2, hmb.2, d3, d4, Bool.true_and]
      · have l3' : decide ((16 : Int) < (r.bans.length : Int)) = true := by simp; omega
        have hr := hide (show validRoomB r = false by simp only [validRoomB, decide_eq_false l3, Bool.and_false, Bool.false_and])
        go_enter Tryz.func39, Tryz.ntmps39
        go_wp2_with (
          go_at_call 75
          refine (l02Members_c r _ _ _ HP.out).mono ?_
          rintro e w1 ⟨rfl, hb⟩
          rw [HMB.out]
          have HBS := hide hb
          have b1 := cell_below hb HBC.out.1
          have b2 := cell_below hb HBC.out.2.1
          have b3 := cell_below hb HBC.out.2.2
          clear hb)
        go_ret
        exact ⟨by rw [hr.out]; rfl, HBS.out⟩
    · have l2' : decide ((16 : Int) < (r.invites.length : Int)) = true := by simp; omega
      have hr := hide (show validRoomB r = false by simp only [validRoomB, decide_eq_false l2, Bool.and_false, Bool.false_and])
      go_enter Tryz.func39, Tryz.ntmps39
      go_wp2_with (
        go_at_call 75
        refine (l02Members_c r _ _ _ HP.out).mono ?_
        rintro e w1 ⟨rfl, hb⟩
        rw [HMB.out]
        have HBS := hide hb
        have b1 := cell_below hb HBC.out.1
        have b2 := cell_below hb HBC.out.2.1
        have b3 := cell_below hb HBC.out.2.2
        clear hb)
      go_ret
      exact ⟨by rw [hr.out]; rfl, HBS.out⟩
  · have HMB := hide (show membersB r = false by simpa using hmb)
    have hr := hide (room_no HMB.out)
    clear hmb
    go_enter Tryz.func39, Tryz.ntmps39
    go_wp2_with (
      go_at_call 75
      refine (l02Members_c r _ _ _ HP.out).mono ?_
      rintro e w1 ⟨rfl, hb⟩
      rw [HMB.out]
      have HBS := hide hb
      have b1 := cell_below hb HBC.out.1
      have b2 := cell_below hb HBC.out.2.1
      have b3 := cell_below hb HBC.out.2.2
      clear hb)
    go_ret
    exact ⟨by rw [hr.out]; rfl, HBS.out⟩
end Go.Proofs.YtglhepbcbildpaaGreat
