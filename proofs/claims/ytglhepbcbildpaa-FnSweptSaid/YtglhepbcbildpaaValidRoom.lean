/- Valid rooms: the program's test. -/
import Derived.Test.YtglhepbcbildpaaRolesFn
namespace Go.Proofs.Ytglhepbcbildpaa
open Go Go.RowKit Go.BigFrame
attribute [local go_sem] Calm.cell Calm.frozen
set_option linter.unusedVariables false
set_option linter.unusedSimpArgs false

theorem bad_mem {r : Room} {j : Nat} {m : Member} (hx : r.members[j]? = some m) (h : memF m (prevAt r.members j) = false) : validRoomB r = false := by
  simp only [validRoomB, adj_fail (f := memF) hx h, Bool.and_false, Bool.false_and]
theorem bad_inv {r : Room} {j : Nat} {m : Invite} (hx : r.invites[j]? = some m) (h : invF r m (prevAt r.invites j) = false) : validRoomB r = false := by
  simp only [validRoomB, adj_fail (f := invF r) hx h, Bool.and_false, Bool.false_and]
theorem bad_ban {r : Room} {j : Nat} {m : Ban} (hx : r.bans[j]? = some m) (h : banF r m (prevAt r.bans j) = false) : validRoomB r = false := by
  simp only [validRoomB, adj_fail (f := banF r) hx h, Bool.and_false, Bool.false_and]
theorem mem_all {ms : List Member} (h : adjB memF none ms = true) : ∀ m ∈ ms, memOkB m = true := fun m hm => by
  obtain ⟨j, hj⟩ := List.getElem?_of_mem hm
  have := (adjB_iff memF ms none).1 h j m hj
  simp only [memF, Bool.and_eq_true] at this
  exact this.1
theorem mem_roles {ms : List Member} (h : adjB memF none ms = true) : ∀ m ∈ ms, inB m.role 0 3 = true := fun m hm => by
  have := mem_all h m hm
  simp only [memOkB, Bool.and_eq_true] at this
  exact this.1.1.2
set_option maxHeartbeats 16000000 in
set_option maxRecDepth 100000 in
theorem validRoom_c (r : Room) (v1 v2 v3 : Value) (w : World) (h1 : SliceK memberD w v1 r.members) (h2 : SliceK inviteD w v2 r.invites) (h3 : SliceK banD w v3 r.bans) :
    Calls Try.prog 11 #[.agg #[.bool r.open_, v1, v2, v3]] w fun e w' => e = .returned (.bool (validRoomB r)) ∧ Below w.heap.size w w' := by
  obtain ⟨V, hV⟩ : ∃ V, V = w.alloc (.cells #[.bool r.open_, v1, v2, v3] 28) := ⟨_, rfl⟩
  have HV := hide (show Below w.heap.size w V by subst hV; exact (Below.refl _ _).alloc (Nat.le_refl _) _)
  have HBX := hide (show RowAt roomD V w.heap.size 0 [r] by subst hV; exact RowAt.box (d := roomD) (x := r) (room_K_mk h1 h2 h3) (arr := #[.bool r.open_, v1, v2, v3]) rfl 28)
  have hlw : w.heap.size < V.heap.size := by subst hV; simp
  have b0 : V.cell? ⟨w.heap.size, 0, none⟩ = some (.bool r.open_) := by subst hV; simp
  have b1 : V.cell? ⟨w.heap.size, 1, none⟩ = some v1 := by subst hV; simp
  have b2 : V.cell? ⟨w.heap.size, 2, none⟩ = some v2 := by subst hV; simp
  have b3 : V.cell? ⟨w.heap.size, 3, none⟩ = some v3 := by subst hV; simp
  obtain ⟨A1, c1, rfl, hl1, hm1, hr1⟩ := h1.below HV.out
  obtain ⟨A2, c2, rfl, hl2, hm2, hr2⟩ := h2.below HV.out
  obtain ⟨A3, c3, rfl, hl3, hm3, hr3⟩ := h3.below HV.out
  have HR1 := hide hr1
  have HR2 := hide hr2
  have HR3 := hide hr3
  have HBS := hide (Below.refl V.heap.size V)
  have HBC := hide (And.intro b0 (And.intro b1 (And.intro b2 (And.intro b3 hlw))))
  clear b0 b1 b2 b3 hlw
  clear h1 h2 h3 hr1 hr2 hr3
  by_cases l1 : inB (r.members.length : Int) 1 32 = true
  · have l1' := inB_iff.1 l1
    by_cases l2 : (r.invites.length : Int) ≤ 16
    · have l2' : decide ((16 : Int) < (r.invites.length : Int)) = false := by simp; omega
      by_cases l3 : (r.bans.length : Int) ≤ 16
      · have l3' : decide ((16 : Int) < (r.bans.length : Int)) = false := by simp; omega
        have HL := hide (And.intro l1' (And.intro l2 l3))
        clear l1'
        go_enter Try.func11, Try.ntmps11
        go_wp2_with (go_at_call 28; refine (in_c _ _ _ _).mono ?_; rintro e w' ⟨rfl, rfl⟩)
        rw [← hV]
        clear hV
        go_loopg [29] r.members.length (fun gg sk wr => ∃ k : Nat, k ≤ r.members.length ∧ r.members.length - k ≤ gg ∧ sk = .int .i64 k ∧ Hid (∀ j y, j < k → r.members[j]? = some y → memF y (prevAt r.members j) = true) ∧ Hid (Below V.heap.size V wr))
        case atStart => exact ⟨0, Nat.zero_le _, by omega, rfl, hide (by intro j y hj; omega), HBS⟩
        case round =>
          obtain ⟨k, hk, hg, rfl, HT, HB⟩ := hrel
          clear HBS
          have b0 := cell_below HB.out HBC.out.1
          have b1 := cell_below HB.out HBC.out.2.1
          have b2 := cell_below HB.out HBC.out.2.2.1
          have b3 := cell_below HB.out HBC.out.2.2.2.1
          have hlw := Nat.lt_of_lt_of_le HBC.out.2.2.2.2 HB.out.size
          by_cases hlt : k < r.members.length
          · obtain ⟨m, hx⟩ : ∃ m, r.members[k]? = some m := ⟨_, List.getElem?_eq_getElem hlt⟩
            rcases HR1.out with hnil | ⟨q, o2, rfl, hra⟩
            · rw [hnil] at hlt; simp at hlt
            obtain ⟨hq, hc0, hc1, hc2, hc3⟩ := member_at hra HB.out hx
            have HX := hide hx
            have HRA := hide hra
            have hlt2 : (k : Int) < (r.members.length : Int) := by omega
            clear hx hra
            by_cases a1 : inB m.id 1 1000 = true
            · by_cases a2 : inB m.role 0 3 = true
              · by_cases a3 : inB m.since 0 1000000 = true
                · by_cases a4 : inB m.quiet 0 1000000 = true
                  · have HOKM := hide (show memOkB m = true by simp [memOkB, a1, a2, a3, a4])
                    by_cases hk0 : 0 < k
                    · obtain ⟨p, hy⟩ : ∃ p, r.members[k - 1]? = some p := ⟨_, List.getElem?_eq_getElem (by omega)⟩
                      obtain ⟨hqp, hd0, hd1, hd2, hd3⟩ := member_at HRA.out HB.out hy
                      have HPV := hide (prevAt_succ hk0 hy)
                      have hk1 : decide (0 < k) = true := by simp; omega
                      have hk3 : (1 : Int) ≤ (k : Int) := by omega
                      have hk5 : IntKind.i64.wrap ((k : Int) - 1) = (k : Int) - 1 := IntWalk.i64_in _ (by omega)
                      have hk6 : (0 : Int) ≤ (k : Int) - 1 := by omega
                      have hk7 : ((k : Int) - 1).toNat = k - 1 := by omega
                      clear hy
                      by_cases hpo : p.id < m.id
                      · have hpo2 : decide (m.id ≤ p.id) = false := by simp; omega
                        go_wp2_with fail
                        (refine wp_region_calm (by kernel_rfl) (by kernel_rfl) ?_; (repeat (first | go_big_quiet_skip | (go_big_quiet_want; go_big_quiet_op; (first | go_big_quiet_on | (apply Exists.intro; refine ⟨fun ic => ?_, ?_⟩; (focus (first | (go_at_call 29; refine (isMember_c _ _).mono ?_; rintro e w2 ⟨rfl, rfl⟩; exact ⟨rfl, Calm.same _⟩) | (go_at_call 30; refine (roleOk_c _ _).mono ?_; rintro e w2 ⟨rfl, rfl⟩; exact ⟨rfl, Calm.same _⟩) | (go_at_call 22; refine (isTick_c _ _).mono ?_; rintro e w2 ⟨rfl, rfl⟩; exact ⟨rfl, Calm.same _⟩); done)); go_big_quiet_on))))); refine wpQuiet_nil ?_; intro wq hwq; obtain ⟨iq, hwe⟩ := hwq; subst hwe)
                        have HB2 := hide (HB.out.trans (iq.boxed.mono HB.out.size))
                        go_wp2_with fail
                        go_roundg (r.members.length - (k + 1))
                        case measure => omega
                        case rel => exact ⟨k + 1, by omega, by omega, by go_num, hide (adj_step HT.out HX.out (by rw [HPV.out]; exact memF_some HOKM.out hpo)), HB2⟩
                      · have hpo2 : decide (m.id ≤ p.id) = true := by simp; omega
                        go_wp2_with fail
                        (refine wp_region_calm (by kernel_rfl) (by kernel_rfl) ?_; (repeat (first | go_big_quiet_skip | (go_big_quiet_want; go_big_quiet_op; (first | go_big_quiet_on | (apply Exists.intro; refine ⟨fun ic => ?_, ?_⟩; (focus (first | (go_at_call 29; refine (isMember_c _ _).mono ?_; rintro e w2 ⟨rfl, rfl⟩; exact ⟨rfl, Calm.same _⟩) | (go_at_call 30; refine (roleOk_c _ _).mono ?_; rintro e w2 ⟨rfl, rfl⟩; exact ⟨rfl, Calm.same _⟩) | (go_at_call 22; refine (isTick_c _ _).mono ?_; rintro e w2 ⟨rfl, rfl⟩; exact ⟨rfl, Calm.same _⟩); done)); go_big_quiet_on))))); refine wpQuiet_nil ?_; intro wq hwq; obtain ⟨iq, hwe⟩ := hwq; subst hwe)
                        have HB2 := hide (HB.out.trans (iq.boxed.mono HB.out.size))
                        go_wp2_with fail
                        go_ret
                        exact ⟨by rw [show validRoomB r = false from bad_mem HX.out (by rw [HPV.out]; exact memF_ord (by omega))]; rfl, below_step HV.out HB2.out⟩
                    · have hk1 : decide (0 < k) = false := by simp; omega
                      have HPV := hide (show prevAt r.members k = none by unfold prevAt; rw [if_pos (by omega)])
                      clear hk0
                      go_wp2_with fail
                      (refine wp_region_calm (by kernel_rfl) (by kernel_rfl) ?_; (repeat (first | go_big_quiet_skip | (go_big_quiet_want; go_big_quiet_op; (first | go_big_quiet_on | (apply Exists.intro; refine ⟨fun ic => ?_, ?_⟩; (focus (first | (go_at_call 29; refine (isMember_c _ _).mono ?_; rintro e w2 ⟨rfl, rfl⟩; exact ⟨rfl, Calm.same _⟩) | (go_at_call 30; refine (roleOk_c _ _).mono ?_; rintro e w2 ⟨rfl, rfl⟩; exact ⟨rfl, Calm.same _⟩) | (go_at_call 22; refine (isTick_c _ _).mono ?_; rintro e w2 ⟨rfl, rfl⟩; exact ⟨rfl, Calm.same _⟩); done)); go_big_quiet_on))))); refine wpQuiet_nil ?_; intro wq hwq; obtain ⟨iq, hwe⟩ := hwq; subst hwe)
                      have HB2 := hide (HB.out.trans (iq.boxed.mono HB.out.size))
                      go_wp2_with fail
                      go_roundg (r.members.length - (k + 1))
                      case measure => omega
                      case rel => exact ⟨k + 1, by omega, by omega, by go_num, hide (adj_step HT.out HX.out (by rw [HPV.out]; exact memF_none HOKM.out)), HB2⟩
                  · have a4 : inB m.quiet 0 1000000 = false := by simpa using a4
                    have HNO := hide (show memOkB m = false by simp [memOkB, a4])
                    go_wp2_with fail
                    (refine wp_region_calm (by kernel_rfl) (by kernel_rfl) ?_; (repeat (first | go_big_quiet_skip | (go_big_quiet_want; go_big_quiet_op; (first | go_big_quiet_on | (apply Exists.intro; refine ⟨fun ic => ?_, ?_⟩; (focus (first | (go_at_call 29; refine (isMember_c _ _).mono ?_; rintro e w2 ⟨rfl, rfl⟩; exact ⟨rfl, Calm.same _⟩) | (go_at_call 30; refine (roleOk_c _ _).mono ?_; rintro e w2 ⟨rfl, rfl⟩; exact ⟨rfl, Calm.same _⟩) | (go_at_call 22; refine (isTick_c _ _).mono ?_; rintro e w2 ⟨rfl, rfl⟩; exact ⟨rfl, Calm.same _⟩); done)); go_big_quiet_on))))); refine wpQuiet_nil ?_; intro wq hwq; obtain ⟨iq, hwe⟩ := hwq; subst hwe)
                    have HB2 := hide (HB.out.trans (iq.boxed.mono HB.out.size))
                    go_wp2_with fail
                    go_ret
                    exact ⟨by rw [show validRoomB r = false from bad_mem HX.out (memF_no HNO.out)]; rfl, below_step HV.out HB2.out⟩
                · have a3 : inB m.since 0 1000000 = false := by simpa using a3
                  have HNO := hide (show memOkB m = false by simp [memOkB, a3])
                  go_wp2_with fail
                  (refine wp_region_calm (by kernel_rfl) (by kernel_rfl) ?_; (repeat (first | go_big_quiet_skip | (go_big_quiet_want; go_big_quiet_op; (first | go_big_quiet_on | (apply Exists.intro; refine ⟨fun ic => ?_, ?_⟩; (focus (first | (go_at_call 29; refine (isMember_c _ _).mono ?_; rintro e w2 ⟨rfl, rfl⟩; exact ⟨rfl, Calm.same _⟩) | (go_at_call 30; refine (roleOk_c _ _).mono ?_; rintro e w2 ⟨rfl, rfl⟩; exact ⟨rfl, Calm.same _⟩) | (go_at_call 22; refine (isTick_c _ _).mono ?_; rintro e w2 ⟨rfl, rfl⟩; exact ⟨rfl, Calm.same _⟩); done)); go_big_quiet_on))))); refine wpQuiet_nil ?_; intro wq hwq; obtain ⟨iq, hwe⟩ := hwq; subst hwe)
                  have HB2 := hide (HB.out.trans (iq.boxed.mono HB.out.size))
                  go_wp2_with fail
                  go_ret
                  exact ⟨by rw [show validRoomB r = false from bad_mem HX.out (memF_no HNO.out)]; rfl, below_step HV.out HB2.out⟩
              · have a2 : inB m.role 0 3 = false := by simpa using a2
                have HNO := hide (show memOkB m = false by simp [memOkB, a2])
                go_wp2_with fail
                (refine wp_region_calm (by kernel_rfl) (by kernel_rfl) ?_; (repeat (first | go_big_quiet_skip | (go_big_quiet_want; go_big_quiet_op; (first | go_big_quiet_on | (apply Exists.intro; refine ⟨fun ic => ?_, ?_⟩; (focus (first | (go_at_call 29; refine (isMember_c _ _).mono ?_; rintro e w2 ⟨rfl, rfl⟩; exact ⟨rfl, Calm.same _⟩) | (go_at_call 30; refine (roleOk_c _ _).mono ?_; rintro e w2 ⟨rfl, rfl⟩; exact ⟨rfl, Calm.same _⟩) | (go_at_call 22; refine (isTick_c _ _).mono ?_; rintro e w2 ⟨rfl, rfl⟩; exact ⟨rfl, Calm.same _⟩); done)); go_big_quiet_on))))); refine wpQuiet_nil ?_; intro wq hwq; obtain ⟨iq, hwe⟩ := hwq; subst hwe)
                have HB2 := hide (HB.out.trans (iq.boxed.mono HB.out.size))
                go_wp2_with fail
                go_ret
                exact ⟨by rw [show validRoomB r = false from bad_mem HX.out (memF_no HNO.out)]; rfl, below_step HV.out HB2.out⟩
            · have a1 : inB m.id 1 1000 = false := by simpa using a1
              have HNO := hide (show memOkB m = false by simp [memOkB, a1])
              go_wp2_with fail
              (refine wp_region_calm (by kernel_rfl) (by kernel_rfl) ?_; (repeat (first | go_big_quiet_skip | (go_big_quiet_want; go_big_quiet_op; (first | go_big_quiet_on | (apply Exists.intro; refine ⟨fun ic => ?_, ?_⟩; (focus (first | (go_at_call 29; refine (isMember_c _ _).mono ?_; rintro e w2 ⟨rfl, rfl⟩; exact ⟨rfl, Calm.same _⟩) | (go_at_call 30; refine (roleOk_c _ _).mono ?_; rintro e w2 ⟨rfl, rfl⟩; exact ⟨rfl, Calm.same _⟩) | (go_at_call 22; refine (isTick_c _ _).mono ?_; rintro e w2 ⟨rfl, rfl⟩; exact ⟨rfl, Calm.same _⟩); done)); go_big_quiet_on))))); refine wpQuiet_nil ?_; intro wq hwq; obtain ⟨iq, hwe⟩ := hwq; subst hwe)
              have HB2 := hide (HB.out.trans (iq.boxed.mono HB.out.size))
              go_wp2_with fail
              go_ret
              exact ⟨by rw [show validRoomB r = false from bad_mem HX.out (memF_no HNO.out)]; rfl, below_step HV.out HB2.out⟩
          · have : k = r.members.length := by omega
            subst this
            have HALL1 := hide (show adjB (memF) none r.members = true from adj_all HT.out)
            have HBS := HB
            clear HT HB
            go_wp2_with fail
            go_loopg [76] r.invites.length (fun gg sk wv => ∃ k : Nat, k ≤ r.invites.length ∧ r.invites.length - k ≤ gg ∧ sk = .int .i64 k ∧ Hid (∀ j y, j < k → r.invites[j]? = some y → invF r y (prevAt r.invites j) = true) ∧ Hid (Below V.heap.size V wv))
            case atStart => exact ⟨0, Nat.zero_le _, by omega, rfl, hide (by intro j y hj; omega), HBS⟩
            case round =>
              obtain ⟨k, hk, hg, rfl, HT, HB⟩ := hrel
              clear HBS
              have b0 := cell_below HB.out HBC.out.1
              have b1 := cell_below HB.out HBC.out.2.1
              have b2 := cell_below HB.out HBC.out.2.2.1
              have b3 := cell_below HB.out HBC.out.2.2.2.1
              have hlw := Nat.lt_of_lt_of_le HBC.out.2.2.2.2 HB.out.size
              by_cases hlt : k < r.invites.length
              · obtain ⟨m, hx⟩ : ∃ m, r.invites[k]? = some m := ⟨_, List.getElem?_eq_getElem hlt⟩
                rcases HR2.out with hnil | ⟨q, o2, rfl, hra⟩
                · rw [hnil] at hlt; simp at hlt
                obtain ⟨hq, hc0, hc1, hc2⟩ := invite_at hra HB.out hx
                have HX := hide hx
                have HRA := hide hra
                have hlt2 : (k : Int) < (r.invites.length : Int) := by omega
                clear hx hra
                by_cases a1 : inB m.id 1 1000 = true
                · by_cases a2 : inB m.by_ 1 1000 = true
                  · by_cases a3 : inB m.until_ 0 1000000 = true
                    · by_cases a4 : hasId r m.id = true
                      · have HNO := hide (show invOkB r m = false by simp [invOkB, a4])
                        go_wp2_with fail
                        (refine wp_region_calm (by kernel_rfl) (by kernel_rfl) ?_; (repeat (first | go_big_quiet_skip | (go_big_quiet_want; go_big_quiet_op; (first | go_big_quiet_on | (apply Exists.intro; refine ⟨fun ic => ?_, ?_⟩; (focus (first | (go_at_call 29; refine (isMember_c _ _).mono ?_; rintro e w2 ⟨rfl, rfl⟩; exact ⟨rfl, Calm.same _⟩) | (go_at_call 30; refine (roleOk_c _ _).mono ?_; rintro e w2 ⟨rfl, rfl⟩; exact ⟨rfl, Calm.same _⟩) | (go_at_call 22; refine (isTick_c _ _).mono ?_; rintro e w2 ⟨rfl, rfl⟩; exact ⟨rfl, Calm.same _⟩) | (go_at_call 31; refine (roomHas_c r _ _ _ _ (HBX.out.below (HB.out.trans (ic.boxed.mono HB.out.size)))).mono ?_; rintro e w2 ⟨rfl, hb⟩; exact ⟨rfl, Calm.next _ hb⟩); done)); go_big_quiet_on))))); refine wpQuiet_nil ?_; intro wq hwq; obtain ⟨iq, hwe⟩ := hwq; subst hwe)
                        have HB2 := hide (HB.out.trans (iq.boxed.mono HB.out.size))
                        go_wp2_with fail
                        go_ret
                        exact ⟨by rw [show validRoomB r = false from bad_inv HX.out (invF_no HNO.out)]; rfl, below_step HV.out HB2.out⟩
                      · have a4 : hasId r m.id = false := by simpa using a4
                        have HOKM := hide (show invOkB r m = true by simp [invOkB, a1, a2, a3, a4])
                        by_cases hk0 : 0 < k
                        · obtain ⟨p, hy⟩ : ∃ p, r.invites[k - 1]? = some p := ⟨_, List.getElem?_eq_getElem (by omega)⟩
                          obtain ⟨hqp, hd0, hd1, hd2⟩ := invite_at HRA.out HB.out hy
                          have HPV := hide (prevAt_succ hk0 hy)
                          have hk1 : decide (0 < k) = true := by simp; omega
                          have hk3 : (1 : Int) ≤ (k : Int) := by omega
                          have hk5 : IntKind.i64.wrap ((k : Int) - 1) = (k : Int) - 1 := IntWalk.i64_in _ (by omega)
                          have hk6 : (0 : Int) ≤ (k : Int) - 1 := by omega
                          have hk7 : ((k : Int) - 1).toNat = k - 1 := by omega
                          clear hy
                          by_cases hpo : p.id < m.id
                          · have hpo2 : decide (m.id ≤ p.id) = false := by simp; omega
                            go_wp2_with fail
                            (refine wp_region_calm (by kernel_rfl) (by kernel_rfl) ?_; (repeat (first | go_big_quiet_skip | (go_big_quiet_want; go_big_quiet_op; (first | go_big_quiet_on | (apply Exists.intro; refine ⟨fun ic => ?_, ?_⟩; (focus (first | (go_at_call 29; refine (isMember_c _ _).mono ?_; rintro e w2 ⟨rfl, rfl⟩; exact ⟨rfl, Calm.same _⟩) | (go_at_call 30; refine (roleOk_c _ _).mono ?_; rintro e w2 ⟨rfl, rfl⟩; exact ⟨rfl, Calm.same _⟩) | (go_at_call 22; refine (isTick_c _ _).mono ?_; rintro e w2 ⟨rfl, rfl⟩; exact ⟨rfl, Calm.same _⟩) | (go_at_call 31; refine (roomHas_c r _ _ _ _ (HBX.out.below (HB.out.trans (ic.boxed.mono HB.out.size)))).mono ?_; rintro e w2 ⟨rfl, hb⟩; exact ⟨rfl, Calm.next _ hb⟩); done)); go_big_quiet_on))))); refine wpQuiet_nil ?_; intro wq hwq; obtain ⟨iq, hwe⟩ := hwq; subst hwe)
                            have HB2 := hide (HB.out.trans (iq.boxed.mono HB.out.size))
                            go_wp2_with fail
                            go_roundg (r.invites.length - (k + 1))
                            case measure => omega
                            case rel => exact ⟨k + 1, by omega, by omega, by go_num, hide (adj_step HT.out HX.out (by rw [HPV.out]; exact invF_some HOKM.out hpo)), HB2⟩
                          · have hpo2 : decide (m.id ≤ p.id) = true := by simp; omega
                            go_wp2_with fail
                            (refine wp_region_calm (by kernel_rfl) (by kernel_rfl) ?_; (repeat (first | go_big_quiet_skip | (go_big_quiet_want; go_big_quiet_op; (first | go_big_quiet_on | (apply Exists.intro; refine ⟨fun ic => ?_, ?_⟩; (focus (first | (go_at_call 29; refine (isMember_c _ _).mono ?_; rintro e w2 ⟨rfl, rfl⟩; exact ⟨rfl, Calm.same _⟩) | (go_at_call 30; refine (roleOk_c _ _).mono ?_; rintro e w2 ⟨rfl, rfl⟩; exact ⟨rfl, Calm.same _⟩) | (go_at_call 22; refine (isTick_c _ _).mono ?_; rintro e w2 ⟨rfl, rfl⟩; exact ⟨rfl, Calm.same _⟩) | (go_at_call 31; refine (roomHas_c r _ _ _ _ (HBX.out.below (HB.out.trans (ic.boxed.mono HB.out.size)))).mono ?_; rintro e w2 ⟨rfl, hb⟩; exact ⟨rfl, Calm.next _ hb⟩); done)); go_big_quiet_on))))); refine wpQuiet_nil ?_; intro wq hwq; obtain ⟨iq, hwe⟩ := hwq; subst hwe)
                            have HB2 := hide (HB.out.trans (iq.boxed.mono HB.out.size))
                            go_wp2_with fail
                            go_ret
                            exact ⟨by rw [show validRoomB r = false from bad_inv HX.out (by rw [HPV.out]; exact invF_ord (by omega))]; rfl, below_step HV.out HB2.out⟩
                        · have hk1 : decide (0 < k) = false := by simp; omega
                          have HPV := hide (show prevAt r.invites k = none by unfold prevAt; rw [if_pos (by omega)])
                          clear hk0
                          go_wp2_with fail
                          (refine wp_region_calm (by kernel_rfl) (by kernel_rfl) ?_; (repeat (first | go_big_quiet_skip | (go_big_quiet_want; go_big_quiet_op; (first | go_big_quiet_on | (apply Exists.intro; refine ⟨fun ic => ?_, ?_⟩; (focus (first | (go_at_call 29; refine (isMember_c _ _).mono ?_; rintro e w2 ⟨rfl, rfl⟩; exact ⟨rfl, Calm.same _⟩) | (go_at_call 30; refine (roleOk_c _ _).mono ?_; rintro e w2 ⟨rfl, rfl⟩; exact ⟨rfl, Calm.same _⟩) | (go_at_call 22; refine (isTick_c _ _).mono ?_; rintro e w2 ⟨rfl, rfl⟩; exact ⟨rfl, Calm.same _⟩) | (go_at_call 31; refine (roomHas_c r _ _ _ _ (HBX.out.below (HB.out.trans (ic.boxed.mono HB.out.size)))).mono ?_; rintro e w2 ⟨rfl, hb⟩; exact ⟨rfl, Calm.next _ hb⟩); done)); go_big_quiet_on))))); refine wpQuiet_nil ?_; intro wq hwq; obtain ⟨iq, hwe⟩ := hwq; subst hwe)
                          have HB2 := hide (HB.out.trans (iq.boxed.mono HB.out.size))
                          go_wp2_with fail
                          go_roundg (r.invites.length - (k + 1))
                          case measure => omega
                          case rel => exact ⟨k + 1, by omega, by omega, by go_num, hide (adj_step HT.out HX.out (by rw [HPV.out]; exact invF_none HOKM.out)), HB2⟩
                    · have a3 : inB m.until_ 0 1000000 = false := by simpa using a3
                      have HNO := hide (show invOkB r m = false by simp [invOkB, a3])
                      go_wp2_with fail
                      (refine wp_region_calm (by kernel_rfl) (by kernel_rfl) ?_; (repeat (first | go_big_quiet_skip | (go_big_quiet_want; go_big_quiet_op; (first | go_big_quiet_on | (apply Exists.intro; refine ⟨fun ic => ?_, ?_⟩; (focus (first | (go_at_call 29; refine (isMember_c _ _).mono ?_; rintro e w2 ⟨rfl, rfl⟩; exact ⟨rfl, Calm.same _⟩) | (go_at_call 30; refine (roleOk_c _ _).mono ?_; rintro e w2 ⟨rfl, rfl⟩; exact ⟨rfl, Calm.same _⟩) | (go_at_call 22; refine (isTick_c _ _).mono ?_; rintro e w2 ⟨rfl, rfl⟩; exact ⟨rfl, Calm.same _⟩) | (go_at_call 31; refine (roomHas_c r _ _ _ _ (HBX.out.below (HB.out.trans (ic.boxed.mono HB.out.size)))).mono ?_; rintro e w2 ⟨rfl, hb⟩; exact ⟨rfl, Calm.next _ hb⟩); done)); go_big_quiet_on))))); refine wpQuiet_nil ?_; intro wq hwq; obtain ⟨iq, hwe⟩ := hwq; subst hwe)
                      have HB2 := hide (HB.out.trans (iq.boxed.mono HB.out.size))
                      go_wp2_with fail
                      go_ret
                      exact ⟨by rw [show validRoomB r = false from bad_inv HX.out (invF_no HNO.out)]; rfl, below_step HV.out HB2.out⟩
                  · have a2 : inB m.by_ 1 1000 = false := by simpa using a2
                    have HNO := hide (show invOkB r m = false by simp [invOkB, a2])
                    go_wp2_with fail
                    (refine wp_region_calm (by kernel_rfl) (by kernel_rfl) ?_; (repeat (first | go_big_quiet_skip | (go_big_quiet_want; go_big_quiet_op; (first | go_big_quiet_on | (apply Exists.intro; refine ⟨fun ic => ?_, ?_⟩; (focus (first | (go_at_call 29; refine (isMember_c _ _).mono ?_; rintro e w2 ⟨rfl, rfl⟩; exact ⟨rfl, Calm.same _⟩) | (go_at_call 30; refine (roleOk_c _ _).mono ?_; rintro e w2 ⟨rfl, rfl⟩; exact ⟨rfl, Calm.same _⟩) | (go_at_call 22; refine (isTick_c _ _).mono ?_; rintro e w2 ⟨rfl, rfl⟩; exact ⟨rfl, Calm.same _⟩) | (go_at_call 31; refine (roomHas_c r _ _ _ _ (HBX.out.below (HB.out.trans (ic.boxed.mono HB.out.size)))).mono ?_; rintro e w2 ⟨rfl, hb⟩; exact ⟨rfl, Calm.next _ hb⟩); done)); go_big_quiet_on))))); refine wpQuiet_nil ?_; intro wq hwq; obtain ⟨iq, hwe⟩ := hwq; subst hwe)
                    have HB2 := hide (HB.out.trans (iq.boxed.mono HB.out.size))
                    go_wp2_with fail
                    go_ret
                    exact ⟨by rw [show validRoomB r = false from bad_inv HX.out (invF_no HNO.out)]; rfl, below_step HV.out HB2.out⟩
                · have a1 : inB m.id 1 1000 = false := by simpa using a1
                  have HNO := hide (show invOkB r m = false by simp [invOkB, a1])
                  go_wp2_with fail
                  (refine wp_region_calm (by kernel_rfl) (by kernel_rfl) ?_; (repeat (first | go_big_quiet_skip | (go_big_quiet_want; go_big_quiet_op; (first | go_big_quiet_on | (apply Exists.intro; refine ⟨fun ic => ?_, ?_⟩; (focus (first | (go_at_call 29; refine (isMember_c _ _).mono ?_; rintro e w2 ⟨rfl, rfl⟩; exact ⟨rfl, Calm.same _⟩) | (go_at_call 30; refine (roleOk_c _ _).mono ?_; rintro e w2 ⟨rfl, rfl⟩; exact ⟨rfl, Calm.same _⟩) | (go_at_call 22; refine (isTick_c _ _).mono ?_; rintro e w2 ⟨rfl, rfl⟩; exact ⟨rfl, Calm.same _⟩) | (go_at_call 31; refine (roomHas_c r _ _ _ _ (HBX.out.below (HB.out.trans (ic.boxed.mono HB.out.size)))).mono ?_; rintro e w2 ⟨rfl, hb⟩; exact ⟨rfl, Calm.next _ hb⟩); done)); go_big_quiet_on))))); refine wpQuiet_nil ?_; intro wq hwq; obtain ⟨iq, hwe⟩ := hwq; subst hwe)
                  have HB2 := hide (HB.out.trans (iq.boxed.mono HB.out.size))
                  go_wp2_with fail
                  go_ret
                  exact ⟨by rw [show validRoomB r = false from bad_inv HX.out (invF_no HNO.out)]; rfl, below_step HV.out HB2.out⟩
              · have : k = r.invites.length := by omega
                subst this
                have HALL2 := hide (show adjB (invF r) none r.invites = true from adj_all HT.out)
                have HBS := HB
                clear HT HB
                go_wp2_with fail
                go_loopg [122] r.bans.length (fun gg sk wx => ∃ k : Nat, k ≤ r.bans.length ∧ r.bans.length - k ≤ gg ∧ sk = .int .i64 k ∧ Hid (∀ j y, j < k → r.bans[j]? = some y → banF r y (prevAt r.bans j) = true) ∧ Hid (Below V.heap.size V wx))
                case atStart => exact ⟨0, Nat.zero_le _, by omega, rfl, hide (by intro j y hj; omega), HBS⟩
                case round =>
                  obtain ⟨k, hk, hg, rfl, HT, HB⟩ := hrel
                  clear HBS
                  have b0 := cell_below HB.out HBC.out.1
                  have b1 := cell_below HB.out HBC.out.2.1
                  have b2 := cell_below HB.out HBC.out.2.2.1
                  have b3 := cell_below HB.out HBC.out.2.2.2.1
                  have hlw := Nat.lt_of_lt_of_le HBC.out.2.2.2.2 HB.out.size
                  by_cases hlt : k < r.bans.length
                  · obtain ⟨m, hx⟩ : ∃ m, r.bans[k]? = some m := ⟨_, List.getElem?_eq_getElem hlt⟩
                    rcases HR3.out with hnil | ⟨q, o2, rfl, hra⟩
                    · rw [hnil] at hlt; simp at hlt
                    obtain ⟨hq, hc0, hc1⟩ := ban_at hra HB.out hx
                    have HX := hide hx
                    have HRA := hide hra
                    have hlt2 : (k : Int) < (r.bans.length : Int) := by omega
                    clear hx hra
                    by_cases a1 : inB m.id 1 1000 = true
                    · by_cases a2 : inB m.until_ 0 1000000 = true
                      · by_cases a3 : hasId r m.id = true
                        · have HNO := hide (show banOkB r m = false by simp [banOkB, a3])
                          go_wp2_with fail
                          (refine wp_region_calm (by kernel_rfl) (by kernel_rfl) ?_; (repeat (first | go_big_quiet_skip | (go_big_quiet_want; go_big_quiet_op; (first | go_big_quiet_on | (apply Exists.intro; refine ⟨fun ic => ?_, ?_⟩; (focus (first | (go_at_call 29; refine (isMember_c _ _).mono ?_; rintro e w2 ⟨rfl, rfl⟩; exact ⟨rfl, Calm.same _⟩) | (go_at_call 30; refine (roleOk_c _ _).mono ?_; rintro e w2 ⟨rfl, rfl⟩; exact ⟨rfl, Calm.same _⟩) | (go_at_call 22; refine (isTick_c _ _).mono ?_; rintro e w2 ⟨rfl, rfl⟩; exact ⟨rfl, Calm.same _⟩) | (go_at_call 31; refine (roomHas_c r _ _ _ _ (HBX.out.below (HB.out.trans (ic.boxed.mono HB.out.size)))).mono ?_; rintro e w2 ⟨rfl, hb⟩; exact ⟨rfl, Calm.next _ hb⟩) | (go_at_call 32; refine (roomInv_c r _ _ _ _ (HBX.out.below (HB.out.trans (ic.boxed.mono HB.out.size)))).mono ?_; rintro e w2 ⟨rfl, hb⟩; exact ⟨rfl, Calm.next _ hb⟩); done)); go_big_quiet_on))))); refine wpQuiet_nil ?_; intro wq hwq; obtain ⟨iq, hwe⟩ := hwq; subst hwe)
                          have HB2 := hide (HB.out.trans (iq.boxed.mono HB.out.size))
                          go_wp2_with fail
                          go_ret
                          exact ⟨by rw [show validRoomB r = false from bad_ban HX.out (banF_no HNO.out)]; rfl, below_step HV.out HB2.out⟩
                        · have a3 : hasId r m.id = false := by simpa using a3
                          by_cases a4 : invd r m.id = true
                          · have HNO := hide (show banOkB r m = false by simp [banOkB, a4])
                            go_wp2_with fail
                            (refine wp_region_calm (by kernel_rfl) (by kernel_rfl) ?_; (repeat (first | go_big_quiet_skip | (go_big_quiet_want; go_big_quiet_op; (first | go_big_quiet_on | (apply Exists.intro; refine ⟨fun ic => ?_, ?_⟩; (focus (first | (go_at_call 29; refine (isMember_c _ _).mono ?_; rintro e w2 ⟨rfl, rfl⟩; exact ⟨rfl, Calm.same _⟩) | (go_at_call 30; refine (roleOk_c _ _).mono ?_; rintro e w2 ⟨rfl, rfl⟩; exact ⟨rfl, Calm.same _⟩) | (go_at_call 22; refine (isTick_c _ _).mono ?_; rintro e w2 ⟨rfl, rfl⟩; exact ⟨rfl, Calm.same _⟩) | (go_at_call 31; refine (roomHas_c r _ _ _ _ (HBX.out.below (HB.out.trans (ic.boxed.mono HB.out.size)))).mono ?_; rintro e w2 ⟨rfl, hb⟩; exact ⟨rfl, Calm.next _ hb⟩) | (go_at_call 32; refine (roomInv_c r _ _ _ _ (HBX.out.below (HB.out.trans (ic.boxed.mono HB.out.size)))).mono ?_; rintro e w2 ⟨rfl, hb⟩; exact ⟨rfl, Calm.next _ hb⟩); done)); go_big_quiet_on))))); refine wpQuiet_nil ?_; intro wq hwq; obtain ⟨iq, hwe⟩ := hwq; subst hwe)
                            have HB2 := hide (HB.out.trans (iq.boxed.mono HB.out.size))
                            go_wp2_with fail
                            go_ret
                            exact ⟨by rw [show validRoomB r = false from bad_ban HX.out (banF_no HNO.out)]; rfl, below_step HV.out HB2.out⟩
                          · have a4 : invd r m.id = false := by simpa using a4
                            have HOKM := hide (show banOkB r m = true by simp [banOkB, a1, a2, a3, a4])
                            by_cases hk0 : 0 < k
                            · obtain ⟨p, hy⟩ : ∃ p, r.bans[k - 1]? = some p := ⟨_, List.getElem?_eq_getElem (by omega)⟩
                              obtain ⟨hqp, hd0, hd1⟩ := ban_at HRA.out HB.out hy
                              have HPV := hide (prevAt_succ hk0 hy)
                              have hk1 : decide (0 < k) = true := by simp; omega
                              have hk3 : (1 : Int) ≤ (k : Int) := by omega
                              have hk5 : IntKind.i64.wrap ((k : Int) - 1) = (k : Int) - 1 := IntWalk.i64_in _ (by omega)
                              have hk6 : (0 : Int) ≤ (k : Int) - 1 := by omega
                              have hk7 : ((k : Int) - 1).toNat = k - 1 := by omega
                              clear hy
                              by_cases hpo : p.id < m.id
                              · have hpo2 : decide (m.id ≤ p.id) = false := by simp; omega
                                go_wp2_with fail
                                (refine wp_region_calm (by kernel_rfl) (by kernel_rfl) ?_; (repeat (first | go_big_quiet_skip | (go_big_quiet_want; go_big_quiet_op; (first | go_big_quiet_on | (apply Exists.intro; refine ⟨fun ic => ?_, ?_⟩; (focus (first | (go_at_call 29; refine (isMember_c _ _).mono ?_; rintro e w2 ⟨rfl, rfl⟩; exact ⟨rfl, Calm.same _⟩) | (go_at_call 30; refine (roleOk_c _ _).mono ?_; rintro e w2 ⟨rfl, rfl⟩; exact ⟨rfl, Calm.same _⟩) | (go_at_call 22; refine (isTick_c _ _).mono ?_; rintro e w2 ⟨rfl, rfl⟩; exact ⟨rfl, Calm.same _⟩) | (go_at_call 31; refine (roomHas_c r _ _ _ _ (HBX.out.below (HB.out.trans (ic.boxed.mono HB.out.size)))).mono ?_; rintro e w2 ⟨rfl, hb⟩; exact ⟨rfl, Calm.next _ hb⟩) | (go_at_call 32; refine (roomInv_c r _ _ _ _ (HBX.out.below (HB.out.trans (ic.boxed.mono HB.out.size)))).mono ?_; rintro e w2 ⟨rfl, hb⟩; exact ⟨rfl, Calm.next _ hb⟩); done)); go_big_quiet_on))))); refine wpQuiet_nil ?_; intro wq hwq; obtain ⟨iq, hwe⟩ := hwq; subst hwe)
                                have HB2 := hide (HB.out.trans (iq.boxed.mono HB.out.size))
                                go_wp2_with fail
                                go_roundg (r.bans.length - (k + 1))
                                case measure => omega
                                case rel => exact ⟨k + 1, by omega, by omega, by go_num, hide (adj_step HT.out HX.out (by rw [HPV.out]; exact banF_some HOKM.out hpo)), HB2⟩
                              · have hpo2 : decide (m.id ≤ p.id) = true := by simp; omega
                                go_wp2_with fail
                                (refine wp_region_calm (by kernel_rfl) (by kernel_rfl) ?_; (repeat (first | go_big_quiet_skip | (go_big_quiet_want; go_big_quiet_op; (first | go_big_quiet_on | (apply Exists.intro; refine ⟨fun ic => ?_, ?_⟩; (focus (first | (go_at_call 29; refine (isMember_c _ _).mono ?_; rintro e w2 ⟨rfl, rfl⟩; exact ⟨rfl, Calm.same _⟩) | (go_at_call 30; refine (roleOk_c _ _).mono ?_; rintro e w2 ⟨rfl, rfl⟩; exact ⟨rfl, Calm.same _⟩) | (go_at_call 22; refine (isTick_c _ _).mono ?_; rintro e w2 ⟨rfl, rfl⟩; exact ⟨rfl, Calm.same _⟩) | (go_at_call 31; refine (roomHas_c r _ _ _ _ (HBX.out.below (HB.out.trans (ic.boxed.mono HB.out.size)))).mono ?_; rintro e w2 ⟨rfl, hb⟩; exact ⟨rfl, Calm.next _ hb⟩) | (go_at_call 32; refine (roomInv_c r _ _ _ _ (HBX.out.below (HB.out.trans (ic.boxed.mono HB.out.size)))).mono ?_; rintro e w2 ⟨rfl, hb⟩; exact ⟨rfl, Calm.next _ hb⟩); done)); go_big_quiet_on))))); refine wpQuiet_nil ?_; intro wq hwq; obtain ⟨iq, hwe⟩ := hwq; subst hwe)
                                have HB2 := hide (HB.out.trans (iq.boxed.mono HB.out.size))
                                go_wp2_with fail
                                go_ret
                                exact ⟨by rw [show validRoomB r = false from bad_ban HX.out (by rw [HPV.out]; exact banF_ord (by omega))]; rfl, below_step HV.out HB2.out⟩
                            · have hk1 : decide (0 < k) = false := by simp; omega
                              have HPV := hide (show prevAt r.bans k = none by unfold prevAt; rw [if_pos (by omega)])
                              clear hk0
                              go_wp2_with fail
                              (refine wp_region_calm (by kernel_rfl) (by kernel_rfl) ?_; (repeat (first | go_big_quiet_skip | (go_big_quiet_want; go_big_quiet_op; (first | go_big_quiet_on | (apply Exists.intro; refine ⟨fun ic => ?_, ?_⟩; (focus (first | (go_at_call 29; refine (isMember_c _ _).mono ?_; rintro e w2 ⟨rfl, rfl⟩; exact ⟨rfl, Calm.same _⟩) | (go_at_call 30; refine (roleOk_c _ _).mono ?_; rintro e w2 ⟨rfl, rfl⟩; exact ⟨rfl, Calm.same _⟩) | (go_at_call 22; refine (isTick_c _ _).mono ?_; rintro e w2 ⟨rfl, rfl⟩; exact ⟨rfl, Calm.same _⟩) | (go_at_call 31; refine (roomHas_c r _ _ _ _ (HBX.out.below (HB.out.trans (ic.boxed.mono HB.out.size)))).mono ?_; rintro e w2 ⟨rfl, hb⟩; exact ⟨rfl, Calm.next _ hb⟩) | (go_at_call 32; refine (roomInv_c r _ _ _ _ (HBX.out.below (HB.out.trans (ic.boxed.mono HB.out.size)))).mono ?_; rintro e w2 ⟨rfl, hb⟩; exact ⟨rfl, Calm.next _ hb⟩); done)); go_big_quiet_on))))); refine wpQuiet_nil ?_; intro wq hwq; obtain ⟨iq, hwe⟩ := hwq; subst hwe)
                              have HB2 := hide (HB.out.trans (iq.boxed.mono HB.out.size))
                              go_wp2_with fail
                              go_roundg (r.bans.length - (k + 1))
                              case measure => omega
                              case rel => exact ⟨k + 1, by omega, by omega, by go_num, hide (adj_step HT.out HX.out (by rw [HPV.out]; exact banF_none HOKM.out)), HB2⟩
                      · have a2 : inB m.until_ 0 1000000 = false := by simpa using a2
                        have HNO := hide (show banOkB r m = false by simp [banOkB, a2])
                        go_wp2_with fail
                        (refine wp_region_calm (by kernel_rfl) (by kernel_rfl) ?_; (repeat (first | go_big_quiet_skip | (go_big_quiet_want; go_big_quiet_op; (first | go_big_quiet_on | (apply Exists.intro; refine ⟨fun ic => ?_, ?_⟩; (focus (first | (go_at_call 29; refine (isMember_c _ _).mono ?_; rintro e w2 ⟨rfl, rfl⟩; exact ⟨rfl, Calm.same _⟩) | (go_at_call 30; refine (roleOk_c _ _).mono ?_; rintro e w2 ⟨rfl, rfl⟩; exact ⟨rfl, Calm.same _⟩) | (go_at_call 22; refine (isTick_c _ _).mono ?_; rintro e w2 ⟨rfl, rfl⟩; exact ⟨rfl, Calm.same _⟩) | (go_at_call 31; refine (roomHas_c r _ _ _ _ (HBX.out.below (HB.out.trans (ic.boxed.mono HB.out.size)))).mono ?_; rintro e w2 ⟨rfl, hb⟩; exact ⟨rfl, Calm.next _ hb⟩) | (go_at_call 32; refine (roomInv_c r _ _ _ _ (HBX.out.below (HB.out.trans (ic.boxed.mono HB.out.size)))).mono ?_; rintro e w2 ⟨rfl, hb⟩; exact ⟨rfl, Calm.next _ hb⟩); done)); go_big_quiet_on))))); refine wpQuiet_nil ?_; intro wq hwq; obtain ⟨iq, hwe⟩ := hwq; subst hwe)
                        have HB2 := hide (HB.out.trans (iq.boxed.mono HB.out.size))
                        go_wp2_with fail
                        go_ret
                        exact ⟨by rw [show validRoomB r = false from bad_ban HX.out (banF_no HNO.out)]; rfl, below_step HV.out HB2.out⟩
                    · have a1 : inB m.id 1 1000 = false := by simpa using a1
                      have HNO := hide (show banOkB r m = false by simp [banOkB, a1])
                      go_wp2_with fail
                      (refine wp_region_calm (by kernel_rfl) (by kernel_rfl) ?_; (repeat (first | go_big_quiet_skip | (go_big_quiet_want; go_big_quiet_op; (first | go_big_quiet_on | (apply Exists.intro; refine ⟨fun ic => ?_, ?_⟩; (focus (first | (go_at_call 29; refine (isMember_c _ _).mono ?_; rintro e w2 ⟨rfl, rfl⟩; exact ⟨rfl, Calm.same _⟩) | (go_at_call 30; refine (roleOk_c _ _).mono ?_; rintro e w2 ⟨rfl, rfl⟩; exact ⟨rfl, Calm.same _⟩) | (go_at_call 22; refine (isTick_c _ _).mono ?_; rintro e w2 ⟨rfl, rfl⟩; exact ⟨rfl, Calm.same _⟩) | (go_at_call 31; refine (roomHas_c r _ _ _ _ (HBX.out.below (HB.out.trans (ic.boxed.mono HB.out.size)))).mono ?_; rintro e w2 ⟨rfl, hb⟩; exact ⟨rfl, Calm.next _ hb⟩) | (go_at_call 32; refine (roomInv_c r _ _ _ _ (HBX.out.below (HB.out.trans (ic.boxed.mono HB.out.size)))).mono ?_; rintro e w2 ⟨rfl, hb⟩; exact ⟨rfl, Calm.next _ hb⟩); done)); go_big_quiet_on))))); refine wpQuiet_nil ?_; intro wq hwq; obtain ⟨iq, hwe⟩ := hwq; subst hwe)
                      have HB2 := hide (HB.out.trans (iq.boxed.mono HB.out.size))
                      go_wp2_with fail
                      go_ret
                      exact ⟨by rw [show validRoomB r = false from bad_ban HX.out (banF_no HNO.out)]; rfl, below_step HV.out HB2.out⟩
                  · have : k = r.bans.length := by omega
                    subst this
                    have HALL3 := hide (show adjB (banF r) none r.bans = true from adj_all HT.out)
                    have HBS := HB
                    clear HT HB
                    go_wp2_with (
                      go_at_call 33
                      refine (owners_c r _ _ _ (HBX.out.below HBS.out) (mem_roles HALL1.out) (by have := HL.out.1; omega)).mono ?_
                      rintro e w2 ⟨rfl, hb⟩
                      have HB5 := hide (below_step HBS.out hb)
                      clear hb)
                    go_ret
                    refine ⟨ret_bool ?_, below_step HV.out HB5.out⟩
                    have d1 : decide (1 ≤ (r.members.length : Int)) = true := by simpa using HL.out.1.1
                    have d2 : decide ((r.members.length : Int) ≤ 32) = true := by simpa using HL.out.1.2
                    have d3 : decide ((r.invites.length : Int) ≤ 16) = true := by simpa using HL.out.2.1
                    have d4 : decide ((r.bans.length : Int) ≤ 16) = true := by simpa using HL.out.2.2
                    simp only [validRoomB, HALL1.out, HALL2.out, HALL3.out, ← roleN_own, d1, d2, d3, d4, Bool.true_and]
      · have l3' : decide ((16 : Int) < (r.bans.length : Int)) = true := by simp; omega
        have hr := hide (show validRoomB r = false by simp only [validRoomB, decide_eq_false l3, Bool.and_false, Bool.false_and])
        go_enter Try.func11, Try.ntmps11
        go_wp2_with (go_at_call 28; refine (in_c _ _ _ _).mono ?_; rintro e w' ⟨rfl, rfl⟩)
        rw [← hV]
        go_ret
        exact ⟨by rw [hr.out]; rfl, HV.out⟩
    · have l2' : decide ((16 : Int) < (r.invites.length : Int)) = true := by simp; omega
      have hr := hide (show validRoomB r = false by simp only [validRoomB, decide_eq_false l2, Bool.and_false, Bool.false_and])
      go_enter Try.func11, Try.ntmps11
      go_wp2_with (go_at_call 28; refine (in_c _ _ _ _).mono ?_; rintro e w' ⟨rfl, rfl⟩)
      rw [← hV]
      go_ret
      exact ⟨by rw [hr.out]; rfl, HV.out⟩
  · have l1' : inB (r.members.length : Int) 1 32 = false := by simpa using l1
    have hr := hide (show validRoomB r = false by
      rcases Nat.lt_or_ge r.members.length 1 with h | h
      · have : ¬ (1 : Int) ≤ (r.members.length : Int) := by omega
        simp only [validRoomB, decide_eq_false this, Bool.and_false, Bool.false_and]
      · have : ¬ (r.members.length : Int) ≤ 32 := fun h2 => l1 (inB_iff.2 ⟨by omega, h2⟩)
        simp only [validRoomB, decide_eq_false this, Bool.and_false, Bool.false_and])
    clear l1
    go_enter Try.func11, Try.ntmps11
    go_wp2_with (go_at_call 28; refine (in_c _ _ _ _).mono ?_; rintro e w' ⟨rfl, rfl⟩)
    rw [← hV]
    go_ret
    exact ⟨by rw [hr.out]; rfl, HV.out⟩
end Go.Proofs.Ytglhepbcbildpaa
