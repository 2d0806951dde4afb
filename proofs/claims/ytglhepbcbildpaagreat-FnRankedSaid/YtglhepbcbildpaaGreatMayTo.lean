/- Whether a member may do an act to somebody: the program and the reference. -/
import Derived.Test.YtglhepbcbildpaaGreatChanged
import Derived.Test.YtglhepbcbildpaaGreatAllowed
namespace Go.Proofs.YtglhepbcbildpaaGreat
open Go Go.RowKit Go.BigFrame
set_option linter.unusedVariables false
set_option linter.unusedSimpArgs false
attribute [local go_sem] Calm.cell Calm.frozen
def roleAt (r : Room) (n : Int) : Int := match r.members.find? (idIs n) with
  | none => -1
  | some m => m.role
def mayToB (r : Room) (n id act a : Int) : Bool := inB id 1 1000 && (decide (n ≠ id) && (allowB r n act a && (decide (idxP (idIs id) r.members < 0) || decide (roleAt r id < roleAt r n))))
theorem roleAt_at {r : Room} {n : Int} {k : Nat} {m : Member} (h : idxP (idIs n) r.members = (k : Int)) (hk : r.members[k]? = some m) : roleAt r n = m.role := by simp [roleAt, idx_find h hk]
theorem allow_found {r : Room} {n act a : Int} (h : allowB r n act a = true) : 0 ≤ idxP (idIs n) r.members := by
  by_cases h0 : 0 ≤ idxP (idIs n) r.members
  · exact h0
  · rw [allow_none (by omega)] at h; cases h
set_option maxHeartbeats 8000000 in
set_option maxRecDepth 100000 in
theorem mayTo_c (r : Room) (b o : Nat) (n id act a : Int) (w : World) (hp : RowAt roomD w b o [r]) :
    Calls Tryz.prog 45 #[.pointer (some ⟨b, o, none⟩), .int .i64 n, .int .i64 id, .int .i64 act, .int .i64 a] w fun e w' => e = .returned (.bool (mayToB r n id act a)) ∧ Below w.heap.size w w' := by
  obtain ⟨v1, v2, v3, h1, h2, h3, hbz, hb0, hb1, hb2, hb3⟩ := room_at hp (Below.refl _ _) (j := 0) rfl
  simp only [Nat.zero_mul, Nat.add_zero] at hb0 hb1 hb2 hb3
  obtain ⟨A, c, rfl, hl, hm, hra⟩ := h1
  have HP := hide hp
  have HRA := hide hra
  clear hp h2 h3 hra
  by_cases hi : inB id 1 1000 = true
  · have HI := hide hi
    clear hi
    by_cases hne : n = id
    · subst hne
      have HV := hide (show mayToB r n n act a = false by simp [mayToB])
      go_enter Tryz.func45, Tryz.ntmps45
      go_wp2_with (first
        | (go_at_call 30
           refine (roomAt_c r _ _ n _ HP.out).mono ?_
           rintro e w1 ⟨rfl, hb⟩
           skip
           have p1 := cell_below hb hb1
           have z1 := Nat.lt_of_lt_of_le hbz hb.size
           have HB1 := hide hb
           skip
           clear hb))
      (refine wp_region_calm (by kernel_rfl) (by kernel_rfl) ?_; (repeat (first | go_big_quiet_skip | (go_big_quiet_want; go_big_quiet_op; (first | go_big_quiet_on | (apply Exists.intro; refine ⟨fun ic => ?_, ?_⟩; (focus (first | (go_at_call 35; refine (isMember_c _ _).mono ?_; rintro e w2 ⟨rfl, rfl⟩; rw [HI.out]; exact ⟨rfl, Calm.same _⟩) | (go_at_call 46; refine (allowed_c r _ _ n act a _ (HP.out.below (HB1.out.trans (ic.below.mono HB1.out.size)))).mono ?_; rintro e w2 ⟨rfl, hb⟩; rw [HA.out]; exact ⟨rfl, Calm.next _ hb⟩) | (go_at_call 30; refine (roomAt_c r _ _ n _ (HP.out.below (HB1.out.trans (ic.below.mono HB1.out.size)))).mono ?_; rintro e w2 ⟨rfl, hb⟩; rw [hk2]; exact ⟨rfl, Calm.next _ hb⟩); done)); go_big_quiet_on))))); refine wpQuiet_nil ?_; intro wq hwq; obtain ⟨iq, hwe⟩ := hwq; subst hwe)
      go_wp2_with fail
      go_ret
      exact ⟨by rw [HV.out]; rfl, below_step HB1.out iq.below⟩
    · have hne1 : (n != id) = true := by simpa using hne
      by_cases ha : allowB r n act a = true
      · have HA := hide ha
        obtain ⟨k2, m2, hk2, hlk2, hx2, hmn2⟩ := idxP_found (allow_found ha)
        have hlt2 : (k2 : Int) < (r.members.length : Int) := by omega
        have hr2 := roleAt_at hk2 hx2
        clear ha
        by_cases hn : 0 ≤ idxP (idIs id) r.members
        · obtain ⟨k, m, hk, hlk, hx, hmn⟩ := idxP_found hn
          have hlt : (k : Int) < (r.members.length : Int) := by omega
          have hr1 := roleAt_at hk hx
          have HV := hide (show mayToB r n id act a = decide (m.role < m2.role) by simp [mayToB, HI.out, HA.out, hne, hr1, hr2, hk]; omega)
          rcases HRA.out with hnil | ⟨q, o2, rfl, hra⟩
          · rw [hnil] at hlk; simp at hlk
          obtain ⟨hq, hc0, hc1, hc2, hc3⟩ := member_at hra (Below.refl _ _) hx
          obtain ⟨-, hd0, hd1, hd2, hd3⟩ := member_at hra (Below.refl _ _) hx2
          have hk0 : decide ((k : Int) < 0) = false := decide_eq_false (by omega)
          clear hn hx hmn hx2 hmn2 hra hr1 hr2
          go_enter Tryz.func45, Tryz.ntmps45
          go_wp2_with (first
            | (go_at_call 30
               refine (roomAt_c r _ _ id _ HP.out).mono ?_
               rintro e w1 ⟨rfl, hb⟩
               rw [hk]
               have p1 := cell_below hb hb1
               have z1 := Nat.lt_of_lt_of_le hbz hb.size
               have HB1 := hide hb
               (have c0 := cell_below hb hc1; have c1 := cell_below hb hd1; have zq := Nat.lt_of_lt_of_le hq hb.size)
               clear hb))
          (refine wp_region_calm (by kernel_rfl) (by kernel_rfl) ?_; (repeat (first | go_big_quiet_skip | (go_big_quiet_want; go_big_quiet_op; (first | go_big_quiet_on | (apply Exists.intro; refine ⟨fun ic => ?_, ?_⟩; (focus (first | (go_at_call 35; refine (isMember_c _ _).mono ?_; rintro e w2 ⟨rfl, rfl⟩; rw [HI.out]; exact ⟨rfl, Calm.same _⟩) | (go_at_call 46; refine (allowed_c r _ _ n act a _ (HP.out.below (HB1.out.trans (ic.below.mono HB1.out.size)))).mono ?_; rintro e w2 ⟨rfl, hb⟩; rw [HA.out]; exact ⟨rfl, Calm.next _ hb⟩) | (go_at_call 30; refine (roomAt_c r _ _ n _ (HP.out.below (HB1.out.trans (ic.below.mono HB1.out.size)))).mono ?_; rintro e w2 ⟨rfl, hb⟩; rw [hk2]; exact ⟨rfl, Calm.next _ hb⟩); done)); go_big_quiet_on))))); refine wpQuiet_nil ?_; intro wq hwq; obtain ⟨iq, hwe⟩ := hwq; subst hwe)
          go_wp2_with fail
          go_ret
          exact ⟨by rw [HV.out]; rfl, below_step HB1.out iq.below⟩
        · have hn2 : idxP (idIs id) r.members < 0 := by omega
          have HV := hide (show mayToB r n id act a = true by simp [mayToB, HI.out, HA.out, hne, hn2])
          clear hn hx2 hmn2 hr2
          go_enter Tryz.func45, Tryz.ntmps45
          go_wp2_with (first
            | (go_at_call 30
               refine (roomAt_c r _ _ id _ HP.out).mono ?_
               rintro e w1 ⟨rfl, hb⟩
               skip
               have p1 := cell_below hb hb1
               have z1 := Nat.lt_of_lt_of_le hbz hb.size
               have HB1 := hide hb
               skip
               clear hb))
          (refine wp_region_calm (by kernel_rfl) (by kernel_rfl) ?_; (repeat (first | go_big_quiet_skip | (go_big_quiet_want; go_big_quiet_op; (first | go_big_quiet_on | (apply Exists.intro; refine ⟨fun ic => ?_, ?_⟩; (focus (first | (go_at_call 35; refine (isMember_c _ _).mono ?_; rintro e w2 ⟨rfl, rfl⟩; rw [HI.out]; exact ⟨rfl, Calm.same _⟩) | (go_at_call 46; refine (allowed_c r _ _ n act a _ (HP.out.below (HB1.out.trans (ic.below.mono HB1.out.size)))).mono ?_; rintro e w2 ⟨rfl, hb⟩; rw [HA.out]; exact ⟨rfl, Calm.next _ hb⟩) | (go_at_call 30; refine (roomAt_c r _ _ n _ (HP.out.below (HB1.out.trans (ic.below.mono HB1.out.size)))).mono ?_; rintro e w2 ⟨rfl, hb⟩; rw [hk2]; exact ⟨rfl, Calm.next _ hb⟩); done)); go_big_quiet_on))))); refine wpQuiet_nil ?_; intro wq hwq; obtain ⟨iq, hwe⟩ := hwq; subst hwe)
          go_wp2_with fail
          go_ret
          exact ⟨by rw [HV.out]; rfl, below_step HB1.out iq.below⟩
      · have HA := hide (show allowB r n act a = false by simpa using ha)
        have HV := hide (show mayToB r n id act a = false by simp [mayToB, HA.out])
        clear ha
        go_enter Tryz.func45, Tryz.ntmps45
        go_wp2_with (first
          | (go_at_call 30
             refine (roomAt_c r _ _ id _ HP.out).mono ?_
             rintro e w1 ⟨rfl, hb⟩
             skip
             have p1 := cell_below hb hb1
             have z1 := Nat.lt_of_lt_of_le hbz hb.size
             have HB1 := hide hb
             skip
             clear hb))
        (refine wp_region_calm (by kernel_rfl) (by kernel_rfl) ?_; (repeat (first | go_big_quiet_skip | (go_big_quiet_want; go_big_quiet_op; (first | go_big_quiet_on | (apply Exists.intro; refine ⟨fun ic => ?_, ?_⟩; (focus (first | (go_at_call 35; refine (isMember_c _ _).mono ?_; rintro e w2 ⟨rfl, rfl⟩; rw [HI.out]; exact ⟨rfl, Calm.same _⟩) | (go_at_call 46; refine (allowed_c r _ _ n act a _ (HP.out.below (HB1.out.trans (ic.below.mono HB1.out.size)))).mono ?_; rintro e w2 ⟨rfl, hb⟩; rw [HA.out]; exact ⟨rfl, Calm.next _ hb⟩) | (go_at_call 30; refine (roomAt_c r _ _ n _ (HP.out.below (HB1.out.trans (ic.below.mono HB1.out.size)))).mono ?_; rintro e w2 ⟨rfl, hb⟩; rw [hk2]; exact ⟨rfl, Calm.next _ hb⟩); done)); go_big_quiet_on))))); refine wpQuiet_nil ?_; intro wq hwq; obtain ⟨iq, hwe⟩ := hwq; subst hwe)
        go_wp2_with fail
        go_ret
        exact ⟨by rw [HV.out]; rfl, below_step HB1.out iq.below⟩
  · have HI := hide (show inB id 1 1000 = false by simpa using hi)
    have HV := hide (show mayToB r n id act a = false by simp [mayToB, HI.out])
    clear hi
    go_enter Tryz.func45, Tryz.ntmps45
    go_wp2_with (first
      | (go_at_call 30
         refine (roomAt_c r _ _ id _ HP.out).mono ?_
         rintro e w1 ⟨rfl, hb⟩
         skip
         have p1 := cell_below hb hb1
         have z1 := Nat.lt_of_lt_of_le hbz hb.size
         have HB1 := hide hb
         skip
         clear hb))
    (refine wp_region_calm (by kernel_rfl) (by kernel_rfl) ?_; (repeat (first | go_big_quiet_skip | (go_big_quiet_want; go_big_quiet_op; (first | go_big_quiet_on | (apply Exists.intro; refine ⟨fun ic => ?_, ?_⟩; (focus (first | (go_at_call 35; refine (isMember_c _ _).mono ?_; rintro e w2 ⟨rfl, rfl⟩; rw [HI.out]; exact ⟨rfl, Calm.same _⟩) | (go_at_call 46; refine (allowed_c r _ _ n act a _ (HP.out.below (HB1.out.trans (ic.below.mono HB1.out.size)))).mono ?_; rintro e w2 ⟨rfl, hb⟩; rw [HA.out]; exact ⟨rfl, Calm.next _ hb⟩) | (go_at_call 30; refine (roomAt_c r _ _ n _ (HP.out.below (HB1.out.trans (ic.below.mono HB1.out.size)))).mono ?_; rintro e w2 ⟨rfl, hb⟩; rw [hk2]; exact ⟨rfl, Calm.next _ hb⟩); done)); go_big_quiet_on))))); refine wpQuiet_nil ?_; intro wq hwq; obtain ⟨iq, hwe⟩ := hwq; subst hwe)
    go_wp2_with fail
    go_ret
    exact ⟨by rw [HV.out]; rfl, below_step HB1.out iq.below⟩
def aboveB (r : Room) (n id act a : Int) : Bool := validRoomB r && mayToB r n id act a
end Go.Proofs.YtglhepbcbildpaaGreat
