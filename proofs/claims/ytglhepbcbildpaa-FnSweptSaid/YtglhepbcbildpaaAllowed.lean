/- What a member may do: the program and the reference. -/
import Derived.Test.YtglhepbcbildpaaSpecRoom
import Derived.Test.YtglhepbcbildpaaRTypes
namespace Go.Proofs.Ytglhepbcbildpaa
open Go Go.RowKit Go.BigFrame
attribute [local go_sem] Calm.cell Calm.frozen
set_option linter.unusedVariables false
set_option linter.unusedSimpArgs false

set_option maxHeartbeats 4000000 in
theorem roleMay_c (role act : Int) (w : World) : Calls Try.prog 48 #[.int .i64 role, .int .i64 act] w fun e w' => e = .returned (.bool (mayB role act)) ∧ Below w.heap.size w w' := by
  by_cases h1 : inB role 0 3 = true
  · by_cases h2 : act < 0
    · have HR := hide (may_neg (role := role) h2)
      go_enter Try.func48, Try.ntmps48
      go_wp2_with (go_at_call 30; refine (roleOk_c _ _).mono ?_; rintro e w' ⟨rfl, rfl⟩)
      go_ret
      exact ⟨by rw [HR.out]; rfl, Below.refl _ _⟩
    · have h2' : decide (act < 0) = false := by simp; omega
      have hr := inB_iff.1 h1
      have HR := hide (may_in h1 (Int.not_lt.1 h2))
      have h4 : role = 0 ∨ role = 1 ∨ role = 2 ∨ role = 3 := by omega
      clear hr
      rcases h4 with rfl | rfl | rfl | rfl
      all_goals
        have h1' : inB _ 0 3 = true := h1
        go_enter Try.func48, Try.ntmps48
        go_wp2_with (go_at_call 30; refine (roleOk_c _ _).mono ?_; rintro e w' ⟨rfl, rfl⟩)
        go_ret
        refine ⟨?_, (Below.refl _ _).alloc (Nat.le_refl _) _⟩
        rw [HR.out]
        rfl
  · have h1' : inB role 0 3 = false := by simpa using h1
    have HR := hide (may_role (act := act) h1')
    clear h1
    go_enter Try.func48, Try.ntmps48
    go_wp2_with (go_at_call 30; refine (roleOk_c _ _).mono ?_; rintro e w' ⟨rfl, rfl⟩)
    go_ret
    exact ⟨by rw [HR.out]; rfl, Below.refl _ _⟩
set_option maxHeartbeats 8000000 in
theorem allowed_c (r : Room) (b o : Nat) (n act a : Int) (w : World) (hp : RowAt roomD w b o [r]) :
    Calls Try.prog 34 #[.pointer (some ⟨b, o, none⟩), .int .i64 n, .int .i64 act, .int .i64 a] w fun e w' => e = .returned (.bool (allowB r n act a)) ∧ Below w.heap.size w w' := by
  obtain ⟨v1, v2, v3, h1, h2, h3, hbz, hb0, hb1, hb2, hb3⟩ := room_at hp (Below.refl _ _) (j := 0) rfl
  simp only [Nat.zero_mul, Nat.add_zero] at hb0 hb1 hb2 hb3
  obtain ⟨A, c, rfl, hl, hm, hra⟩ := h1
  have HP := hide hp
  clear hp h2 h3
  by_cases hn : 0 ≤ idxP (idIs n) r.members
  · obtain ⟨k, m, hk, hlk, hx, hmn⟩ := idxP_found hn
    have hlt2 : (k : Int) < (r.members.length : Int) := by omega
    have HAL := hide (allow_at (act := act) (a := a) hk hx)
    rcases hra with hnil | ⟨q, o2, rfl, hra⟩
    · rw [hnil] at hlk; simp at hlk
    obtain ⟨hq, hc0, hc1, hc2, hc3⟩ := member_at hra (Below.refl _ _) hx
    clear hn hx hmn hra
    by_cases ht : inB a 0 1000000 = true
    · by_cases hmay : mayB m.role act = true
      · have HMAY := hide hmay
        have HV := hide (show allowB r n act a = (decide (m.quiet ≤ a) || decide (act = 0)) by rw [HAL.out, ht, hmay]; rfl)
        clear hmay
        go_enter Try.func34, Try.ntmps34
        go_wp2_with (first
          | (go_at_call 35
             refine (roomAt_c r _ _ n _ HP.out).mono ?_
             rintro e w1 ⟨rfl, hb⟩
             rw [hk]
             obtain ⟨iq, rfl⟩ : ∃ i : Calm _, w1 = i.world := ⟨⟨w1, hb⟩, rfl⟩
             clear hb
             have hz := iq.size)
          | (go_at_call 22; refine (isTick_c _ _).mono ?_; rintro e w' ⟨rfl, rfl⟩)
          | (go_at_call 48
             refine (roleMay_c _ _ _).mono ?_
             rintro e w2 ⟨rfl, hb⟩
             rw [HMAY.out]
             have g3 : w2.cell? ⟨iq.world.heap.size, 3, none⟩ = some (.int .i64 m.quiet) := cell_below hb (by simp)
             have HN := hide (below_step ((Below.refl _ _).alloc (Nat.le_refl _) _) hb)
             have HN := hide (below_step iq.below HN.out)
             clear hb))
        all_goals
          go_ret
          refine ⟨ret_bool ?_, HN.out⟩
          rw [HV.out]
          first
          | (simp [*]; done)
          | (rw [Bool.eq_iff_iff]; simp [*]; done)
          | (rw [Bool.eq_iff_iff]; simp [*]; omega)
      · have HMAY := hide (show mayB m.role act = false by simpa using hmay)
        have HV := hide (show allowB r n act a = false by rw [HAL.out, HMAY.out]; simp)
        clear hmay
        go_enter Try.func34, Try.ntmps34
        go_wp2_with (first
          | (go_at_call 35
             refine (roomAt_c r _ _ n _ HP.out).mono ?_
             rintro e w1 ⟨rfl, hb⟩
             rw [hk]
             obtain ⟨iq, rfl⟩ : ∃ i : Calm _, w1 = i.world := ⟨⟨w1, hb⟩, rfl⟩
             clear hb
             have hz := iq.size)
          | (go_at_call 22; refine (isTick_c _ _).mono ?_; rintro e w' ⟨rfl, rfl⟩)
          | (go_at_call 48
             refine (roleMay_c _ _ _).mono ?_
             rintro e w2 ⟨rfl, hb⟩
             rw [HMAY.out]
             have HN := hide (below_step ((Below.refl _ _).alloc (Nat.le_refl _) _) hb)
             have HN := hide (below_step iq.below HN.out)
             clear hb))
        go_ret
        exact ⟨by rw [HV.out]; rfl, HN.out⟩
    · have ht' : inB a 0 1000000 = false := by simpa using ht
      have HV := hide (show allowB r n act a = false by rw [HAL.out, ht']; rfl)
      clear ht
      go_enter Try.func34, Try.ntmps34
      go_wp2_with (first
        | (go_at_call 35
           refine (roomAt_c r _ _ n _ HP.out).mono ?_
           rintro e w1 ⟨rfl, hb⟩
           rw [hk]
           obtain ⟨iq, rfl⟩ : ∃ i : Calm _, w1 = i.world := ⟨⟨w1, hb⟩, rfl⟩
           clear hb
           have hz := iq.size)
        | (go_at_call 22; refine (isTick_c _ _).mono ?_; rintro e w' ⟨rfl, rfl⟩))
      go_ret
      exact ⟨by rw [HV.out]; rfl, iq.below⟩
  · have hn2 : idxP (idIs n) r.members < 0 := by omega
    have HV := hide (allow_none (act := act) (a := a) hn2)
    clear hn hra
    go_enter Try.func34, Try.ntmps34
    go_wp2_with (go_at_call 35
                 refine (roomAt_c r _ _ n _ HP.out).mono ?_
                 rintro e w1 ⟨rfl, hb⟩
                 skip
                 obtain ⟨iq, rfl⟩ : ∃ i : Calm _, w1 = i.world := ⟨⟨w1, hb⟩, rfl⟩
                 clear hb
                 have hz := iq.size)
    go_ret
    exact ⟨by rw [HV.out]; rfl, iq.below⟩
set_option maxHeartbeats 4000000 in
theorem isAllowed_c (r : Room) (v1 v2 v3 : Value) (n act a : Int) (w : World) (h1 : SliceK memberD w v1 r.members) (h2 : SliceK inviteD w v2 r.invites) (h3 : SliceK banD w v3 r.bans) :
    Calls Try.prog 12 #[.agg #[.bool r.open_, v1, v2, v3], .int .i64 n, .int .i64 act, .int .i64 a] w fun e w' => e = .returned (.bool (isAllowed r n act a)) ∧ Below w.heap.size w w' := by
  obtain ⟨A1, c1, rfl⟩ := h1.shape
  obtain ⟨A2, c2, rfl⟩ := h2.shape
  obtain ⟨A3, c3, rfl⟩ := h3.shape
  have HW := hide ((Below.refl w.heap.size w).alloc (Nat.le_refl _) (.cells #[.bool r.open_, .slice A1 r.members.length c1, .slice A2 r.invites.length c2, .slice A3 r.bans.length c3] 28))
  have HBX := hide (RowAt.box (d := roomD) (x := r) (room_K_mk h1 h2 h3) (arr := #[.bool r.open_, .slice A1 r.members.length c1, .slice A2 r.invites.length c2, .slice A3 r.bans.length c3]) rfl 28)
  have HK := hide (And.intro (h1.below HW.out) (And.intro (h2.below HW.out) (h3.below HW.out)))
  clear h1 h2 h3
  by_cases hv : validRoomB r = true
  · have HV := hide hv
    have HR := hide (show isAllowed r n act a = allowB r n act a by unfold isAllowed; rw [hv]; rfl)
    clear hv
    go_enter Try.func12, Try.ntmps12
    go_wp2_with (first
      | (go_at_call 11
         refine (validRoom_c r _ _ _ _ HK.out.1 HK.out.2.1 HK.out.2.2).mono ?_
         rintro e w1 ⟨rfl, hb⟩
         rw [HV.out]
         have HB1 := hide hb
         clear hb)
      | (go_at_call 34
         refine (allowed_c r _ _ n act a _ (HBX.out.below HB1.out)).mono ?_
         rintro e w2 ⟨rfl, hb⟩
         have HB2 := hide (below_step (below_step HW.out HB1.out) hb)
         clear hb))
    go_ret
    exact ⟨by rw [HR.out]; rfl, HB2.out⟩
  · have HV := hide (show validRoomB r = false by simpa using hv)
    have HR := hide (show isAllowed r n act a = false by unfold isAllowed; rw [HV.out]; rfl)
    clear hv
    go_enter Try.func12, Try.ntmps12
    go_wp2_with (
      go_at_call 11
      refine (validRoom_c r _ _ _ _ HK.out.1 HK.out.2.1 HK.out.2.2).mono ?_
      rintro e w1 ⟨rfl, hb⟩
      rw [HV.out]
      have HB1 := hide (below_step HW.out hb)
      clear hb)
    go_ret
    exact ⟨by rw [HR.out]; rfl, HB1.out⟩
end Go.Proofs.Ytglhepbcbildpaa
