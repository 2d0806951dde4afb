/- What a member may do: the program and the reference. -/
import Derived.Test.YtnglccgbenlbjaaGreatSpecRoom
import Derived.Test.YtnglccgbenlbjaaGreatRTypes
namespace Go.Proofs.YtnglccgbenlbjaaGreat
open Go Go.RowKit Go.BigFrame
attribute [local go_sem] Calm.cell Calm.frozen
set_option linter.unusedVariables false
set_option linter.unusedSimpArgs false

set_option maxHeartbeats 4000000 in
theorem roleMay_c (role act : Int) (w : World) : Calls Tryz.prog 103 #[.int .i64 role, .int .i64 act] w fun e w' => e = .returned (.bool (mayB role act)) ∧ Below w.heap.size w w' := by
  by_cases h1 : inB role 0 3 = true
  · by_cases h2 : act < 0
    · have HR := hide (may_neg (role := role) h2)
      go_enter Tryz.func103, Tryz.ntmps103
      go_wp2_with (go_at_call 87; refine (roleOk_c _ _).mono ?_; rintro e w' ⟨rfl, rfl⟩)
      go_ret
      exact ⟨by rw [HR.out]; rfl, Below.refl _ _⟩
    · have h2' : decide (act < 0) = false := by simp; omega
      have hr := inB_iff.1 h1
      have HR := hide (may_in h1 (Int.not_lt.1 h2))
      have h4 : role = 0 ∨ role = 1 ∨ role = 2 ∨ role = 3 := by omega
      clear hr
      rcases h4 with rfl | rfl | rfl | rfl
      all_goals
        have h1' : inB _ 0 3 = true := h1
        go_enter Tryz.func103, Tryz.ntmps103
        go_wp2_with (go_at_call 87; refine (roleOk_c _ _).mono ?_; rintro e w' ⟨rfl, rfl⟩)
        go_ret
        refine ⟨?_, (Below.refl _ _).alloc (Nat.le_refl _) _⟩
        rw [HR.out]
        rfl
  · have h1' : inB role 0 3 = false := by simpa using h1
    have HR := hide (may_role (act := act) h1')
    clear h1
    go_enter Tryz.func103, Tryz.ntmps103
    go_wp2_with (go_at_call 87; refine (roleOk_c _ _).mono ?_; rintro e w' ⟨rfl, rfl⟩)
    go_ret
    exact ⟨by rw [HR.out]; rfl, Below.refl _ _⟩
set_option maxHeartbeats 4000000 in
theorem l02May_c (role act : Int) (w : World) : Calls Tryz.prog 102 #[.int .i64 role, .int .i64 act] w fun e w' => e = .returned (.bool (mayB role act)) ∧ Below w.heap.size w w' := by
  by_cases h1 : inB role 0 3 = true
  · by_cases h2 : inB act 0 8 = true
    · have h2i := inB_iff.1 h2
      by_cases c1 : act ≤ 1
      · have HR := hide (may_1 h1 h2i.1 c1)
        clear h2i
        (go_enter Tryz.func102, Tryz.ntmps102; go_wp2_with (first | (go_at_call 85; refine (l02Role_c _ _).mono ?_; rintro e w' ⟨rfl, rfl⟩) | (go_at_call 56; refine (l00In_c _ _ _ _).mono ?_; rintro e w' ⟨rfl, rfl⟩)); go_ret; exact ⟨by rw [HR.out]; rfl, Below.refl _ _⟩)
      · by_cases c3 : act ≤ 3
        · have HR := hide (may_3 h1 (Int.not_le.1 c1) c3)
          clear h2i
          (go_enter Tryz.func102, Tryz.ntmps102; go_wp2_with (first | (go_at_call 85; refine (l02Role_c _ _).mono ?_; rintro e w' ⟨rfl, rfl⟩) | (go_at_call 56; refine (l00In_c _ _ _ _).mono ?_; rintro e w' ⟨rfl, rfl⟩)); go_ret; exact ⟨by rw [HR.out]; rfl, Below.refl _ _⟩)
        · by_cases c6 : act ≤ 6
          · have HR := hide (may_6 h1 (Int.not_le.1 c3) c6)
            clear h2i
            (go_enter Tryz.func102, Tryz.ntmps102; go_wp2_with (first | (go_at_call 85; refine (l02Role_c _ _).mono ?_; rintro e w' ⟨rfl, rfl⟩) | (go_at_call 56; refine (l00In_c _ _ _ _).mono ?_; rintro e w' ⟨rfl, rfl⟩)); go_ret; exact ⟨by rw [HR.out]; rfl, Below.refl _ _⟩)
          · have HR := hide (show mayB role act = (role == 3) by rw [may_8 h1 (Int.not_le.1 c6) h2i.2]; rfl)
            clear h2i
            (go_enter Tryz.func102, Tryz.ntmps102; go_wp2_with (first | (go_at_call 85; refine (l02Role_c _ _).mono ?_; rintro e w' ⟨rfl, rfl⟩) | (go_at_call 56; refine (l00In_c _ _ _ _).mono ?_; rintro e w' ⟨rfl, rfl⟩)); go_ret; exact ⟨by rw [HR.out]; rfl, Below.refl _ _⟩)
    · have h2' : inB act 0 8 = false := by simpa using h2
      have HR := hide (show mayB role act = false by
        by_cases h0 : act < 0
        · exact may_neg h0
        · exact may_big (by
            rcases Int.lt_or_le 8 act with h | h
            · exact h
            · exact absurd (inB_iff.2 ⟨by omega, h⟩) h2))
      clear h2
      (go_enter Tryz.func102, Tryz.ntmps102; go_wp2_with (first | (go_at_call 85; refine (l02Role_c _ _).mono ?_; rintro e w' ⟨rfl, rfl⟩) | (go_at_call 56; refine (l00In_c _ _ _ _).mono ?_; rintro e w' ⟨rfl, rfl⟩)); go_ret; exact ⟨by rw [HR.out]; rfl, Below.refl _ _⟩)
  · have h1' : inB role 0 3 = false := by simpa using h1
    have HR := hide (may_role (act := act) h1')
    clear h1
    (go_enter Tryz.func102, Tryz.ntmps102; go_wp2_with (first | (go_at_call 85; refine (l02Role_c _ _).mono ?_; rintro e w' ⟨rfl, rfl⟩) | (go_at_call 56; refine (l00In_c _ _ _ _).mono ?_; rintro e w' ⟨rfl, rfl⟩)); go_ret; exact ⟨by rw [HR.out]; rfl, Below.refl _ _⟩)
set_option maxHeartbeats 8000000 in
theorem allowed_c (r : Room) (b o : Nat) (n act a : Int) (w : World) (hp : RowAt roomD w b o [r]) :
    Calls Tryz.prog 84 #[.pointer (some ⟨b, o, none⟩), .int .i64 n, .int .i64 act, .int .i64 a] w fun e w' => e = .returned (.bool (allowB r n act a)) ∧ Below w.heap.size w w' := by
  obtain ⟨v1, v2, v3, h1, h2, h3, hbz, hb0, hb1, hb2, hb3⟩ := room_at hp (Below.refl _ _) (j := 0) rfl
  simp only [Nat.zero_mul, Nat.add_zero] at hb0 hb1 hb2 hb3
  obtain ⟨A, c, rfl, hl, hm, hra⟩ := h1
  have HP := hide hp
  clear hp h2 h3
  by_cases hn : 0 ≤ idxP (idIs n) r.members
  · obtain ⟨k, m, hk, hlk, hx, hmn⟩ := idxP_found hn
    have hlt2 : (k : Int) < (r.members.length : Int) := by omega
    have HAL := hide (allow_at (act := act) (a := a) hk hx)
    rcases hra with hnil | ⟨q, o2, rfl, hra⟩
    · rw [hnil] at hlk; simp at hlk
    obtain ⟨hq, hc0, hc1, hc2, hc3⟩ := member_at hra (Below.refl _ _) hx
    clear hn hx hmn hra
    by_cases ht : inB a 0 1000000 = true
    · by_cases hmay : mayB m.role act = true
      · have HMAY := hide hmay
        have HV := hide (show allowB r n act a = (decide (m.quiet ≤ a) || decide (act = 0)) by rw [HAL.out, ht, hmay]; rfl)
        clear hmay
        go_enter Tryz.func84, Tryz.ntmps84
        go_wp2_with (first
          | (go_at_call 63
             refine (roomAt_c r _ _ n _ HP.out).mono ?_
             rintro e w1 ⟨rfl, hb⟩
             rw [hk]
             obtain ⟨iq, rfl⟩ : ∃ i : Calm _, w1 = i.world := ⟨⟨w1, hb⟩, rfl⟩
             clear hb
             have hz := iq.size)
          | (go_at_call 88; refine (isTick_c _ _).mono ?_; rintro e w' ⟨rfl, rfl⟩)
          | (go_at_call 103
             refine (roleMay_c _ _ _).mono ?_
             rintro e w2 ⟨rfl, hb⟩
             rw [HMAY.out]
             have g3 : w2.cell? ⟨iq.world.heap.size, 3, none⟩ = some (.int .i64 m.quiet) := cell_below hb (by simp)
             have HN := hide (below_step ((Below.refl _ _).alloc (Nat.le_refl _) _) hb)
             have HN := hide (below_step iq.below HN.out)
             clear hb))
        all_goals
          go_ret
          refine ⟨ret_bool ?_, HN.out⟩
          rw [HV.out]
          first
          | (simp [*]; done)
          | (rw [Bool.eq_iff_iff]; simp [*]; done)
          | (rw [Bool.eq_iff_iff]; simp [*]; omega)
      · have HMAY := hide (show mayB m.role act = false by simpa using hmay)
        have HV := hide (show allowB r n act a = false by rw [HAL.out, HMAY.out]; simp)
        clear hmay
        go_enter Tryz.func84, Tryz.ntmps84
        go_wp2_with (first
          | (go_at_call 63
             refine (roomAt_c r _ _ n _ HP.out).mono ?_
             rintro e w1 ⟨rfl, hb⟩
             rw [hk]
             obtain ⟨iq, rfl⟩ : ∃ i : Calm _, w1 = i.world := ⟨⟨w1, hb⟩, rfl⟩
             clear hb
             have hz := iq.size)
          | (go_at_call 88; refine (isTick_c _ _).mono ?_; rintro e w' ⟨rfl, rfl⟩)
          | (go_at_call 103
             refine (roleMay_c _ _ _).mono ?_
             rintro e w2 ⟨rfl, hb⟩
             rw [HMAY.out]
             have HN := hide (below_step ((Below.refl _ _).alloc (Nat.le_refl _) _) hb)
             have HN := hide (below_step iq.below HN.out)
             clear hb))
        go_ret
        exact ⟨by rw [HV.out]; rfl, HN.out⟩
    · have ht' : inB a 0 1000000 = false := by simpa using ht
      have HV := hide (show allowB r n act a = false by rw [HAL.out, ht']; rfl)
      clear ht
      go_enter Tryz.func84, Tryz.ntmps84
      go_wp2_with (first
        | (go_at_call 63
           refine (roomAt_c r _ _ n _ HP.out).mono ?_
           rintro e w1 ⟨rfl, hb⟩
           rw [hk]
           obtain ⟨iq, rfl⟩ : ∃ i : Calm _, w1 = i.world := ⟨⟨w1, hb⟩, rfl⟩
           clear hb
           have hz := iq.size)
        | (go_at_call 88; refine (isTick_c _ _).mono ?_; rintro e w' ⟨rfl, rfl⟩))
      go_ret
      exact ⟨by rw [HV.out]; rfl, iq.below⟩
  · have hn2 : idxP (idIs n) r.members < 0 := by omega
    have HV := hide (allow_none (act := act) (a := a) hn2)
    clear hn hra
    go_enter Tryz.func84, Tryz.ntmps84
    go_wp2_with (go_at_call 63
                 refine (roomAt_c r _ _ n _ HP.out).mono ?_
                 rintro e w1 ⟨rfl, hb⟩
                 skip
                 obtain ⟨iq, rfl⟩ : ∃ i : Calm _, w1 = i.world := ⟨⟨w1, hb⟩, rfl⟩
                 clear hb
                 have hz := iq.size)
    go_ret
    exact ⟨by rw [HV.out]; rfl, iq.below⟩
set_option maxHeartbeats 8000000 in
theorem l02Allowed_c (r : Room) (b o : Nat) (n act a : Int) (w : World) (hp : RowAt roomD w b o [r]) :
    Calls Tryz.prog 82 #[.pointer (some ⟨b, o, none⟩), .int .i64 n, .int .i64 act, .int .i64 a] w fun e w' => e = .returned (.bool (allowB r n act a)) ∧ Below w.heap.size w w' := by
  obtain ⟨v1, v2, v3, h1, h2, h3, hbz, hb0, hb1, hb2, hb3⟩ := room_at hp (Below.refl _ _) (j := 0) rfl
  simp only [Nat.zero_mul, Nat.add_zero] at hb0 hb1 hb2 hb3
  obtain ⟨A, c, rfl, hl, hm, hra⟩ := h1
  have HP := hide hp
  clear hp h2 h3
  by_cases hn : 0 ≤ idxP (idIs n) r.members
  · obtain ⟨k, m, hk, hlk, hx, hmn⟩ := idxP_found hn
    have hlt2 : (k : Int) < (r.members.length : Int) := by omega
    have HAL := hide (allow_at (act := act) (a := a) hk hx)
    rcases hra with hnil | ⟨q, o2, rfl, hra⟩
    · rw [hnil] at hlk; simp at hlk
    obtain ⟨hq, hc0, hc1, hc2, hc3⟩ := member_at hra (Below.refl _ _) hx
    clear hn hx hmn hra
    by_cases ht : inB a 0 1000000 = true
    · by_cases hmay : mayB m.role act = true
      · have HMAY := hide hmay
        have HV := hide (show allowB r n act a = (decide (m.quiet ≤ a) || decide (act = 0)) by rw [HAL.out, ht, hmay]; rfl)
        clear hmay
        go_enter Tryz.func82, Tryz.ntmps82
        go_wp2_with (first
          | (go_at_call 23
             refine (l02Find_c r _ _ n _ HP.out).mono ?_
             rintro e w1 ⟨rfl, hb⟩
             rw [hk]
             obtain ⟨iq, rfl⟩ : ∃ i : Calm _, w1 = i.world := ⟨⟨w1, hb⟩, rfl⟩
             clear hb
             have hz := iq.size)
          | (go_at_call 22; refine (l02Tick_c _ _).mono ?_; rintro e w' ⟨rfl, rfl⟩)
          | (go_at_call 102
             refine (l02May_c _ _ _).mono ?_
             rintro e w2 ⟨rfl, hb⟩
             rw [HMAY.out]
             obtain ⟨ir, rfl⟩ : ∃ i : Calm _, w2 = i.world := ⟨⟨w2, hb⟩, rfl⟩
             clear hb
             have hbz3 : b < iq.world.heap.size := (by omega)
             have hq3 : q < iq.world.heap.size := (by omega)))
        all_goals
          go_ret
          refine ⟨ret_bool ?_, below_step iq.below ir.below⟩
          rw [HV.out]
          first
          | (simp [*]; done)
          | (rw [Bool.eq_iff_iff]; simp [*]; done)
          | (rw [Bool.eq_iff_iff]; simp [*]; omega)
      · have HMAY := hide (show mayB m.role act = false by simpa using hmay)
        have HV := hide (show allowB r n act a = false by rw [HAL.out, HMAY.out]; simp)
        clear hmay
        go_enter Tryz.func82, Tryz.ntmps82
        go_wp2_with (first
          | (go_at_call 23
             refine (l02Find_c r _ _ n _ HP.out).mono ?_
             rintro e w1 ⟨rfl, hb⟩
             rw [hk]
             obtain ⟨iq, rfl⟩ : ∃ i : Calm _, w1 = i.world := ⟨⟨w1, hb⟩, rfl⟩
             clear hb
             have hz := iq.size)
          | (go_at_call 22; refine (l02Tick_c _ _).mono ?_; rintro e w' ⟨rfl, rfl⟩)
          | (go_at_call 102
             refine (l02May_c _ _ _).mono ?_
             rintro e w2 ⟨rfl, hb⟩
             rw [HMAY.out]
             have HN := hide (below_step iq.below hb)
             clear hb))
        go_ret
        exact ⟨by rw [HV.out]; rfl, HN.out⟩
    · have ht' : inB a 0 1000000 = false := by simpa using ht
      have HV := hide (show allowB r n act a = false by rw [HAL.out, ht']; rfl)
      clear ht
      go_enter Tryz.func82, Tryz.ntmps82
      go_wp2_with (first
        | (go_at_call 23
           refine (l02Find_c r _ _ n _ HP.out).mono ?_
           rintro e w1 ⟨rfl, hb⟩
           rw [hk]
           obtain ⟨iq, rfl⟩ : ∃ i : Calm _, w1 = i.world := ⟨⟨w1, hb⟩, rfl⟩
           clear hb
           have hz := iq.size)
        | (go_at_call 22; refine (l02Tick_c _ _).mono ?_; rintro e w' ⟨rfl, rfl⟩))
      go_ret
      exact ⟨by rw [HV.out]; rfl, iq.below⟩
  · have hn2 : idxP (idIs n) r.members < 0 := by omega
    have HV := hide (allow_none (act := act) (a := a) hn2)
    clear hn hra
    go_enter Tryz.func82, Tryz.ntmps82
    go_wp2_with (go_at_call 23
                 refine (l02Find_c r _ _ n _ HP.out).mono ?_
                 rintro e w1 ⟨rfl, hb⟩
                 skip
                 obtain ⟨iq, rfl⟩ : ∃ i : Calm _, w1 = i.world := ⟨⟨w1, hb⟩, rfl⟩
                 clear hb
                 have hz := iq.size)
    go_ret
    exact ⟨by rw [HV.out]; rfl, iq.below⟩
end Go.Proofs.YtnglccgbenlbjaaGreat
