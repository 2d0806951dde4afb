/- Words are tested: the program's wordOk, the reference's l08Word. -/
import Derived.Test.YticjphaagmnahaaBytes
import Derived.Test.YticjphaagmnahaaRGround
import Derived.Shelf.Abstract
namespace Go.Proofs.Yticjphaagmnahaa
open Go Go.RowKit Go.BigFrame
set_option linter.unusedVariables false
set_option linter.unusedSimpArgs false

def wordB (s : ByteArray) : Bool := s.data.toList.all wbB && (decide (1 ≤ (s.size : Int)) && decide ((s.size : Int) ≤ 80))
theorem word_fail {s : ByteArray} {k : Nat} (hk : k < s.size) (h : wbB s[k] = false) : wordB s = false := by
  unfold wordB
  rw [Bool.and_eq_false_iff]; left
  rw [List.all_eq_false]
  exact ⟨s[k], by rw [ByteArray.getElem_eq_getElem_data]; simp, by simp [h]⟩
theorem word_all {s : ByteArray} (h : ∀ k (hk : k < s.size), wbB s[k] = true) : wordB s = (decide (1 ≤ (s.size : Int)) && decide ((s.size : Int) ≤ 80)) := by
  unfold wordB
  rw [List.all_eq_true.2, Bool.true_and]
  intro c hc
  obtain ⟨i, hi, rfl⟩ := List.mem_iff_getElem.1 hc
  have := h i (by simpa using hi)
  rwa [ByteArray.getElem_eq_getElem_data] at this
theorem word_size {s : ByteArray} (h : wordB s = true) : 1 ≤ s.size ∧ s.size ≤ 80 := by
  simp only [wordB, Bool.and_eq_true, decide_eq_true_eq] at h
  omega
set_option maxHeartbeats 1000000 in
theorem wordOk_c (s : ByteArray) (w : World) (hs : s.size ≤ 9223372036854775807) : Calls Try.prog 112 #[.string s] w fun e w' => e = .returned (.bool (wordB s)) ∧ Below w.heap.size w w' := by
  go_enter Try.func112, Try.ntmps112
  go_wp2_with fail
  go_loopg [6] s.size (fun gg s6 wr => ∃ k : Nat, k ≤ s.size ∧ s.size - k ≤ gg ∧ s6 = .int .i64 k ∧ Hid (∀ j (hj : j < s.size), j < k → wbB s[j] = true) ∧ Hid (wr = w))
  case atStart => exact ⟨0, Nat.zero_le _, by omega, rfl, hide (by intro j hj h; omega), hide rfl⟩
  case round =>
    obtain ⟨k, hk, hg, rfl, HT, HB⟩ := hrel
    by_cases hlt : k < s.size
    · by_cases hc : wbB s[k] = true
      · have HC := hide hc
        clear hc
        go_wp2_with (go_at_call 145; refine (wordByte_c _ _).mono ?_; rintro e w' ⟨rfl, rfl⟩; rw [HC.out])
        go_roundg (s.size - (k + 1))
        case measure => omega
        case rel =>
          exact ⟨k + 1, by omega, by omega, by go_num, hide (fun j hj h => by
            by_cases e : j = k
            · subst e; exact HC.out
            · exact HT.out j hj (by omega)), HB⟩
      · have HC := hide (show wbB s[k] = false by simpa using hc)
        clear hc
        go_wp2_with (go_at_call 145; refine (wordByte_c _ _).mono ?_; rintro e w' ⟨rfl, rfl⟩; rw [HC.out])
        go_ret
        exact ⟨by rw [word_fail hlt HC.out]; rfl, by rw [HB.out]; exact Below.refl _ _⟩
    · have : k = s.size := by omega
      subst this
      have hr := word_all fun j hj => HT.out j hj hj
      by_cases h1 : 1 ≤ (s.size : Int)
      · have HR := hide (show wordB s = decide ((s.size : Int) ≤ 80) by rw [hr, decide_eq_true h1, Bool.true_and])
        clear hr
        go_wp2_with fail
        go_ret
        exact ⟨by rw [HR.out]; rfl, by rw [HB.out]; exact Below.refl _ _⟩
      · have HR := hide (show wordB s = false by rw [hr, decide_eq_false h1, Bool.false_and])
        clear hr
        go_wp2_with fail
        go_ret
        exact ⟨by rw [HR.out]; rfl, by rw [HB.out]; exact Below.refl _ _⟩
set_option maxHeartbeats 2000000 in
theorem l08Word_c (s : ByteArray) (w : World) (hs : s.size ≤ 9223372036854775807) : Calls Try.prog 108 #[.string s] w fun e w' => e = .returned (.bool (wordB s)) ∧ Below w.heap.size w w' := by
  by_cases h1 : (s.size : Int) < 1
  · have HR := hide (show wordB s = false by unfold wordB; rw [decide_eq_false (show ¬ 1 ≤ (s.size : Int) by omega)]; simp)
    go_enter Try.func108, Try.ntmps108
    go_wp2_with fail
    go_ret
    exact ⟨by rw [HR.out]; rfl, Below.refl _ _⟩
  by_cases h2 : (80 : Int) < (s.size : Int)
  · have HR := hide (show wordB s = false by unfold wordB; rw [decide_eq_false (show ¬ (s.size : Int) ≤ 80 by omega)]; simp)
    go_enter Try.func108, Try.ntmps108
    go_wp2_with fail
    go_ret
    exact ⟨by rw [HR.out]; rfl, Below.refl _ _⟩
  have HS := hide (show (decide (1 ≤ (s.size : Int)) && decide ((s.size : Int) ≤ 80)) = true by rw [decide_eq_true (show 1 ≤ (s.size : Int) by omega), decide_eq_true (show (s.size : Int) ≤ 80 by omega)]; rfl)
  go_enter Try.func108, Try.ntmps108
  go_wp2_with fail
  go_loopg [3] s.size (fun gg s6 wr => ∃ k : Nat, k ≤ s.size ∧ s.size - k ≤ gg ∧ s6 = .int .i64 k ∧ Hid (∀ j (hj : j < s.size), j < k → wbB s[j] = true) ∧ Hid (Below w.heap.size w wr))
  case atStart => exact ⟨0, Nat.zero_le _, by omega, rfl, hide (by intro j hj h; omega), hide (Below.refl _ _)⟩
  case round =>
    obtain ⟨k, hk, hg, rfl, HT, HB⟩ := hrel
    by_cases hlt : k < s.size
    · by_cases h0 : s[k] = 0
      · have HC := hide (show wbB s[k] = false by rw [h0]; rfl)
        have hz : (s[k].toNat : Int) = 0 := by rw [h0]; rfl
        clear h0
        go_wp2_with fail
        all_goals try go_quiet (fail)
        all_goals go_wp2_with fail
        all_goals go_ret
        exact ⟨by rw [word_fail hlt HC.out]; rfl, by first | exact HB.out | exact below_drewN HB.out _⟩
      · have hz0 : ¬ (s[k].toNat : Int) = 0 := fun e => h0 (UInt8.toNat_inj.1 (by simpa using e))
        have hz : ((s[k].toNat : Int) == 0) = false := beq_eq_false_iff_ne.2 hz0
        clear hz0
        have hs6 := l06_same s[k]
        rw [decide_eq_false h0, Bool.not_false, Bool.true_and] at hs6
        by_cases hc : wbB s[k] = true
        · have HC := hide hc
          have HL := hide (show ((l06C s[k]).toNat : Int) = (s[k].toNat : Int) by rw [hc] at hs6; rw [of_decide_eq_true hs6.symm])
          clear hc hs6 h0
          go_wp2_with fail
          (refine wp_region_calm (by kernel_rfl) (by kernel_rfl) ?_; (repeat (first | go_big_quiet_skip | (go_big_quiet_want; go_big_quiet_op; (first | go_big_quiet_on | (apply Exists.intro; refine ⟨fun ic => ?_, ?_⟩; (focus (go_at_call 144; refine (l06Low_c _ _).mono ?_; rintro e w' ⟨rfl, rfl⟩; rw [HL.out]; exact ⟨rfl, Calm.same _⟩; done)); go_big_quiet_on))))); refine wpQuiet_nil ?_; intro wq hwq; obtain ⟨iq, hwe⟩ := hwq; subst hwe)
          all_goals go_wp2_with fail
          go_roundg (s.size - (k + 1))
          case measure => omega
          case rel =>
            exact ⟨k + 1, by omega, by omega, by go_num, hide (fun j hj h => by
              by_cases e : j = k
              · subst e; exact HC.out
              · exact HT.out j hj (by omega)), by first | exact HB | exact hide (below_step HB.out iq.below)⟩
        · have HC := hide (show wbB s[k] = false by simpa using hc)
          have hne : ¬ l06C s[k] = s[k] := by rw [HC.out] at hs6; exact of_decide_eq_false hs6.symm
          have hn2 : (((l06C s[k]).toNat : Int) == (s[k].toNat : Int)) = false := beq_eq_false_iff_ne.2 fun e => hne (UInt8.toNat_inj.1 (by omega))
          have hn3 : (((l06C s[k]).toNat : Int) != (s[k].toNat : Int)) = true := by rw [bne, hn2]; rfl
          clear hc hs6 h0 hne
          go_wp2_with fail
          (refine wp_region_calm (by kernel_rfl) (by kernel_rfl) ?_; (repeat (first | go_big_quiet_skip | (go_big_quiet_want; go_big_quiet_op; (first | go_big_quiet_on | (apply Exists.intro; refine ⟨fun ic => ?_, ?_⟩; (focus (go_at_call 144; refine (l06Low_c _ _).mono ?_; rintro e w' ⟨rfl, rfl⟩; exact ⟨rfl, Calm.same _⟩; done)); go_big_quiet_on))))); refine wpQuiet_nil ?_; intro wq hwq; obtain ⟨iq, hwe⟩ := hwq; subst hwe)
          all_goals go_wp2_with fail
          all_goals go_ret
          exact ⟨by rw [word_fail hlt HC.out]; rfl, by first | exact HB.out | exact below_step HB.out iq.below⟩
    · have : k = s.size := by omega
      subst this
      have HR := hide (show wordB s = true by rw [word_all fun j hj => HT.out j hj hj]; exact HS.out)
      go_wp2_with fail
      go_ret
      exact ⟨by rw [HR.out]; rfl, HB.out⟩
end Go.Proofs.Yticjphaagmnahaa
