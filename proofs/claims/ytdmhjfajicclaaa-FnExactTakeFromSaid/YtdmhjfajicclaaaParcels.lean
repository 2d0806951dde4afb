/- Parcels are tested: the program and the reference. -/
import Derived.Test.YtdmhjfajicclaaaPostDef
import Derived.Test.YtdmhjfajicclaaaRGround
import Derived.Shelf.Abstract
namespace Go.Proofs.Ytdmhjfajicclaaa
open Go Go.RowKit Go.BigFrame
attribute [local go_sem] Calm.cell Calm.frozen
set_option linter.unusedVariables false
set_option linter.unusedSimpArgs false

set_option maxHeartbeats 4000000 in
theorem indexParcel_c (g : Nat) (caps : Array Value) (p : Parcel → Bool) (ms : List Parcel) (v : Value) (w : World) (hm : SliceK parcelD w v ms)
    (eg : ∀ args w, (callFunc g args).run Try.prog w = .ok (.enter g args) w)
    (hc : ∀ (m : Parcel) (W : World), Below w.heap.size w W → Calls Try.prog g (#[.agg #[.int .i64 m.room, .int .i64 m.number]] ++ caps) W fun e W' => e = .returned (.bool (p m)) ∧ Below W.heap.size W W') :
    Calls Try.prog 74 #[v, .func (.func g) #[] caps] w fun e w' => e = .returned (.int .i64 (idxP p ms)) ∧ Below w.heap.size w w' := by
  obtain ⟨A, c, rfl, hl, hmx, hra⟩ := hm
  have HA := hide hra
  have HC := hide hc
  clear hra hc
  go_enter Try.func74, Try.ntmps74
  go_wp2_with fail
  go_loopg [8] ms.length (fun gg s8 wr => ∃ k : Nat, k ≤ ms.length ∧ ms.length - k ≤ gg ∧ s8 = .int .i64 k ∧ Hid (∀ j y, j < k → ms[j]? = some y → p y = false) ∧ Hid (Below w.heap.size w wr))
  case atStart => exact ⟨0, Nat.zero_le _, by omega, rfl, hide (by intro j y hj; omega), Below.refl _ _⟩
  case round =>
    obtain ⟨k, hk, hg, rfl, HT, HB⟩ := hrel
    by_cases hlt : k < ms.length
    · obtain ⟨m, hx⟩ : ∃ m, ms[k]? = some m := ⟨_, List.getElem?_eq_getElem hlt⟩
      rcases HA.out with hnil | ⟨q, o2, rfl, hra⟩
      · rw [hnil] at hlt; simp at hlt
      obtain ⟨hq, hc0, hc1⟩ := parcel_at hra HB.out hx
      have HX := hide hx
      have hlt2 : (k : Int) < (ms.length : Int) := by omega
      clear hx hra HA
      by_cases hpm : p m = true
      · have HPM := hide hpm
        clear hpm
        go_wp2_with (first
          | (go_at_fn g
             refine (HC.out m _ HB.out).mono ?_
             rintro e w1 ⟨rfl, hb⟩
             rw [HPM.out]
             have HN := hide (HB.out.trans (hb.mono HB.out.size))
             clear hb))
        go_ret
        exact ⟨by rw [idxP_hit HT.out HX.out HPM.out]; rfl, HN.out⟩
      · have HPM := hide (show p m = false by simpa using hpm)
        clear hpm
        go_wp2_with (first
          | (go_at_fn g
             refine (HC.out m _ HB.out).mono ?_
             rintro e w1 ⟨rfl, hb⟩
             rw [HPM.out]
             have HN := hide (HB.out.trans (hb.mono HB.out.size))
             clear hb))
        go_roundg (ms.length - (k + 1))
        case measure => omega
        case rel => exact ⟨k + 1, by omega, by omega, by go_num, hide (idxP_step HT.out HX.out HPM.out), HN⟩
    · have : k = ms.length := by omega
      subst this
      have hr := hide (idxP_miss HT.out)
      clear HA HC
      go_wp2_with fail
      go_ret
      exact ⟨by rw [hr.out]; rfl, HB.out⟩
theorem parcelOk_c (x : Parcel) (w : World) : Calls Try.prog 75 #[.agg #[.int .i64 x.room, .int .i64 x.number]] w fun e w' => e = .returned (.bool (parOkB x)) ∧ Below w.heap.size w w' := by
  have HB := hide ((Below.refl w.heap.size w).alloc (Nat.le_refl _) (.cells #[.int .i64 x.room, .int .i64 x.number] 68))
  by_cases h1 : inB x.room 1 1000 = true
  · have H1 := hide h1
    have hr := hide (show parOkB x = inB x.number 1 1000000 by simp [parOkB, h1])
    clear h1
    go_enter Try.func75, Try.ntmps75
    go_wp2_with (
      go_at_call 40
      refine (in_c _ _ _ _).mono ?_
      rintro e w' ⟨rfl, rfl⟩
      first | rw [H1.out] | skip)
    go_ret
    exact ⟨by rw [hr.out]; rfl, HB.out⟩
  · have H1 := hide (show inB x.room 1 1000 = false by simpa using h1)
    have hr := hide (show parOkB x = false by simp [parOkB, H1.out])
    clear h1
    go_enter Try.func75, Try.ntmps75
    go_wp2_with (
      go_at_call 40
      refine (in_c _ _ _ _).mono ?_
      rintro e w' ⟨rfl, rfl⟩
      rw [H1.out])
    go_ret
    exact ⟨by rw [hr.out]; rfl, HB.out⟩
theorem badParcel_c (x : Parcel) (w : World) : Calls Try.prog 67 #[.agg #[.int .i64 x.room, .int .i64 x.number]] w fun e w' => e = .returned (.bool (!parOkB x)) ∧ Below w.heap.size w w' := by
  have HB := hide ((Below.refl w.heap.size w).alloc (Nat.le_refl _) (.cells #[.int .i64 x.room, .int .i64 x.number] 68))
  go_enter Try.func67, Try.ntmps67
  go_wp2_with (
    go_at_call 75
    refine (parcelOk_c x _).mono ?_
    rintro e w1 ⟨rfl, hb⟩
    have HB1 := hide (HB.out.trans (hb.mono (by simp)))
    clear hb)
  go_ret
  exact ⟨rfl, HB1.out⟩
set_option maxHeartbeats 4000000 in
theorem containsParcel_c (g : Nat) (caps : Array Value) (p : Parcel → Bool) (ms : List Parcel) (v : Value) (w : World) (hm : SliceK parcelD w v ms)
    (eg : ∀ args w, (callFunc g args).run Try.prog w = .ok (.enter g args) w)
    (hc : ∀ (m : Parcel) (W : World), Below w.heap.size w W → Calls Try.prog g (#[.agg #[.int .i64 m.room, .int .i64 m.number]] ++ caps) W fun e W' => e = .returned (.bool (p m)) ∧ Below W.heap.size W W') :
    Calls Try.prog 66 #[v, .func (.func g) #[] caps] w fun e w' => e = .returned (.bool (decide (0 ≤ idxP p ms))) ∧ Below w.heap.size w w' := by
  obtain ⟨A, c, rfl⟩ := hm.shape
  have HM := hide hm
  have HC := hide hc
  clear hm hc
  go_enter Try.func66, Try.ntmps66
  go_wp2_with (go_at_call 74
               refine (indexParcel_c g caps p ms _ _ HM.out eg HC.out).mono ?_
               rintro e w1 ⟨rfl, hb⟩
               have HN := hide hb
               clear hb)
  go_ret
  exact ⟨rfl, HN.out⟩
end Go.Proofs.Ytdmhjfajicclaaa
