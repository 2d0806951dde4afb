/- Rows of parcels are tested. -/
import Derived.Test.YtdmhjfajicclaaaParcels
namespace Go.Proofs.Ytdmhjfajicclaaa
open Go Go.RowKit Go.BigFrame
attribute [local go_sem] Calm.cell Calm.frozen
set_option linter.unusedVariables false
set_option linter.unusedSimpArgs false

theorem anyBad (l : List Parcel) : (!decide (0 ≤ idxP (fun p => !parOkB p) l)) = l.all parOkB := by
  rcases idxP_cases (fun p => !parOkB p) l with h | ⟨k, x, h1, h2, h3, h4⟩
  · rw [h]
    symm
    show l.all parOkB = true
    rw [List.all_eq_true]
    intro x hx
    unfold idxP at h
    rcases hf : l.findIdx? (fun p => !parOkB p) with _ | j
    · rw [List.findIdx?_eq_none_iff] at hf
      simpa using hf x hx
    · rw [hf] at h; simp at h <;> omega
  · rw [h1]
    have : decide ((0 : Int) ≤ (k : Int)) = true := by simp
    rw [this]
    symm
    show l.all parOkB = false
    rw [List.all_eq_false]
    exact ⟨x, List.mem_of_getElem? h3, by simpa using h4⟩
set_option maxHeartbeats 4000000 in
theorem parcelsOk_c (l : List Parcel) (v : Value) (w : World) (hl : SliceK parcelD w v l) : Calls Try.prog 48 #[v] w fun e w' => e = .returned (.bool (parsOkB l)) ∧ Below w.heap.size w w' := by
  obtain ⟨A, c, rfl⟩ := hl.shape
  have HL := hide hl
  clear hl
  have eg := enters_of Try.func67 (by kernel_rfl) rfl
  by_cases h1 : (l.length : Int) ≤ 64
  · have hd : decide ((l.length : Int) ≤ 64) = true := by simpa using h1
    have hr := hide (show parsOkB l = !decide (0 ≤ idxP (fun p => !parOkB p) l) by rw [anyBad]; simp only [parsOkB, hd, Bool.true_and])
    go_enter Try.func48, Try.ntmps48
    go_wp2_with (
      go_at_call 66
      refine (containsParcel_c _ #[] (fun p => !parOkB p) l _ _ HL.out eg (fun m W hb => badParcel_c m W)).mono ?_
      rintro e w1 ⟨rfl, hb⟩
      have HN := hide hb
      clear hb)
    go_ret
    exact ⟨by rw [hr.out]; rfl, HN.out⟩
  · have hd : decide ((l.length : Int) ≤ 64) = false := by simpa using h1
    have hr := hide (show parsOkB l = false by simp only [parsOkB, hd, Bool.false_and])
    go_enter Try.func48, Try.ntmps48
    go_wp2_with fail
    go_ret
    exact ⟨by rw [hr.out]; rfl, Below.refl _ _⟩
theorem l04Parcel_c (x : Parcel) (w : World) : Calls Try.prog 65 #[.agg #[.int .i64 x.room, .int .i64 x.number]] w fun e w' => e = .returned (.bool (parOkB x)) ∧ Below w.heap.size w w' := by
  have HB := hide ((Below.refl w.heap.size w).alloc (Nat.le_refl _) (.cells #[.int .i64 x.room, .int .i64 x.number] 68))
  by_cases h1 : inB x.room 1 1000 = true
  · have H1 := hide h1
    have hr := hide (show parOkB x = inB x.number 1 1000000 by simp [parOkB, h1])
    clear h1
    go_enter Try.func65, Try.ntmps65
    go_wp2_with (
      go_at_call 37
      refine (l00In_c _ _ _ _).mono ?_
      rintro e w' ⟨rfl, rfl⟩
      first | rw [H1.out] | skip)
    go_ret
    exact ⟨by rw [hr.out]; rfl, HB.out⟩
  · have H1 := hide (show inB x.room 1 1000 = false by simpa using h1)
    have hr := hide (show parOkB x = false by simp [parOkB, H1.out])
    clear h1
    go_enter Try.func65, Try.ntmps65
    go_wp2_with (
      go_at_call 37
      refine (l00In_c _ _ _ _).mono ?_
      rintro e w' ⟨rfl, rfl⟩
      rw [H1.out])
    go_ret
    exact ⟨by rw [hr.out]; rfl, HB.out⟩
set_option maxHeartbeats 4000000 in
theorem l04Parcels_c (l : List Parcel) (v : Value) (w : World) (hl : SliceK parcelD w v l) : Calls Try.prog 43 #[v] w fun e w' => e = .returned (.bool (parsOkB l)) ∧ Below w.heap.size w w' := by
  obtain ⟨A, c, rfl, hlc, hmx, hra⟩ := hl
  have HA := hide hra
  clear hra
  by_cases h1 : (l.length : Int) ≤ 64
  · have hd : decide ((l.length : Int) ≤ 64) = true := by simpa using h1
    go_enter Try.func43, Try.ntmps43
    go_wp2_with fail
    go_loopg [3] l.length (fun gg s3 wr => ∃ k : Nat, k ≤ l.length ∧ l.length - k ≤ gg ∧ s3 = .int .i64 k ∧ Hid (∀ j y, j < k → l[j]? = some y → parOkB y = true) ∧ Hid (Below w.heap.size w wr))
    case atStart => exact ⟨0, Nat.zero_le _, by omega, rfl, hide (by intro j y hj; omega), Below.refl _ _⟩
    case round =>
      obtain ⟨k, hk, hg, rfl, HT, HB⟩ := hrel
      by_cases hlt : k < l.length
      · obtain ⟨m, hx⟩ : ∃ m, l[k]? = some m := ⟨_, List.getElem?_eq_getElem hlt⟩
        rcases HA.out with hnil | ⟨q, o2, rfl, hra⟩
        · rw [hnil] at hlt; simp at hlt
        obtain ⟨hq, hc0, hc1⟩ := parcel_at hra HB.out hx
        have HX := hide hx
        have hlt2 : (k : Int) < (l.length : Int) := by omega
        clear hx hra HA
        by_cases hpm : parOkB m = true
        · have HPM := hide hpm
          clear hpm
          go_wp2_with (
            go_at_call 65
            refine (l04Parcel_c m _).mono ?_
            rintro e w1 ⟨rfl, hb⟩
            rw [HPM.out]
            have HN := hide (HB.out.trans (hb.mono HB.out.size))
            clear hb)
          go_roundg (l.length - (k + 1))
          case measure => omega
          case rel =>
            refine ⟨k + 1, by omega, by omega, by go_num, hide (fun j y hj hy => ?_), HN⟩
            by_cases e : j = k
            · subst e; rw [HX.out] at hy; cases hy; exact HPM.out
            · exact HT.out j y (by omega) hy
        · have HPM := hide (show parOkB m = false by simpa using hpm)
          have hr := hide (show parsOkB l = false by
            have : l.all parOkB = false := by rw [List.all_eq_false]; exact ⟨m, List.mem_of_getElem? HX.out, by simpa using hpm⟩
            simp [parsOkB, this])
          clear hpm
          go_wp2_with (
            go_at_call 65
            refine (l04Parcel_c m _).mono ?_
            rintro e w1 ⟨rfl, hb⟩
            rw [HPM.out]
            have HN := hide (HB.out.trans (hb.mono HB.out.size))
            clear hb)
          go_ret
          exact ⟨by rw [hr.out]; rfl, HN.out⟩
      · obtain rfl : k = l.length := by omega
        have hr := hide (show parsOkB l = true by
          simp only [parsOkB, hd, Bool.true_and, List.all_eq_true]
          intro x hx
          obtain ⟨j, hj, rfl⟩ := List.mem_iff_getElem.1 hx
          exact HT.out j _ hj (List.getElem?_eq_getElem hj))
        clear HA
        go_wp2_with fail
        go_ret
        exact ⟨by rw [hr.out]; rfl, HB.out⟩
  · have hd : decide ((l.length : Int) ≤ 64) = false := by simpa using h1
    have hr := hide (show parsOkB l = false by simp only [parsOkB, hd, Bool.false_and])
    go_enter Try.func43, Try.ntmps43
    go_wp2_with fail
    go_loopg [3] 0 (fun gg s3 wr => s3 = .int .i64 0 ∧ wr = w)
    case atStart => exact ⟨rfl, rfl⟩
    case round =>
      obtain ⟨rfl, rfl⟩ := hrel
      go_wp2_with fail
      go_ret
      exact ⟨by rw [hr.out]; rfl, Below.refl _ _⟩
end Go.Proofs.Ytdmhjfajicclaaa
