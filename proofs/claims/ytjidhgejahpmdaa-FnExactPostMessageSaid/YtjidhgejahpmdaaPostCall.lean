/- A message is posted: the reference's own call. -/
import Derived.Test.YtjidhgejahpmdaaPostSpec
namespace Go.Proofs.Ytjidhgejahpmdaa
open Go Go.RowKit Go.BigFrame
attribute [local go_sem] Calm.cell Calm.frozen
set_option linter.unusedVariables false
set_option linter.unusedSimpArgs false

set_option maxHeartbeats 8000000 in
set_option maxRecDepth 100000 in
theorem specPostMessage_c (l : Log) (v1 : Value) (s a : Int) (t : ByteArray) (r : Int) (w : World) (h1 : SliceK messageD w v1 l.messages) (ht : okTexts l.messages) (hs_t : t.size ≤ 1048576) :
    Calls Try.prog 29 #[.agg #[.int .i64 l.next, v1], .int .i64 s, .int .i64 a, .string t, .int .i64 r] w (RetElem3 logD w (postL l s a t r) (postN l s a t r) (postOk l s a t r)) := by
  obtain ⟨A, c, rfl⟩ := h1.shape
  have HT := hide ht
  have HBX := hide ((RowAt.box (d := logD) (x := l) (log_K_mk h1) (arr := #[.int .i64 l.next, .slice A l.messages.length c]) rfl 31).below ((Below.refl _ _).alloc (Nat.le_refl _) (.cells #[.int .i64 0, .slice none 0 0] 31)))
  clear h1 ht
  have HW := hide (((Below.refl w.heap.size w).alloc (Nat.le_refl _) (.cells #[.int .i64 l.next, .slice A l.messages.length c] 31)).alloc (by simp) (.cells #[.int .i64 0, .slice none 0 0] 31))
  have HZB := hide (show ((w.alloc (.cells #[.int .i64 l.next, .slice A l.messages.length c] 31)).alloc (.cells #[.int .i64 0, .slice none 0 0] 31)).heap[w.heap.size + 1]? = some (.cells #[.int .i64 0, .slice none 0 0] 31 (0, 0)) by
    have := alloc_new (w.alloc (.cells #[.int .i64 l.next, .slice A l.messages.length c] 31)) (.cells #[.int .i64 0, .slice none 0 0] 31)
    simpa using this)
  by_cases hv : validLogB l = true
  · have HV := hide hv
    clear hv
    by_cases hc : (postC l r && validLogB (postNew l s a t r)) = true
    · have HCV := hide hc
      have HOK := hide (show postOk l s a t r = true by unfold postOk; rw [HV.out, hc]; rfl)
      clear hc
      go_enter Try.func29, Try.ntmps29
      go_wp2_with (first
        | (go_at_call 53
           refine (l03Is_c l _ _ _ HBX.out HT.out).mono ?_
           rintro e w0 ⟨rfl, hb⟩
           rw [HV.out]
           have HB0 := hide hb
           clear hb)
        | (go_at_call 66
           refine (l03Post_c l _ _ s a t r _ (HBX.out.below HB0.out) HT.out HV.out hs_t).mono ?_
           intro e w1 hrp
           unfold RetPost at hrp
           rw [HCV.out] at hrp
           obtain ⟨cs, F, rfl, hM, hF, hge, hb⟩ := hrp
           rw [if_pos rfl] at hM
           obtain ⟨v9, F9, rfl, hFF, hS⟩ := log_M hM
           obtain ⟨A9, c9, rfl⟩ := hS.toK.shape
           clear hS hFF
           have HB := hide (HB0.out.trans (hb.mono HB0.out.size))
           have hz1 := HB.out.size
           simp only [World.size_alloc] at hz1
           have hbl := (HB.out.block _ (by simp)).trans HZB.out
           have p0 : w1.cell? ⟨w.heap.size + 1, 0, none⟩ = some (.int .i64 0) := by rw [cell_block hbl]; rfl
           have p1 : w1.cell? ⟨w.heap.size + 1, 1, none⟩ = some (.slice none 0 0) := by rw [cell_block hbl]; rfl
           have pf : ∀ o, w1.frozen? ⟨w.heap.size + 1, o, none⟩ = false := fun o => frozen_block hbl
           have n0 : w1.cell? ⟨w.heap.size, 0, none⟩ = some (.int .i64 l.next) := (HB.out.cell (p := ⟨w.heap.size, 0, none⟩) (by simp; omega)).trans (by go_simp)
           have hlw : w.heap.size < w1.heap.size := (by omega)
           have hlw2 : w.heap.size + 1 < w1.heap.size := (by omega)
           have HE := hide (below_step HW.out HB.out)
           have HMD := hide (And.intro hM (And.intro hF (show ∀ b ∈ F, w.heap.size + 1 < b from fun b hb => (by have := hge b hb; have h2 := HB0.out.size; simp at h2; omega))))
           clear hM hF hge hb hbl))
      go_region
      all_goals
        go_wp2_with fail
        have HZ : Hid (∀ wz, Chg [w.heap.size + 1, w1.heap.size] w1 wz → RetElem3 logD w (postL l s a t r) (postN l s a t r) (postOk l s a t r) (.returned (.tuple #[.agg #[.int .i64 (postNew l s a t r).next, .slice A9 (postNew l s a t r).messages.length c9], .int .i64 l.next, .bool true])) wz) := by
          intro wz hch
          rw [(postL_yes HOK.out).1, (postL_yes HOK.out).2, HOK.out]
          obtain ⟨hM, hF, hge⟩ := HMD.out
          exact ⟨_, F, rfl, Dt.M_move _ (fun b hb => hch.block b (logD.M_lt hM b hb) (by have h1 := hge b hb; have h2 := logD.M_lt hM b hb; simp; omega)) hM, hF, fun b hb => by have := hge b hb; omega, HE.out.trans (hch.below HE.out.size (by simp; omega))⟩
        refine bodyPost_ret (v := .tuple #[.agg #[.int .i64 (postNew l s a t r).next, .slice A9 (postNew l s a t r).messages.length c9], .int .i64 l.next, .bool true]) (by simp [results, Try.results29, go_sem, p0, p1, pf, hlw2]) rfl (HZ.out _ ?_)
        (repeat (first | (with_reducible refine Chg.drew ?_) | (with_reducible refine Chg.alloc ?_ _) | (with_reducible refine Chg.setCell ?_ (.inl (by simp)) _)))
        exact Chg.refl _ _
    · have HCV := hide (show (postC l r && validLogB (postNew l s a t r)) = false by simpa using hc)
      have HOK := hide (show postOk l s a t r = false by unfold postOk; rw [HCV.out]; simp)
      clear hc
      go_enter Try.func29, Try.ntmps29
      go_wp2_with (first
        | (go_at_call 53
           refine (l03Is_c l _ _ _ HBX.out HT.out).mono ?_
           rintro e w0 ⟨rfl, hb⟩
           rw [HV.out]
           have HB0 := hide hb
           clear hb)
        | (go_at_call 66
           refine (l03Post_c l _ _ s a t r _ (HBX.out.below HB0.out) HT.out HV.out hs_t).mono ?_
           intro e w1 hrp
           unfold RetPost at hrp
           rw [HCV.out] at hrp
           obtain ⟨cs, F, rfl, hM, hF, hge, hb⟩ := hrp
           rw [if_neg (by simp)] at hM
           obtain ⟨v9, F9, rfl, hFF, hS⟩ := log_M hM
           obtain ⟨A9, c9, rfl⟩ := hS.toK.shape
           clear hS hFF
           have HB := hide (HB0.out.trans (hb.mono HB0.out.size))
           have hz1 := HB.out.size
           simp only [World.size_alloc] at hz1
           have hbl := (HB.out.block _ (by simp)).trans HZB.out
           have p0 : w1.cell? ⟨w.heap.size + 1, 0, none⟩ = some (.int .i64 0) := by rw [cell_block hbl]; rfl
           have p1 : w1.cell? ⟨w.heap.size + 1, 1, none⟩ = some (.slice none 0 0) := by rw [cell_block hbl]; rfl
           have pf : ∀ o, w1.frozen? ⟨w.heap.size + 1, o, none⟩ = false := fun o => frozen_block hbl
           have n0 : w1.cell? ⟨w.heap.size, 0, none⟩ = some (.int .i64 l.next) := (HB.out.cell (p := ⟨w.heap.size, 0, none⟩) (by simp; omega)).trans (by go_simp)
           have hlw : w.heap.size < w1.heap.size := (by omega)
           have hlw2 : w.heap.size + 1 < w1.heap.size := (by omega)
           have HE := hide (below_step HW.out HB.out)
           have HMD := hide (And.intro hM (And.intro hF (show ∀ b ∈ F, w.heap.size + 1 < b from fun b hb => (by have := hge b hb; have h2 := HB0.out.size; simp at h2; omega))))
           clear hM hF hge hb hbl))
      have HZ : Hid (∀ wz, Chg [w.heap.size + 1, w1.heap.size] w1 wz → RetElem3 logD w (postL l s a t r) (postN l s a t r) (postOk l s a t r) (.returned (.tuple #[.agg #[.int .i64 0, .slice none 0 0], .int .i64 0, .bool false])) wz) := by
        intro wz hch
        rw [(postL_no HOK.out).1, (postL_no HOK.out).2, HOK.out]
        exact ⟨_, [], rfl, noLog_M wz, by simp, by simp, HE.out.trans (hch.below HE.out.size (by simp; omega))⟩
      refine bodyPost_ret (v := .tuple #[.agg #[.int .i64 0, .slice none 0 0], .int .i64 0, .bool false]) (by simp [results, Try.results29, go_sem, p0, p1, pf, hlw2]) rfl (HZ.out _ ?_)
      (repeat (first | (with_reducible refine Chg.alloc ?_ _) | (with_reducible refine Chg.setCell ?_ (.inl (by simp)) _)))
      exact Chg.refl _ _
  · have HV := hide (show validLogB l = false by simpa using hv)
    have HOK := hide (show postOk l s a t r = false by unfold postOk; rw [HV.out]; rfl)
    clear hv
    go_enter Try.func29, Try.ntmps29
    go_wp2_with (
      go_at_call 53
      refine (l03Is_c l _ _ _ HBX.out HT.out).mono ?_
      rintro e w1 ⟨rfl, hb⟩
      rw [HV.out]
      have HB := hide hb
      have hz1 := HB.out.size
      simp only [World.size_alloc] at hz1
      have hbl := (HB.out.block _ (by simp)).trans HZB.out
      have p0 : w1.cell? ⟨w.heap.size + 1, 0, none⟩ = some (.int .i64 0) := by rw [cell_block hbl]; rfl
      have p1 : w1.cell? ⟨w.heap.size + 1, 1, none⟩ = some (.slice none 0 0) := by rw [cell_block hbl]; rfl
      have pf : ∀ o, w1.frozen? ⟨w.heap.size + 1, o, none⟩ = false := fun o => frozen_block hbl
      have n0 : w1.cell? ⟨w.heap.size, 0, none⟩ = some (.int .i64 l.next) := (HB.out.cell (p := ⟨w.heap.size, 0, none⟩) (by simp; omega)).trans (by go_simp)
      have hlw : w.heap.size < w1.heap.size := (by omega)
      have hlw2 : w.heap.size + 1 < w1.heap.size := (by omega)
      have HE := hide (below_step HW.out HB.out)
      clear hb hbl)
    have HZ : Hid (∀ wz, Chg [w.heap.size + 1] w1 wz → RetElem3 logD w (postL l s a t r) (postN l s a t r) (postOk l s a t r) (.returned (.tuple #[.agg #[.int .i64 0, .slice none 0 0], .int .i64 0, .bool false])) wz) := by
      intro wz hch
      rw [(postL_no HOK.out).1, (postL_no HOK.out).2, HOK.out]
      exact ⟨_, [], rfl, noLog_M wz, by simp, by simp, HE.out.trans (hch.below HE.out.size (by simp <;> omega))⟩
    refine bodyPost_ret (v := .tuple #[.agg #[.int .i64 0, .slice none 0 0], .int .i64 0, .bool false]) (by simp [results, Try.results29, go_sem, p0, p1, pf]) rfl (HZ.out _ ?_)
    (repeat (with_reducible refine Chg.setCell ?_ (.inl (by simp)) _))
    exact Chg.refl _ _
end Go.Proofs.Ytjidhgejahpmdaa
