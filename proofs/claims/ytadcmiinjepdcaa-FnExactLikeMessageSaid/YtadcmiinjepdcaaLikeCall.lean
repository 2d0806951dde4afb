/- A like is given: the calls of the program and of the reference. -/
import Derived.Test.YtadcmiinjepdcaaLike
namespace Go.Proofs.Ytadcmiinjepdcaa
open Go Go.RowKit Go.BigFrame
attribute [local go_sem] Calm.cell Calm.frozen
set_option linter.unusedVariables false
set_option linter.unusedSimpArgs false

set_option maxHeartbeats 4000000 in
set_option maxRecDepth 100000 in
theorem likeMessage_c (l : Log) (v1 : Value) (n : Int) (s : Int) (w : World) (h1 : SliceK messageD w v1 l.messages) (ht : okTexts l.messages) :
    Calls Try.prog 11 #[.agg #[.int .i64 l.next, v1], .int .i64 n, .int .i64 s] w (RetElem2 logD w (likeL l n s) (likeOk l n s)) := by
  show Calls Try.prog 11 #[.agg #[.int .i64 l.next, v1], .int .i64 n, .int .i64 s] w (RetElem2 logD w (wmL l n (liF s)) (wmOk l n (liF s)))
  have hLS := like_same l n s
  rw [← hLS.1, ← hLS.2]
  clear hLS
  obtain ⟨A, c, rfl⟩ := h1.shape
  have H1 := hide h1
  have HT := hide ht
  clear h1 ht
  have HW := hide ((((Below.refl w.heap.size w).alloc (Nat.le_refl _) (.cells #[.int .i64 l.next, .slice A l.messages.length c] 28)).alloc (by simp <;> omega) (.cells #[.int .i64 s] 2)).alloc (by simp <;> omega) (.cells #[.int .i64 0, .slice none 0 0] 28))
  have HC0 := hide (show (((w.alloc (.cells #[.int .i64 l.next, .slice A l.messages.length c] 28)).alloc (.cells #[.int .i64 s] 2)).alloc (.cells #[.int .i64 0, .slice none 0 0] 28)).cell? ⟨w.heap.size + 1, 0, none⟩ = some (.int .i64 s) by go_simp)
  have HZB := hide (show (((w.alloc (.cells #[.int .i64 l.next, .slice A l.messages.length c] 28)).alloc (.cells #[.int .i64 s] 2)).alloc (.cells #[.int .i64 0, .slice none 0 0] 28)).heap[w.heap.size + 1 + 1]? = some (.cells #[.int .i64 0, .slice none 0 0] 28 (0, 0)) by
    have := alloc_new ((w.alloc (.cells #[.int .i64 l.next, .slice A l.messages.length c] 28)).alloc (.cells #[.int .i64 s] 2)) (.cells #[.int .i64 0, .slice none 0 0] 28)
    simpa using this)
  have eg := enters_of Try.func44 (by kernel_rfl) rfl
  go_enter Try.func11, Try.ntmps11
  go_wp2_with (
    go_at_call 43
    refine (withMessage_c _ _ (liI s) l _ n _ (H1.out.below HW.out) HT.out (fun m hm => HT.out m hm) eg (like1_c s _ _ HC0.out)).mono ?_
    rintro e w1 ⟨cs, F, rfl, hM, hF, hge, hb⟩
    obtain ⟨v9, F9, rfl, hFF, hS⟩ := log_M hM
    obtain ⟨A9, c9, rfl⟩ := hS.toK.shape
    have hz1 := hb.size
    simp only [World.size_alloc] at hz1
    have hbl := (hb.block _ (by simp <;> omega)).trans HZB.out
    have p0 : w1.cell? ⟨w.heap.size + 1 + 1, 0, none⟩ = some (.int .i64 0) := by rw [cell_block hbl]; rfl
    have p1 : w1.cell? ⟨w.heap.size + 1 + 1, 1, none⟩ = some (.slice none 0 0) := by rw [cell_block hbl]; rfl
    have pf : ∀ o, w1.frozen? ⟨w.heap.size + 1 + 1, o, none⟩ = false := fun o => frozen_block hbl
    have HE := hide (below_step HW.out hb)
    have HMD := hide (And.intro hM (And.intro hF (show ∀ b ∈ F, w.heap.size + 1 + 1 < b from fun b hb => (by have := hge b hb; simp at this; omega))))
    clear hM hF hge hb hFF hS hbl)
  have HZ : Hid (∀ wz, Chg [w.heap.size + 1 + 1] w1 wz → RetElem2 logD w (wmL l n (liI s)) (wmOk l n (liI s)) (.returned (.tuple #[.agg #[.int .i64 (wmL l n (liI s)).next, .slice A9 (wmL l n (liI s)).messages.length c9], .bool (wmOk l n (liI s))])) wz) := by
    intro wz hch
    obtain ⟨hM, hF, hge⟩ := HMD.out
    exact ⟨_, F, rfl, Dt.M_move _ (fun b hb => hch.block b (logD.M_lt hM b hb) (by have := hge b hb; simp; omega)) hM, hF, fun b hb => by have := hge b hb; omega, HE.out.trans (hch.below HE.out.size (by simp <;> omega))⟩
  refine bodyPost_ret (v := .tuple #[.agg #[.int .i64 (wmL l n (liI s)).next, .slice A9 (wmL l n (liI s)).messages.length c9], .bool (wmOk l n (liI s))]) (by simp [results, Try.results11, go_sem, p0, p1, pf]) rfl (HZ.out _ ?_)
  (repeat (with_reducible refine Chg.setCell ?_ (.inl (by simp)) _))
  exact Chg.refl _ _
set_option maxHeartbeats 4000000 in
set_option maxRecDepth 100000 in
theorem specLikeMessage_c (l : Log) (v1 : Value) (n : Int) (s : Int) (w : World) (h1 : SliceK messageD w v1 l.messages) (ht : okTexts l.messages) :
    Calls Try.prog 9 #[.agg #[.int .i64 l.next, v1], .int .i64 n, .int .i64 s] w (RetElem2 logD w (likeL l n s) (likeOk l n s)) := by
  show Calls Try.prog 9 #[.agg #[.int .i64 l.next, v1], .int .i64 n, .int .i64 s] w (RetElem2 logD w (wmL l n (liF s)) (wmOk l n (liF s)))
  obtain ⟨A, c, rfl⟩ := h1.shape
  have HT := hide ht
  have HBX := hide ((RowAt.box (d := logD) (x := l) (log_K_mk h1) (arr := #[.int .i64 l.next, .slice A l.messages.length c]) rfl 28).below ((Below.refl _ _).alloc (Nat.le_refl _) (.cells #[.int .i64 0, .slice none 0 0] 28)))
  clear h1 ht
  have HW := hide (((Below.refl w.heap.size w).alloc (Nat.le_refl _) (.cells #[.int .i64 l.next, .slice A l.messages.length c] 28)).alloc (by simp) (.cells #[.int .i64 0, .slice none 0 0] 28))
  have HZB := hide (show ((w.alloc (.cells #[.int .i64 l.next, .slice A l.messages.length c] 28)).alloc (.cells #[.int .i64 0, .slice none 0 0] 28)).heap[w.heap.size + 1]? = some (.cells #[.int .i64 0, .slice none 0 0] 28 (0, 0)) by
    have := alloc_new (w.alloc (.cells #[.int .i64 l.next, .slice A l.messages.length c] 28)) (.cells #[.int .i64 0, .slice none 0 0] 28)
    simpa using this)
  by_cases hv : validLogB l = true
  · have HV := hide hv
    clear hv
    go_enter Try.func9, Try.ntmps9
    go_wp2_with (first
      | (go_at_call 40
         refine (l03Is_c l _ _ _ HBX.out HT.out).mono ?_
         rintro e w0 ⟨rfl, hb⟩
         rw [HV.out]
         have HB0 := hide hb
         clear hb)
      | (go_at_call 41
         refine (l03LikeMore_c l _ _ n s _ (HBX.out.below HB0.out) HT.out HV.out).mono ?_
         rintro e w1 ⟨cs, F, rfl, hM, hF, hge, hb⟩
         obtain ⟨v9, F9, rfl, hFF, hS⟩ := log_M hM
         obtain ⟨A9, c9, rfl⟩ := hS.toK.shape
         have HB := hide (HB0.out.trans (hb.mono HB0.out.size))
         have hz1 := HB.out.size
         simp only [World.size_alloc] at hz1
         have hbl := (HB.out.block _ (by simp)).trans HZB.out
         have p0 : w1.cell? ⟨w.heap.size + 1, 0, none⟩ = some (.int .i64 0) := by rw [cell_block hbl]; rfl
         have p1 : w1.cell? ⟨w.heap.size + 1, 1, none⟩ = some (.slice none 0 0) := by rw [cell_block hbl]; rfl
         have pf : ∀ o, w1.frozen? ⟨w.heap.size + 1, o, none⟩ = false := fun o => frozen_block hbl
         have HE := hide (below_step HW.out HB.out)
         have HMD := hide (And.intro hM (And.intro hF (show ∀ b ∈ F, w.heap.size + 1 < b from fun b hb => (by have := hge b hb; have h2 := HB0.out.size; simp at h2; omega))))
         clear hM hF hge hb hFF hS hbl))
    have HZ : Hid (∀ wz, Chg [w.heap.size + 1] w1 wz → RetElem2 logD w (wmL l n (liF s)) (wmOk l n (liF s)) (.returned (.tuple #[.agg #[.int .i64 (wmL l n (liF s)).next, .slice A9 (wmL l n (liF s)).messages.length c9], .bool (wmOk l n (liF s))])) wz) := by
      intro wz hch
      obtain ⟨hM, hF, hge⟩ := HMD.out
      exact ⟨_, F, rfl, Dt.M_move _ (fun b hb => hch.block b (logD.M_lt hM b hb) (by have := hge b hb; simp; omega)) hM, hF, fun b hb => by have := hge b hb; omega, HE.out.trans (hch.below HE.out.size (by simp <;> omega))⟩
    refine bodyPost_ret (v := .tuple #[.agg #[.int .i64 (wmL l n (liF s)).next, .slice A9 (wmL l n (liF s)).messages.length c9], .bool (wmOk l n (liF s))]) (by simp [results, Try.results9, go_sem, p0, p1, pf]) rfl (HZ.out _ ?_)
    (repeat (with_reducible refine Chg.setCell ?_ (.inl (by simp)) _))
    exact Chg.refl _ _
  · have HV := hide (show validLogB l = false by simpa using hv)
    have HOK := hide (wmOk_bad (n := n) (f := (liF s)) HV.out)
    clear hv
    go_enter Try.func9, Try.ntmps9
    go_wp2_with (
      go_at_call 40
      refine (l03Is_c l _ _ _ HBX.out HT.out).mono ?_
      rintro e w1 ⟨rfl, hb⟩
      rw [HV.out]
      have HB := hide hb
      have hz1 := HB.out.size
      simp only [World.size_alloc] at hz1
      have hbl := (HB.out.block _ (by simp)).trans HZB.out
      have p0 : w1.cell? ⟨w.heap.size + 1, 0, none⟩ = some (.int .i64 0) := by rw [cell_block hbl]; rfl
      have p1 : w1.cell? ⟨w.heap.size + 1, 1, none⟩ = some (.slice none 0 0) := by rw [cell_block hbl]; rfl
      have pf : ∀ o, w1.frozen? ⟨w.heap.size + 1, o, none⟩ = false := fun o => frozen_block hbl
      have HE := hide (below_step HW.out HB.out)
      clear hb hbl)
    have HMD := hide (show logD.M w1 noLog [.int .i64 0, .slice none 0 0] [] ∧ ([] : List Nat).Nodup ∧ ∀ b ∈ ([] : List Nat), w.heap.size + 1 < b from ⟨noLog_M w1, by simp, by simp⟩)
    have HZ : Hid (∀ wz, Chg [w.heap.size + 1] w1 wz → RetElem2 logD w (wmL l n (liF s)) (wmOk l n (liF s)) (.returned (.tuple #[.agg #[.int .i64 0, .slice none 0 0], .bool false])) wz) := by
      intro wz hch
      obtain ⟨hM, hF, hge⟩ := HMD.out
      rw [wmL_no HOK.out, HOK.out]
      exact ⟨_, [], rfl, Dt.M_move _ (fun b hb => hch.block b (logD.M_lt hM b hb) (by have := hge b hb; simp; omega)) hM, hF, fun b hb => by have := hge b hb; omega, HE.out.trans (hch.below HE.out.size (by simp <;> omega))⟩
    refine bodyPost_ret (v := .tuple #[.agg #[.int .i64 0, .slice none 0 0], .bool false]) (by simp [results, Try.results9, go_sem, p0, p1, pf]) rfl (HZ.out _ ?_)
    (repeat (with_reducible refine Chg.setCell ?_ (.inl (by simp)) _))
    exact Chg.refl _ _
end Go.Proofs.Ytadcmiinjepdcaa
