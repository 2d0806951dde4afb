/- The log behind a history: the reference and the program. -/
import Derived.Test.YtadcmiinjepdcaaGreatHist
namespace Go.Proofs.YtadcmiinjepdcaaGreat
open Go Go.RowKit Go.BigFrame
attribute [local go_sem] Calm.cell Calm.frozen
set_option linter.unusedVariables false
set_option linter.unusedSimpArgs false

def curL (h : History) : Log := reL h.base h.events
theorem cur_cnt (h : History) : tcntLog (curL h) ≤ 1080 := re_cnt _ _
theorem hist_valid {h : History} (hh : histB h = true) : validLogB h.base = true ∧ eventsB h.events = true ∧ runOk h.base h.events = true := by
  simp only [histB, reOk, Bool.and_eq_true] at hh; exact ⟨hh.2.1, hh.1, hh.2.2⟩
set_option maxHeartbeats 8000000 in
set_option maxRecDepth 100000 in
theorem l07Now_c (h : History) (b o : Nat) (w : World) (hp : RowAt historyD w b o [h]) (ht : okHist h) (hh : histB h = true) :
    Calls Tryz.prog 28 #[.pointer (some ⟨b, o, none⟩)] w (RetElem logD w (curL h)) := by
  obtain ⟨hlb, v2, h2, hc⟩ := hist_parts hp
  obtain ⟨A2, c2, rfl⟩ := h2.shape
  have HLB := hide hlb
  have H2 := hide h2
  have HT := hide ht
  have HH := hide (hist_valid hh)
  have HRO := hide (show rrL h.base h.events = curL h from (re_rr HH.out.2.1 HH.out.1).symm)
  have hbw := World.block_lt_of_cell? w _ hc
  simp only [] at hbw
  clear hlb h2 ht hp hh
  have HW := hide ((Below.refl w.heap.size w).alloc (Nat.le_refl _) (.cells #[.int .i64 0, .slice none 0 0] 31))
  have HZB := hide (alloc_new w (.cells #[.int .i64 0, .slice none 0 0] 31))
  go_enter Tryz.func28, Tryz.ntmps28
  go_wp2_with fail
  obtain ⟨Wg, hWg⟩ : ∃ V, V = w.alloc (.cells #[.int .i64 0, .slice none 0 0] 31) := ⟨_, rfl⟩
  rw [← hWg]
  have HG := hide (show Below w.heap.size w Wg by rw [hWg]; exact HW.out)
  have HZG := hide (show Wg.heap[w.heap.size]? = some (.cells #[.int .i64 0, .slice none 0 0] 31 (0, 0)) by rw [hWg]; exact HZB.out)
  have d2 := cell_below HG.out hc
  have hbg := Nat.lt_of_lt_of_le hbw HG.out.size
  have hrg := block_lt HZG.out
  have hn9 : ¬ b = w.heap.size := by omega
  clear hWg hc
  go_region_with (first
    | (go_at_call 37
       refine (l07Run_c h.base h.events _ _ _ _ (HLB.out.below HG.out.drew) (H2.out.below HG.out.drew) HT.out.1 HH.out.1 HT.out.2).mono ?_
       intro e w1 hR
       rw [HRO.out, HH.out.2.2] at hR
       obtain ⟨cs, F, rfl, hM, hF, hge, hb⟩ := hR
       obtain ⟨v9, F9, rfl, hFF, hS⟩ := log_M hM
       obtain ⟨A9, c9, rfl⟩ := hS.toK.shape
       have hz1 : Wg.heap.size ≤ w1.heap.size := hb.size
       have hbl : w1.heap[w.heap.size]? = some (.cells #[.int .i64 0, .slice none 0 0] 31 (0, 0)) := (hb.block _ hrg).trans HZG.out
       have p0 : w1.cell? ⟨w.heap.size, 0, none⟩ = some (.int .i64 0) := by rw [cell_block hbl]; rfl
       have p1 : w1.cell? ⟨w.heap.size, 1, none⟩ = some (.slice none 0 0) := by rw [cell_block hbl]; rfl
       have pf : ∀ o, w1.frozen? ⟨w.heap.size, o, none⟩ = false := fun o => frozen_block hbl
       have hl1 : w.heap.size < w1.heap.size := by omega
       have hl2 : w.heap.size < w1.heap.size + 1 := by omega
       have hn1 : ¬ w.heap.size = w1.heap.size := by omega
       have hn2 : ¬ w1.heap.size = w.heap.size := by omega
       have HE := hide (below_step HG.out.drew hb)
       have HMD := hide (And.intro hM (And.intro hF (show ∀ y ∈ F, Wg.heap.size ≤ y from hge)))
       clear hM hF hge hb hFF hS hbl)
    | (go_at_call 37
       refine (l07Run_c h.base h.events _ _ _ _ (HLB.out.below (HG.out.alloc HG.out.size (.cells #[.int .i64 0, .slice none 0 0] 31)).drew) (H2.out.below (HG.out.alloc HG.out.size (.cells #[.int .i64 0, .slice none 0 0] 31)).drew) HT.out.1 HH.out.1 HT.out.2).mono ?_
       intro e w1 hR
       rw [HRO.out, HH.out.2.2] at hR
       obtain ⟨cs, F, rfl, hM, hF, hge, hb⟩ := hR
       obtain ⟨v9, F9, rfl, hFF, hS⟩ := log_M hM
       obtain ⟨A9, c9, rfl⟩ := hS.toK.shape
       have hz1 : Wg.heap.size + 1 ≤ w1.heap.size := (by have := hb.size; simp at this; exact this)
       have hbl : w1.heap[w.heap.size]? = some (.cells #[.int .i64 0, .slice none 0 0] 31 (0, 0)) := (hb.block _ (by simp; omega)).trans ((alloc_old Wg _ hrg).trans HZG.out)
       have p0 : w1.cell? ⟨w.heap.size, 0, none⟩ = some (.int .i64 0) := by rw [cell_block hbl]; rfl
       have p1 : w1.cell? ⟨w.heap.size, 1, none⟩ = some (.slice none 0 0) := by rw [cell_block hbl]; rfl
       have pf : ∀ o, w1.frozen? ⟨w.heap.size, o, none⟩ = false := fun o => frozen_block hbl
       have hbk : w1.heap[Wg.heap.size]? = some (.cells #[.int .i64 0, .slice none 0 0] 31 (0, 0)) := (hb.block _ (by simp)).trans (alloc_new Wg _)
       have q0 : w1.cell? ⟨Wg.heap.size, 0, none⟩ = some (.int .i64 0) := by rw [cell_block hbk]; rfl
       have q1 : w1.cell? ⟨Wg.heap.size, 1, none⟩ = some (.slice none 0 0) := by rw [cell_block hbk]; rfl
       have qf : ∀ o, w1.frozen? ⟨Wg.heap.size, o, none⟩ = false := fun o => frozen_block hbk
       have hn1 : ¬ w.heap.size = Wg.heap.size := by omega
       have hn2 : ¬ Wg.heap.size = w.heap.size := by omega
       have HE := hide (below_step (HG.out.alloc HG.out.size (.cells #[.int .i64 0, .slice none 0 0] 31)).drew hb)
       have HMD := hide (And.intro hM (And.intro hF (show ∀ y ∈ F, Wg.heap.size + 1 ≤ y from fun y hy => (by have := hge y hy; simp at this; exact this))))
       clear hM hF hge hb hFF hS hbl hbk))
  all_goals
    first
    | (have hx := hl1
       clear hx
       go_wp2_with fail
       have HZ : Hid (∀ wz, Chg [w.heap.size] w1 wz → RetElem logD w (curL h) (.returned (.agg #[.int .i64 (curL h).next, .slice A9 (curL h).messages.length c9])) wz) := by
         intro wz hch
         obtain ⟨hM, hF, hge⟩ := HMD.out
         exact ⟨_, F, rfl, Dt.chg hM hch (fun y hy h => by have := hge y hy; simp at h; omega), hF, fun y hy => by have := hge y hy; omega, HE.out.trans (hch.below HE.out.size (by simp))⟩
       refine bodyPost_ret (v := .agg #[.int .i64 (curL h).next, .slice A9 (curL h).messages.length c9]) (by simp [results, Tryz.results28, go_sem, p0, p1, pf, hl1, hl2, hn1, hn2]) rfl (HZ.out _ ?_)
       (repeat (with_reducible (first | refine Chg.setCell ?_ (.inl (by simp)) _ | refine Chg.setCell ?_ (.inr (by simp)) _ | refine Chg.alloc ?_ _)))
       exact Chg.refl _ _)
    | (have hx := q0
       clear hx
       go_wp2_with fail
       have HZ : Hid (∀ wz, Chg [w.heap.size, Wg.heap.size] w1 wz → RetElem logD w (curL h) (.returned (.agg #[.int .i64 (curL h).next, .slice A9 (curL h).messages.length c9])) wz) := by
         intro wz hch
         obtain ⟨hM, hF, hge⟩ := HMD.out
         exact ⟨_, F, rfl, Dt.chg hM hch (fun y hy h => by have := hge y hy; simp at h; omega), hF, fun y hy => by have := hge y hy; omega, HE.out.trans (hch.below HE.out.size (fun y hy => by simp at hy; omega))⟩
       refine bodyPost_ret (v := .agg #[.int .i64 (curL h).next, .slice A9 (curL h).messages.length c9]) (by simp [results, Tryz.results28, go_sem, p0, p1, pf, q0, q1, qf, hn1, hn2]) rfl (HZ.out _ ?_)
       (repeat (with_reducible (first | refine Chg.setCell ?_ (.inl (by simp)) _ | refine Chg.setCell ?_ (.inr (by simp)) _ | refine Chg.alloc ?_ _)))
       exact Chg.refl _ _)
set_option maxHeartbeats 4000000 in
set_option maxRecDepth 100000 in
theorem currentOf_c (h : History) (v1 v2 : Value) (w : World) (h1 : SliceK messageD w v1 h.base.messages) (h2 : SliceK eventD w v2 h.events) (ht : okHist h) :
    Calls Tryz.prog 9 #[.agg #[.int .i64 h.base.next, v1, v2]] w (RetElem2 logD w (curL h) (histB h)) := by
  obtain ⟨A, c, rfl⟩ := h1.shape
  obtain ⟨A2, c2, rfl⟩ := h2.shape
  have HT := hide ht
  have H1 := hide h1
  have H2 := hide h2
  clear h1 h2 ht
  have HW := hide (((Below.refl w.heap.size w).alloc (Nat.le_refl _) (.cells #[.int .i64 h.base.next, .slice A h.base.messages.length c, .slice A2 h.events.length c2] 36)).alloc (by simp) (.cells #[.int .i64 0, .slice none 0 0] 31))
  have HZB := hide (show ((w.alloc (.cells #[.int .i64 h.base.next, .slice A h.base.messages.length c, .slice A2 h.events.length c2] 36)).alloc (.cells #[.int .i64 0, .slice none 0 0] 31)).heap[w.heap.size + 1]? = some (.cells #[.int .i64 0, .slice none 0 0] 31 (0, 0)) by
    have := alloc_new (w.alloc (.cells #[.int .i64 h.base.next, .slice A h.base.messages.length c, .slice A2 h.events.length c2] 36)) (.cells #[.int .i64 0, .slice none 0 0] 31)
    simpa using this)
  go_enter Tryz.func9, Tryz.ntmps9
  go_wp2_with (
    go_at_call 30
    refine (runEvents_c h.base h.events _ _ _ (H1.out.below HW.out) (H2.out.below HW.out) HT.out.1 HT.out.2).mono ?_
    rintro e w1 ⟨cs, F, rfl, hM, hF, hge, hb⟩
    obtain ⟨v9, F9, rfl, hFF, hS⟩ := log_M hM
    obtain ⟨A9, c9, rfl⟩ := hS.toK.shape
    have hz1 := hb.size
    try simp only [World.size_alloc] at hz1
    have hbl := (hb.block _ (by first | omega | (simp <;> omega))).trans HZB.out
    have p0 : w1.cell? ⟨w.heap.size + 1, 0, none⟩ = some (.int .i64 0) := by rw [cell_block hbl]; rfl
    have p1 : w1.cell? ⟨w.heap.size + 1, 1, none⟩ = some (.slice none 0 0) := by rw [cell_block hbl]; rfl
    have pf : ∀ o, w1.frozen? ⟨w.heap.size + 1, o, none⟩ = false := fun o => frozen_block hbl
    have HE := hide (below_step HW.out hb)
    have HMD := hide (And.intro hM (And.intro hF (show ∀ b ∈ F, w.heap.size + 1 < b from fun b hb => (by have := hge b hb; (try simp at this); omega))))
    clear hM hF hge hb hFF hS hbl)
  have HZ : Hid (∀ wz, Chg [w.heap.size + 1] w1 wz → RetElem2 logD w (reL h.base h.events) (reOk h.base h.events) (.returned (.tuple #[.agg #[.int .i64 (reL h.base h.events).next, .slice A9 (reL h.base h.events).messages.length c9], .bool (reOk h.base h.events)])) wz) := by
    intro wz hch
    obtain ⟨hM, hF, hge⟩ := HMD.out
    exact ⟨_, F, rfl, Dt.M_move _ (fun b hb => hch.block b (logD.M_lt hM b hb) (by have := hge b hb; simp; omega)) hM, hF, fun b hb => by have := hge b hb; omega, HE.out.trans (hch.below HE.out.size (by simp <;> omega))⟩
  refine bodyPost_ret (v := .tuple #[.agg #[.int .i64 (reL h.base h.events).next, .slice A9 (reL h.base h.events).messages.length c9], .bool (reOk h.base h.events)]) (by simp [results, Tryz.results9, go_sem, p0, p1, pf]) rfl (HZ.out _ ?_)
  (repeat (with_reducible refine Chg.setCell ?_ (.inl (by simp)) _))
  exact Chg.refl _ _
set_option maxHeartbeats 4000000 in
set_option maxRecDepth 100000 in
theorem specCurrentOf_c (h : History) (v1 v2 : Value) (w : World) (h1 : SliceK messageD w v1 h.base.messages) (h2 : SliceK eventD w v2 h.events) (ht : okHist h) :
    Calls Tryz.prog 7 #[.agg #[.int .i64 h.base.next, v1, v2]] w (RetElem2 logD w (curL h) (histB h)) := by
  obtain ⟨A, c, rfl⟩ := h1.shape
  obtain ⟨A2, c2, rfl⟩ := h2.shape
  have HT := hide ht
  have HBX := hide ((RowAt.box (d := historyD) (x := h) (history_K_mk h1 h2) (arr := #[.int .i64 h.base.next, .slice A h.base.messages.length c, .slice A2 h.events.length c2]) rfl 36).below ((Below.refl _ _).alloc (Nat.le_refl _) (.cells #[.int .i64 0, .slice none 0 0] 31)))
  clear h1 h2 ht
  have HW := hide (((Below.refl w.heap.size w).alloc (Nat.le_refl _) (.cells #[.int .i64 h.base.next, .slice A h.base.messages.length c, .slice A2 h.events.length c2] 36)).alloc (by simp) (.cells #[.int .i64 0, .slice none 0 0] 31))
  have HZB := hide (show ((w.alloc (.cells #[.int .i64 h.base.next, .slice A h.base.messages.length c, .slice A2 h.events.length c2] 36)).alloc (.cells #[.int .i64 0, .slice none 0 0] 31)).heap[w.heap.size + 1]? = some (.cells #[.int .i64 0, .slice none 0 0] 31 (0, 0)) by
    have := alloc_new (w.alloc (.cells #[.int .i64 h.base.next, .slice A h.base.messages.length c, .slice A2 h.events.length c2] 36)) (.cells #[.int .i64 0, .slice none 0 0] 31)
    simpa using this)
  by_cases hh : histB h = true
  · have HH := hide hh
    rw [hh]
    clear hh
    go_enter Tryz.func7, Tryz.ntmps7
    go_wp2_with (first
      | (go_at_call 27
         refine (l07Is_c h _ _ _ HBX.out HT.out).mono ?_
         rintro e w0 ⟨rfl, hb⟩
         rw [HH.out]
         have HK1 := hide (HBX.out.below hb)
         have HZ0 := hide ((hb.block _ (by simp)).trans HZB.out)
         have HW0 := hide (below_step HW.out hb)
         have hz0 := block_lt HZ0.out
         clear hb)
      | (go_at_call 28
         refine (l07Now_c h _ _ _ HK1.out HT.out HH.out).mono ?_
         rintro e w1 ⟨cs, F, rfl, hM, hF, hge, hb⟩
         obtain ⟨v9, F9, rfl, hFF, hS⟩ := log_M hM
         obtain ⟨A9, c9, rfl⟩ := hS.toK.shape
         have hz1 := hb.size
         try simp only [World.size_alloc] at hz1
         have hbl := (hb.block _ (by first | omega | (simp <;> omega))).trans HZ0.out
         have p0 : w1.cell? ⟨w.heap.size + 1, 0, none⟩ = some (.int .i64 0) := by rw [cell_block hbl]; rfl
         have p1 : w1.cell? ⟨w.heap.size + 1, 1, none⟩ = some (.slice none 0 0) := by rw [cell_block hbl]; rfl
         have pf : ∀ o, w1.frozen? ⟨w.heap.size + 1, o, none⟩ = false := fun o => frozen_block hbl
         have HE := hide (below_step HW0.out hb)
         have HMD := hide (And.intro hM (And.intro hF (show ∀ b ∈ F, w.heap.size + 1 < b from fun b hb => (by have := hge b hb; (try simp at this); omega))))
         clear hM hF hge hb hFF hS hbl))
    have HZ : Hid (∀ wz, Chg [w.heap.size + 1] w1 wz → RetElem2 logD w (curL h) true (.returned (.tuple #[.agg #[.int .i64 (curL h).next, .slice A9 (curL h).messages.length c9], .bool true])) wz) := by
      intro wz hch
      obtain ⟨hM, hF, hge⟩ := HMD.out
      exact ⟨_, F, rfl, Dt.M_move _ (fun b hb => hch.block b (logD.M_lt hM b hb) (by have := hge b hb; simp; omega)) hM, hF, fun b hb => by have := hge b hb; omega, HE.out.trans (hch.below HE.out.size (by simp <;> omega))⟩
    refine bodyPost_ret (v := .tuple #[.agg #[.int .i64 (curL h).next, .slice A9 (curL h).messages.length c9], .bool true]) (by simp [results, Tryz.results7, go_sem, p0, p1, pf]) rfl (HZ.out _ ?_)
    (repeat (with_reducible refine Chg.setCell ?_ (.inl (by simp)) _))
    exact Chg.refl _ _
  · have HH := hide (show histB h = false by simpa using hh)
    have HL := hide (show curL h = noLog from reL_no HH.out)
    clear hh
    go_enter Tryz.func7, Tryz.ntmps7
    go_wp2_with (
      go_at_call 27
      refine (l07Is_c h _ _ _ HBX.out HT.out).mono ?_
      rintro e w1 ⟨rfl, hb⟩
      rw [HH.out]
      have hbl := (hb.block _ (by simp)).trans HZB.out
      have HE := hide (below_step HW.out hb)
      have p0 : w1.cell? ⟨w.heap.size + 1, 0, none⟩ = some (.int .i64 0) := by rw [cell_block hbl]; rfl
      have p1 : w1.cell? ⟨w.heap.size + 1, 1, none⟩ = some (.slice none 0 0) := by rw [cell_block hbl]; rfl
      have pf : ∀ o, w1.frozen? ⟨w.heap.size + 1, o, none⟩ = false := fun o => frozen_block hbl
      clear hb hbl)
    have HZ : Hid (∀ wz, Chg [w.heap.size + 1] w1 wz → RetElem2 logD w (curL h) (histB h) (.returned (.tuple #[.agg #[.int .i64 0, .slice none 0 0], .bool false])) wz) := by
      intro wz hch
      rw [HL.out, HH.out]
      exact ⟨_, [], rfl, noLog_M wz, by simp, by simp, HE.out.trans (hch.below HE.out.size (by simp <;> omega))⟩
    refine bodyPost_ret (v := .tuple #[.agg #[.int .i64 0, .slice none 0 0], .bool false]) (by simp [results, Tryz.results7, go_sem, p0, p1, pf]) rfl (HZ.out _ ?_)
    (repeat (with_reducible refine Chg.setCell ?_ (.inl (by simp)) _))
    exact Chg.refl _ _
end Go.Proofs.YtadcmiinjepdcaaGreat
