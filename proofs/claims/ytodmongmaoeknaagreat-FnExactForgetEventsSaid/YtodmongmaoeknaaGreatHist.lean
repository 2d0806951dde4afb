/- Valid histories: the reference and the program. -/
import Derived.Test.YtodmongmaoeknaaGreatRun
namespace Go.Proofs.YtodmongmaoeknaaGreat
open Go Go.RowKit Go.BigFrame
attribute [local go_sem] Calm.cell Calm.frozen
set_option linter.unusedVariables false
set_option linter.unusedSimpArgs false

def histB (h : History) : Bool := reOk h.base h.events
def okHist (h : History) : Prop := okTexts h.base.messages ∧ ∀ e ∈ h.events, e.text.size ≤ 1048576
theorem hist_parts {w : World} {b o : Nat} {h : History} (hp : RowAt historyD w b o [h]) :
    RowAt logD w b o [h.base] ∧ ∃ v2, SliceK eventD w v2 h.events ∧ w.cell? ⟨b, o + 2, none⟩ = some v2 := by
  obtain ⟨v1, v2, h1, h2, hb, c0, c1, c2⟩ := history_at hp (Below.refl _ _) (j := 0) rfl
  simp only [Nat.zero_mul, Nat.add_zero] at c0 c1 c2
  refine ⟨fun j x hj => ?_, v2, h2, c2⟩
  cases j with
  | succ j => simp at hj
  | zero =>
    simp at hj; subst hj
    refine ⟨_, log_K_mk h1, fun i u hi => ?_⟩
    match i, hi with
    | 0, hi => simp at hi; subst hi; simpa using c0
    | 1, hi => simp at hi; subst hi; simpa using c1
set_option maxHeartbeats 4000000 in
set_option maxRecDepth 100000 in
theorem l07Is_c (h : History) (b o : Nat) (w : World) (hp : RowAt historyD w b o [h]) (ht : okHist h) :
    Calls Tryz.prog 13 #[.pointer (some ⟨b, o, none⟩)] w fun e w' => e = .returned (.bool (histB h)) ∧ Below w.heap.size w w' := by
  obtain ⟨hlb, v2, h2, hc⟩ := hist_parts hp
  obtain ⟨A2, c2, rfl⟩ := h2.shape
  have HLB := hide hlb
  have H2 := hide h2
  have HT := hide ht
  have hbw := World.block_lt_of_cell? w _ hc
  simp only [] at hbw
  clear hlb h2 ht hp
  by_cases hv : validLogB h.base = true
  · have HV := hide hv
    clear hv
    by_cases he : eventsB h.events = true
    · have HEV := hide he
      have HR := hide (show histB h = runOk h.base h.events from re_eq he HV.out)
      clear he
      go_enter Tryz.func13, Tryz.ntmps13
      go_wp2_with (first
        | (go_at_call 30
           refine (l03Is_c h.base _ _ _ HLB.out HT.out.1).mono ?_
           rintro e w0 ⟨rfl, hb⟩
           rw [HV.out]
           have HW0 := hide hb
           have d2 := cell_below hb hc
           clear hb)
        | (go_at_call 31
           refine (l07Events_c h.events _ _ (H2.out.below HW0.out) (fun e he => by have := HT.out.2 e he; omega)).mono ?_
           rintro e w8 ⟨rfl, hb⟩
           rw [HEV.out]
           have HW8 := hide (below_step HW0.out hb)
           have e2 := cell_below hb d2
           have hb8 := Nat.lt_of_lt_of_le hbw (below_step HW0.out hb).size
           clear hb hc d2))
      go_region_with (first
        | (go_at_call 15
           refine (l07Run_c h.base h.events _ _ _ _ (HLB.out.below HW8.out.drew) (H2.out.below HW8.out.drew) HT.out.1 HV.out HT.out.2).mono ?_
           rintro e w1 ⟨cs, F, rfl, hM, hF, hge, hb⟩
           obtain ⟨v9, F9, rfl, hFF, hS⟩ := log_M hM
           obtain ⟨A9, c9, rfl⟩ := hS.toK.shape
           have HE := hide (below_step HW8.out.drew hb)
           clear hM hF hge hb hFF hS)
        | (go_at_call 15
           refine (l07Run_c h.base h.events _ _ _ _ (HLB.out.below (HW8.out.alloc HW8.out.size (.cells #[.int .i64 0, .slice none 0 0] 31)).drew) (H2.out.below (HW8.out.alloc HW8.out.size (.cells #[.int .i64 0, .slice none 0 0] 31)).drew) HT.out.1 HV.out HT.out.2).mono ?_
           rintro e w1 ⟨cs, F, rfl, hM, hF, hge, hb⟩
           obtain ⟨v9, F9, rfl, hFF, hS⟩ := log_M hM
           obtain ⟨A9, c9, rfl⟩ := hS.toK.shape
           have HE := hide (below_step (HW8.out.alloc HW8.out.size (.cells #[.int .i64 0, .slice none 0 0] 31)).drew hb)
           have hbl : w1.heap[w8.heap.size]? = some (.cells #[.int .i64 0, .slice none 0 0] 31 (0, 0)) := (hb.block _ (by simp)).trans (alloc_new w8 _)
           have p0 : w1.cell? ⟨w8.heap.size, 0, none⟩ = some (.int .i64 0) := by rw [cell_block hbl]; rfl
           have p1 : w1.cell? ⟨w8.heap.size, 1, none⟩ = some (.slice none 0 0) := by rw [cell_block hbl]; rfl
           have pf : ∀ o, w1.frozen? ⟨w8.heap.size, o, none⟩ = false := fun o => frozen_block hbl
           clear hbl
           clear hM hF hge hb hFF hS))
      all_goals
        go_wp2_with fail
        go_ret
        first
        | exact ⟨by rw [HR.out]; rfl, HE.out.alloc HE.out.size _⟩
        | exact ⟨by rw [HR.out]; rfl, HE.out.trans ((Chg.setCell (p := ⟨w8.heap.size, 1, none⟩) (Chg.setCell (p := ⟨w8.heap.size, 0, none⟩) (Chg.refl [w8.heap.size] w1) (.inl (by simp)) _) (.inl (by simp)) _).below HE.out.size (fun y hy => by have := HW8.out.size; simp at hy; omega))⟩
    · have HEV := hide (show eventsB h.events = false by simpa using he)
      have HR := hide (show histB h = false by simp [histB, reOk, HEV.out])
      clear he
      go_enter Tryz.func13, Tryz.ntmps13
      go_wp2_with (first
        | (go_at_call 30
           refine (l03Is_c h.base _ _ _ HLB.out HT.out.1).mono ?_
           rintro e w0 ⟨rfl, hb⟩
           rw [HV.out]
           have HW0 := hide hb
           have d2 := cell_below hb hc
           clear hb)
        | (go_at_call 31
           refine (l07Events_c h.events _ _ (H2.out.below HW0.out) (fun e he => by have := HT.out.2 e he; omega)).mono ?_
           rintro e w8 ⟨rfl, hb⟩
           rw [HEV.out]
           have HW8 := hide (below_step HW0.out hb)
           clear hb hc d2))
      go_ret
      exact ⟨by rw [HR.out]; rfl, HW8.out⟩
  · have HV := hide (show validLogB h.base = false by simpa using hv)
    have HR := hide (show histB h = false by simp [histB, reOk, HV.out])
    clear hv
    go_enter Tryz.func13, Tryz.ntmps13
    go_wp2_with (
      go_at_call 30
      refine (l03Is_c h.base _ _ _ HLB.out HT.out.1).mono ?_
      rintro e w0 ⟨rfl, hb⟩
      rw [HV.out]
      have HW0 := hide hb
      clear hb)
    go_ret
    exact ⟨by rw [HR.out]; rfl, HW0.out⟩
set_option maxHeartbeats 1000000 in
theorem validHistory_c (h : History) (v1 v2 : Value) (w : World) (h1 : SliceK messageD w v1 h.base.messages) (h2 : SliceK eventD w v2 h.events) (ht : okHist h) :
    Calls Tryz.prog 18 #[.agg #[.int .i64 h.base.next, v1, v2]] w fun e w' => e = .returned (.bool (histB h)) ∧ Below w.heap.size w w' := by
  obtain ⟨A, c, rfl⟩ := h1.shape
  obtain ⟨A2, c2, rfl⟩ := h2.shape
  have HT := hide ht
  have H1 := hide h1
  have H2 := hide h2
  have HW := hide ((Below.refl w.heap.size w).alloc (Nat.le_refl _) (.cells #[.int .i64 h.base.next, .slice A h.base.messages.length c, .slice A2 h.events.length c2] 34))
  clear h1 h2 ht
  go_enter Tryz.func18, Tryz.ntmps18
  go_wp2_with (
    go_at_call 20
    refine (runEvents_c h.base h.events _ _ _ (H1.out.below HW.out) (H2.out.below HW.out) HT.out.1 HT.out.2).mono ?_
    rintro e w1 ⟨cs, F, rfl, hM, hF, hge, hb⟩
    obtain ⟨v9, F9, rfl, hFF, hS⟩ := log_M hM
    obtain ⟨A9, c9, rfl⟩ := hS.toK.shape
    have HE := hide (below_step HW.out hb)
    clear hM hF hge hb hFF hS)
  go_ret
  exact ⟨rfl, HE.out.alloc HE.out.size _⟩
end Go.Proofs.YtodmongmaoeknaaGreat
