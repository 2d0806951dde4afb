/- Events are applied one after another: the reference and the program. -/
import Derived.Test.YtodmongmaoeknaaGreatRGround
import Derived.Test.YtodmongmaoeknaaGreatApply
namespace Go.Proofs.YtodmongmaoeknaaGreat
open Go Go.RowKit
set_option linter.unusedVariables false

open Go Go.RowKit Go.BigFrame
attribute [local go_sem] Calm.cell Calm.frozen
set_option linter.unusedVariables false
set_option linter.unusedSimpArgs false

def rrL (l : Log) (es : List Event) : Log := if runOk l es then runL l es else noLog
theorem rrL_no {l : Log} {es : List Event} (h : runOk l es = false) : rrL l es = noLog := by simp [rrL, h]
theorem rrL_yes {l : Log} {es : List Event} (h : runOk l es = true) : rrL l es = runL l es := by simp [rrL, h]
theorem re_rr {l : Log} {es : List Event} (h1 : eventsB es = true) (h2 : validLogB l = true) : reL l es = rrL l es := by simp [reL, rrL, re_eq h1 h2]
def LogBox (w : World) (b : Nat) (x : Log) (F : List Nat) : Prop := BoxM logD 31 w b x F
theorem logbox_cells {w : World} {b : Nat} {x : Log} {F : List Nat} (h : LogBox w b x F) :
    ∃ v, w.heap[b]? = some (.cells #[.int .i64 x.next, v] 31 (0, 0)) ∧ SliceK messageD w v x.messages := by
  obtain ⟨cs, G, rfl, hb, hM, _⟩ := h
  obtain ⟨v, G', rfl, rfl, hS⟩ := log_M hM
  exact ⟨v, hb, hS.toK⟩
theorem logbox_new {w : World} {x : Log} {v : Value} {F : List Nat} (hM : logD.M w x [.int .i64 x.next, v] F) (hF : F.Nodup) : LogBox (w.alloc (.cells #[.int .i64 x.next, v] 31)) w.heap.size x (w.heap.size :: F) := by
  refine ⟨_, F, rfl, alloc_new w _, logD.M_move (fun y hy => alloc_old w _ (logD.M_lt hM y hy)) hM, List.nodup_cons.2 ⟨fun h => by have := logD.M_lt hM _ h; omega, hF⟩⟩
theorem logbox_chg (w2 : World) (b : Nat) (u0 u1 : Value) (o : Obj) : Chg [b] w2 (((w2.setCell ⟨b, 0, none⟩ u0).setCell ⟨b, 1, none⟩ u1).alloc o) :=
  (Chg.setCell (p := ⟨b, 1, none⟩) (Chg.setCell (p := ⟨b, 0, none⟩) (Chg.refl [b] w2) (.inl (by simp)) u0) (.inl (by simp)) u1).alloc o
theorem logbox_turn {w2 : World} {b : Nat} {cur x : Log} {F G : List Nat} {v : Value} (o : Obj) (hB : LogBox w2 b cur G) (hM : logD.M w2 x [.int .i64 x.next, v] F) (hF : F.Nodup) (hb : b ∉ F) :
    LogBox (((w2.setCell ⟨b, 0, none⟩ (.int .i64 x.next)).setCell ⟨b, 1, none⟩ v).alloc o) b x (b :: F) := by
  obtain ⟨v0, h0, _⟩ := logbox_cells hB
  have hc := logbox_chg w2 b (.int .i64 x.next) v o
  refine ⟨_, F, rfl, ?_, Dt.chg hM hc (fun y hy h => hb (by simp at h; exact h ▸ hy)), List.nodup_cons.2 ⟨hb, hF⟩⟩
  have h1 := setCell_block w2 b 0 (.int .i64 x.next) h0
  have h2 := setCell_block _ b 1 v h1
  have h3 := (alloc_old ((w2.setCell ⟨b, 0, none⟩ (.int .i64 x.next)).setCell ⟨b, 1, none⟩ v) o (block_lt h2)).trans h2
  rw [h3]; rfl

set_option maxHeartbeats 8000000 in
set_option maxRecDepth 100000 in
theorem l07Run_c (l : Log) (es : List Event) (v2 : Value) (b o : Nat) (w : World) (hp : RowAt logD w b o [l]) (he : SliceK eventD w v2 es) (ht : okTexts l.messages) (hv : validLogB l = true) (hes : ∀ e ∈ es, e.text.size ≤ 1048576) :
    Calls Tryz.prog 15 #[.pointer (some ⟨b, o, none⟩), v2] w (RetElem2 logD w (rrL l es) (runOk l es)) := by
  obtain ⟨A, c, rfl, hl, hmx, hra⟩ := he
  have HA := hide hra
  have HP := hide hp
  have HV := hide hv
  have HFEW := hide (fewL_of hv)
  have HT := hide ht
  have HES := hide hes
  clear hra hp ht hes
  have HW := hide ((Below.refl w.heap.size w).alloc (Nat.le_refl _) (.cells #[.int .i64 0, .slice none 0 0] 31))
  have HZB := hide (alloc_new w (.cells #[.int .i64 0, .slice none 0 0] 31))
  clear hv
  go_enter Tryz.func15, Tryz.ntmps15
  go_wp2_with (
    go_at_call 32
    refine (l03Own_c l _ _ _ (HP.out.below HW.out) HFEW.out).mono ?_
    rintro e w1 ⟨cs, F, rfl, hM, hF, hge, hb⟩
    obtain ⟨v9, F9, rfl, hFF, hS⟩ := log_M hM
    obtain ⟨A9, c9, rfl⟩ := hS.toK.shape
    have hz1 := hb.size
    simp only [World.size_alloc] at hz1
    have HZ1 := hide ((hb.block _ (by simp)).trans HZB.out)
    have HB1 := hide (below_step HW.out hb)
    have HM1 := hide (And.intro hM (And.intro hF (show ∀ y ∈ F, w.heap.size < y from fun y hy => (by have := hge y hy; simp at this; omega))))
    clear hM hF hge hb hFF hS)
  obtain ⟨Wb, hWb⟩ : ∃ V, V = w1.alloc (.cells #[.int .i64 l.next, .slice A9 l.messages.length c9] 31) := ⟨_, rfl⟩
  rw [← hWb]
  have HBX := hide (show LogBox Wb w1.heap.size l (w1.heap.size :: F) by rw [hWb]; exact logbox_new HM1.out.1 HM1.out.2.1)
  have HBW := hide (show Below w.heap.size w Wb by rw [hWb]; exact HB1.out.alloc HB1.out.size _)
  have HZW := hide (show Wb.heap[w.heap.size]? = some (.cells #[.int .i64 0, .slice none 0 0] 31 (0, 0)) by rw [hWb]; exact (alloc_old w1 _ (block_lt HZ1.out)).trans HZ1.out)
  clear hWb
  go_loopg [14] es.length (fun gg s14 wr => ∃ k : Nat, k ≤ es.length ∧ es.length - k ≤ gg ∧ s14 = .int .i64 k ∧ Hid (runOk l (es.take k) = true) ∧ Hid (∃ F, LogBox wr w1.heap.size (runL l (es.take k)) F ∧ ∀ y ∈ F, w.heap.size < y) ∧ Hid (Below w.heap.size w wr) ∧ Hid (wr.heap[w.heap.size]? = some (.cells #[.int .i64 0, .slice none 0 0] 31 (0, 0))))
  case atStart => exact ⟨0, Nat.zero_le _, by omega, rfl, hide (by simp [runOk]), ⟨_, HBX.out, fun y hy => by rcases List.mem_cons.1 hy with rfl | hy; omega; exact HM1.out.2.2 y hy⟩, HBW, HZW⟩
  case round =>
    obtain ⟨k, hk, hg, rfl, HOK, HBOX, HB, HZ⟩ := hrel
    have hzr := block_lt HZ.out
    obtain ⟨G, hBX, hG⟩ := HBOX.out
    have HLB := hide hBX
    have HG := hide hG
    obtain ⟨v0, hcell, hK0⟩ := logbox_cells hBX
    have n0 : wr.cell? ⟨w1.heap.size, 0, none⟩ = some (.int .i64 (runL l (es.take k)).next) := by rw [cell_block hcell]; rfl
    have n1 : wr.cell? ⟨w1.heap.size, 1, none⟩ = some v0 := by rw [cell_block hcell]; rfl
    have nf : ∀ o, wr.frozen? ⟨w1.heap.size, o, none⟩ = false := fun o => frozen_block hcell
    obtain ⟨A0, c0, rfl⟩ := hK0.shape
    have HVK := hide (run_valid (es.take k) l HV.out HOK.out)
    have hnr := block_lt hcell
    clear hBX hG HBOX hcell hK0
    by_cases hlt : k < es.length
    · obtain ⟨x, hx⟩ : ∃ x, es[k]? = some x := ⟨_, List.getElem?_eq_getElem hlt⟩
      rcases HA.out with hnil | ⟨q, o2, rfl, hra⟩
      · rw [hnil] at hlt; simp at hlt
      have HPE := hide (hra.ptr hx)
      have hqr := (event_at hra HB.out hx).1
      have HXT := hide (HES.out x (List.mem_of_getElem? hx))
      have HS := hide (run_step (l := l) hx)
      have HFL := hide (fun h => run_fail (l := l) hx h)
      have hlt2 : (k : Int) < (es.length : Int) := by omega
      clear hx hra HA
      by_cases hok : applyOk (runL l (es.take k)) x = true
      · have HAO := hide hok
        clear hok
        go_wp2_with (
          go_at_call 33
          refine (l07Apply_c (runL l (es.take k)) x _ _ _ _ _ HLB.out.row (HPE.out.below HB.out) (valid_texts HVK.out) HVK.out HXT.out).mono ?_
          rintro e w2 ⟨cs2, F2, rfl, hM, hF, hge, hb⟩
          rw [HAO.out]
          obtain ⟨v8, F8, rfl, hFF, hS⟩ := log_M hM
          obtain ⟨A8, c8, rfl⟩ := hS.toK.shape
          have hz2 := hb.size
          have m0 := cell_below hb n0
          have m1 := cell_below hb n1
          have mf : ∀ o, w2.frozen? ⟨w1.heap.size, o, none⟩ = false := fun o => (World.frozen?_of_block (a := ⟨w1.heap.size, o, none⟩) (hb.block _ hnr)).trans (nf o)
          have hn1 : ¬ w1.heap.size = w2.heap.size := by omega
          have hn2 : ¬ w2.heap.size = w1.heap.size := by omega
          have hl1 : w1.heap.size < w2.heap.size := by omega
          have HLB2 := hide (HLB.out.by hb)
          have HB2 := hide (HB.out.trans (hb.mono HB.out.size))
          have HZ2 := hide ((hb.block _ hzr).trans HZ.out)
          have HM2 := hide (And.intro hM (And.intro hF (show ∀ y ∈ F2, wr.heap.size ≤ y from hge)))
          clear hM hF hge hb hFF hS n0 n1 nf)
        go_roundg (es.length - (k + 1))
        case measure => omega
        case rel =>
          have hch := logbox_chg w2 w1.heap.size (.int .i64 (applyL (runL l (es.take k)) x).next) (.slice A8 (applyL (runL l (es.take k)) x).messages.length c8) (.cells #[.int .i64 (applyL (runL l (es.take k)) x).next, .slice A8 (applyL (runL l (es.take k)) x).messages.length c8] 31)
          have hne : w1.heap.size ∉ F2 := fun h => by have := HM2.out.2.2 _ h; omega
          refine ⟨k + 1, by omega, by omega, by go_num, hide (by rw [HS.out.2, HOK.out, HAO.out]; rfl), hide ⟨w1.heap.size :: F2, ?_, fun y hy => ?_⟩, hide (HB2.out.trans (hch.below HB2.out.size (fun y hy => by simp at hy; omega))), hide ((hch.block _ (by omega) (by simp; omega)).trans HZ2.out)⟩
          · rw [HS.out.1]
            exact logbox_turn _ HLB2.out HM2.out.1 HM2.out.2.1 hne
          · rcases List.mem_cons.1 hy with rfl | hy
            · omega
            · have := HM2.out.2.2 y hy; omega
      · have HAO := hide (show applyOk (runL l (es.take k)) x = false by simpa using hok)
        have HRO := hide (HFL.out HAO.out)
        clear hok
        go_wp2_with (
          go_at_call 33
          refine (l07Apply_c (runL l (es.take k)) x _ _ _ _ _ HLB.out.row (HPE.out.below HB.out) (valid_texts HVK.out) HVK.out HXT.out).mono ?_
          rintro e w2 ⟨cs2, F2, rfl, hM, hF, hge, hb⟩
          rw [HAO.out]
          obtain ⟨v8, F8, rfl, hFF, hS⟩ := log_M hM
          obtain ⟨A8, c8, rfl⟩ := hS.toK.shape
          have hz2 := hb.size
          have hbl := (hb.block _ hzr).trans HZ.out
          have p0 : w2.cell? ⟨w.heap.size, 0, none⟩ = some (.int .i64 0) := by rw [cell_block hbl]; rfl
          have p1 : w2.cell? ⟨w.heap.size, 1, none⟩ = some (.slice none 0 0) := by rw [cell_block hbl]; rfl
          have pf : ∀ o, w2.frozen? ⟨w.heap.size, o, none⟩ = false := fun o => frozen_block hbl
          have hn1 : ¬ w.heap.size = w2.heap.size := by omega
          have hn2 : ¬ w2.heap.size = w.heap.size := by omega
          have hl1 : w.heap.size < w2.heap.size := by omega
          have hl2 : w.heap.size < w2.heap.size + 1 := by omega
          have HE := hide (HB.out.trans (hb.mono HB.out.size))
          clear hM hF hge hb hFF hS n0 n1 nf hbl)
        have HZ : Hid (∀ wz, Chg [w.heap.size] w2 wz → RetElem2 logD w (rrL l es) (runOk l es) (.returned (.tuple #[.agg #[.int .i64 0, .slice none 0 0], .bool false])) wz) := by
          intro wz hch
          rw [rrL_no HRO.out, HRO.out]
          exact ⟨_, [], rfl, noLog_M wz, by simp, by simp, HE.out.trans (hch.below HE.out.size (by simp))⟩
        refine bodyPost_ret (v := .tuple #[.agg #[.int .i64 0, .slice none 0 0], .bool false]) (by simp [results, Tryz.results15, go_sem, p0, p1, pf, hn1, hn2, hl1, hl2]) rfl (HZ.out _ ?_)
        (repeat (with_reducible (first | refine Chg.setCell ?_ (.inl (by simp)) _ | refine Chg.setCell ?_ (.inr (by simp)) _ | refine Chg.alloc ?_ _)))
        exact Chg.refl _ _
    · have : k = es.length := by omega
      subst this
      rw [List.take_length] at *
      have p0 : wr.cell? ⟨w.heap.size, 0, none⟩ = some (.int .i64 0) := by rw [cell_block HZ.out]; rfl
      have p1 : wr.cell? ⟨w.heap.size, 1, none⟩ = some (.slice none 0 0) := by rw [cell_block HZ.out]; rfl
      have pf : ∀ o, wr.frozen? ⟨w.heap.size, o, none⟩ = false := fun o => frozen_block HZ.out
      have hn1 : ¬ w.heap.size = w1.heap.size := by omega
      have hn2 : ¬ w1.heap.size = w.heap.size := by omega
      clear HA HES
      go_wp2_with fail
      have HZ' : Hid (∀ wz, Chg [w.heap.size] wr wz → RetElem2 logD w (rrL l es) (runOk l es) (.returned (.tuple #[.agg #[.int .i64 (runL l es).next, .slice A0 (runL l es).messages.length c0], .bool true])) wz) := by
        intro wz hch
        rw [rrL_yes HOK.out, HOK.out]
        obtain ⟨cs, G', rfl, hcell, hM, hnd⟩ := HLB.out
        obtain ⟨v', G2, rfl, rfl, hS⟩ := log_M hM
        have h1 : wr.cell? ⟨w1.heap.size, 1, none⟩ = some v' := by rw [cell_block hcell]; rfl
        rw [n1] at h1
        obtain rfl : .slice A0 (runL l es).messages.length c0 = v' := Option.some.inj h1
        exact ⟨_, _, rfl, Dt.chg hM hch (fun y hy h => by have := HG.out y (List.mem_cons_of_mem _ hy); simp at h; omega), (List.nodup_cons.1 hnd).2, fun y hy => by have := HG.out y (List.mem_cons_of_mem _ hy); omega, HB.out.trans (hch.below HB.out.size (by simp))⟩
      refine bodyPost_ret (v := .tuple #[.agg #[.int .i64 (runL l es).next, .slice A0 (runL l es).messages.length c0], .bool true]) (by simp [results, Tryz.results15, go_sem, p0, p1, pf]) rfl (HZ'.out _ ?_)
      (repeat (with_reducible refine Chg.setCell ?_ (.inl (by simp)) _))
      exact Chg.refl _ _

set_option maxHeartbeats 8000000 in
set_option maxRecDepth 100000 in
theorem runEvents_c (l : Log) (es : List Event) (v1 v2 : Value) (w : World) (h1 : SliceK messageD w v1 l.messages) (h2 : SliceK eventD w v2 es) (ht : okTexts l.messages) (hes : ∀ e ∈ es, e.text.size ≤ 1048576) :
    Calls Tryz.prog 20 #[.agg #[.int .i64 l.next, v1], v2] w (RetElem2 logD w (reL l es) (reOk l es)) := by
  obtain ⟨A, c, rfl⟩ := h1.shape
  obtain ⟨A2, c2, rfl, hl2, hm2, hra2⟩ := h2
  have H2 := hide (show SliceK eventD w (.slice A2 es.length c2) es from ⟨A2, c2, rfl, hl2, hm2, hra2⟩)
  have HA := hide hra2
  have HT := hide ht
  have HES := hide hes
  have H1 := hide h1
  clear h1 ht hes hra2
  have HW := hide (((Below.refl w.heap.size w).alloc (Nat.le_refl _) (.cells #[.int .i64 l.next, .slice A l.messages.length c] 31)).alloc (by simp) (.cells #[.int .i64 0, .slice none 0 0] 31))
  have HZB := hide (show ((w.alloc (.cells #[.int .i64 l.next, .slice A l.messages.length c] 31)).alloc (.cells #[.int .i64 0, .slice none 0 0] 31)).heap[w.heap.size + 1]? = some (.cells #[.int .i64 0, .slice none 0 0] 31 (0, 0)) by
    have := alloc_new (w.alloc (.cells #[.int .i64 l.next, .slice A l.messages.length c] 31)) (.cells #[.int .i64 0, .slice none 0 0] 31)
    simpa using this)
  by_cases he : eventsB es = true
  · have HEV := hide he
    by_cases hv : validLogB l = true
    · have HV := hide hv
      have HFEW := hide (fewL_of hv)
      have HEALL := hide (show ∀ e ∈ es, eventB e = true by
        simp only [eventsB, Bool.and_eq_true, List.all_eq_true] at he
        exact he.2)
      rw [re_rr he HV.out, re_eq he HV.out]
      clear he hv
      go_enter Tryz.func20, Tryz.ntmps20
      go_wp2_with (first
        | (go_at_call 36
           refine (eventsOk_c es _ _ (H2.out.below HW.out) (fun e he => by have := HES.out e he; omega)).mono ?_
           rintro e w0 ⟨rfl, hb⟩
           rw [HEV.out]
           have HZ0 := hide ((hb.block _ (by simp)).trans HZB.out)
           have HW0 := hide (below_step HW.out hb)
           have q0 : w0.cell? ⟨w.heap.size, 0, none⟩ = some (.int .i64 l.next) := cell_below hb (by go_simp)
           have q1 : w0.cell? ⟨w.heap.size, 1, none⟩ = some (.slice A l.messages.length c) := cell_below hb (by go_simp)
           have hz0 := block_lt HZ0.out
           skip
           clear hb)
        | (go_at_call 37
           refine (validLog_c l _ _ (H1.out.below HW0.out) HT.out).mono ?_
           rintro e w8 ⟨rfl, hb⟩
           rw [HV.out]
           have HZ8 := hide ((hb.block _ hz0).trans HZ0.out)
           have HW8 := hide (below_step HW0.out hb)
           have r0 := cell_below hb q0
           have r1 := cell_below hb q1
           have hz8 := block_lt HZ8.out
           skip
           clear hb q0 q1)
        | (go_at_call 38
           refine (cloneLog_c l _ _ (H1.out.below HW8.out) HFEW.out).mono ?_
           rintro e w1 ⟨cs, F, rfl, hM, hF, hge, hb⟩
           obtain ⟨v9, F9, rfl, hFF, hS⟩ := log_M hM
           obtain ⟨A9, c9, rfl⟩ := hS.toK.shape
           have hz1 := hb.size
           have HZ1 := hide ((hb.block _ hz8).trans HZ8.out)
           have HB1 := hide (below_step HW8.out hb)
           have HM1 := hide (And.intro hM (And.intro hF (show ∀ y ∈ F, w.heap.size + 1 < y from fun y hy => (by have := hge y hy; omega))))
           clear hM hF hge hb hFF hS))
      obtain ⟨Wb, hWb⟩ : ∃ V, V = w1.alloc (.cells #[.int .i64 l.next, .slice A9 l.messages.length c9] 31) := ⟨_, rfl⟩
      rw [← hWb]
      have HBX := hide (show LogBox Wb w1.heap.size l (w1.heap.size :: F) by rw [hWb]; exact logbox_new HM1.out.1 HM1.out.2.1)
      have HBW := hide (show Below w.heap.size w Wb by rw [hWb]; exact HB1.out.alloc HB1.out.size _)
      have HZW := hide (show Wb.heap[w.heap.size + 1]? = some (.cells #[.int .i64 0, .slice none 0 0] 31 (0, 0)) by rw [hWb]; exact (alloc_old w1 _ (block_lt HZ1.out)).trans HZ1.out)
      clear hWb
      go_loopg [24] es.length (fun gg s14 wr => ∃ k : Nat, k ≤ es.length ∧ es.length - k ≤ gg ∧ s14 = .int .i64 k ∧ Hid (runOk l (es.take k) = true) ∧ Hid (∃ F, LogBox wr w1.heap.size (runL l (es.take k)) F ∧ ∀ y ∈ F, w.heap.size + 1 < y) ∧ Hid (Below w.heap.size w wr) ∧ Hid (wr.heap[w.heap.size + 1]? = some (.cells #[.int .i64 0, .slice none 0 0] 31 (0, 0))))
      case atStart => exact ⟨0, Nat.zero_le _, by omega, rfl, hide (by simp [runOk]), ⟨_, HBX.out, fun y hy => by rcases List.mem_cons.1 hy with rfl | hy; omega; exact HM1.out.2.2 y hy⟩, HBW, HZW⟩
      case round =>
        obtain ⟨k, hk, hg, rfl, HOK, HBOX, HB, HZ⟩ := hrel
        have hzr := block_lt HZ.out
        obtain ⟨G, hBX, hG⟩ := HBOX.out
        have HLB := hide hBX
        have HG := hide hG
        obtain ⟨v0, hcell, hK0⟩ := logbox_cells hBX
        have n0 : wr.cell? ⟨w1.heap.size, 0, none⟩ = some (.int .i64 (runL l (es.take k)).next) := by rw [cell_block hcell]; rfl
        have n1 : wr.cell? ⟨w1.heap.size, 1, none⟩ = some v0 := by rw [cell_block hcell]; rfl
        have nf : ∀ o, wr.frozen? ⟨w1.heap.size, o, none⟩ = false := fun o => frozen_block hcell
        have HK0 := hide hK0
        obtain ⟨A0, c0, rfl⟩ := hK0.shape
        have HVK := hide (run_valid (es.take k) l HV.out HOK.out)
        have hnr := block_lt hcell
        clear hBX hG HBOX hcell hK0
        by_cases hlt : k < es.length
        · obtain ⟨x, hx⟩ : ∃ x, es[k]? = some x := ⟨_, List.getElem?_eq_getElem hlt⟩
          rcases HA.out with hnil | ⟨q, o2, rfl, hra⟩
          · rw [hnil] at hlt; simp at hlt
          obtain ⟨hq, d0, d1, d2, d3, d4, d5⟩ := event_at hra HB.out hx
          have HXT := hide (HES.out x (List.mem_of_getElem? hx))
          have HEE := hide (evL_eq (HEALL.out x (List.mem_of_getElem? hx)) HVK.out)
          have HS := hide (run_step (l := l) hx)
          have HFL := hide (fun h => run_fail (l := l) hx h)
          have hlt2 : (k : Int) < (es.length : Int) := by omega
          have HXB := hide ((Below.refl wr.heap.size wr).alloc (Nat.le_refl _) (.cells #[.int .i64 x.kind, .int .i64 x.number, .int .i64 x.member, .int .i64 x.at_, .string x.text, .int .i64 x.reply] 55))
          have hn3 : ¬ w1.heap.size = wr.heap.size := by omega
          clear hx hra HA
          by_cases hok : applyOk (runL l (es.take k)) x = true
          · have HAO := hide hok
            clear hok
            go_wp2_with (
              go_at_call 39
              refine (applyEvent_c (runL l (es.take k)) x _ _ (HK0.out.below HXB.out) (valid_texts HVK.out) HXT.out).mono ?_
              intro e w2 hR
              rw [HEE.out.1, HEE.out.2, HAO.out] at hR
              obtain ⟨cs2, F2, rfl, hM, hF, hge, hb0⟩ := hR
              have hb := below_step HXB.out hb0
              obtain ⟨v8, F8, rfl, hFF, hS⟩ := log_M hM
              obtain ⟨A8, c8, rfl⟩ := hS.toK.shape
              have hz2 := hb.size
              have m0 := cell_below hb n0
              have m1 := cell_below hb n1
              have mf : ∀ o, w2.frozen? ⟨w1.heap.size, o, none⟩ = false := fun o => (World.frozen?_of_block (a := ⟨w1.heap.size, o, none⟩) (hb.block _ hnr)).trans (nf o)
              have hn1 : ¬ w1.heap.size = w2.heap.size := by omega
              have hn2 : ¬ w2.heap.size = w1.heap.size := by omega
              have hl1 : w1.heap.size < w2.heap.size := by omega
              have HLB2 := hide (HLB.out.by hb)
              have HB2 := hide (HB.out.trans (hb.mono HB.out.size))
              have HZ2 := hide ((hb.block _ hzr).trans HZ.out)
              have HM2 := hide (And.intro hM (And.intro hF (show ∀ y ∈ F2, wr.heap.size ≤ y from fun y hy => (by have := hge y hy; simp at this; omega))))
              clear hM hF hge hb hb0 hFF hS n0 n1 nf)
            go_roundg (es.length - (k + 1))
            case measure => omega
            case rel =>
              have hch := logbox_chg w2 w1.heap.size (.int .i64 (applyL (runL l (es.take k)) x).next) (.slice A8 (applyL (runL l (es.take k)) x).messages.length c8) (.cells #[.int .i64 (applyL (runL l (es.take k)) x).next, .slice A8 (applyL (runL l (es.take k)) x).messages.length c8] 31)
              have hne : w1.heap.size ∉ F2 := fun h => by have := HM2.out.2.2 _ h; omega
              refine ⟨k + 1, by omega, by omega, by go_num, hide (by rw [HS.out.2, HOK.out, HAO.out]; rfl), hide ⟨w1.heap.size :: F2, ?_, fun y hy => ?_⟩, hide (HB2.out.trans (hch.below HB2.out.size (fun y hy => by simp at hy; omega))), hide ((hch.block _ (by omega) (by simp; omega)).trans HZ2.out)⟩
              · rw [HS.out.1]
                exact logbox_turn _ HLB2.out HM2.out.1 HM2.out.2.1 hne
              · rcases List.mem_cons.1 hy with rfl | hy
                · omega
                · have := HM2.out.2.2 y hy; omega
          · have HAO := hide (show applyOk (runL l (es.take k)) x = false by simpa using hok)
            have HRO := hide (HFL.out HAO.out)
            clear hok
            go_wp2_with (
              go_at_call 39
              refine (applyEvent_c (runL l (es.take k)) x _ _ (HK0.out.below HXB.out) (valid_texts HVK.out) HXT.out).mono ?_
              intro e w2 hR
              rw [HEE.out.1, HEE.out.2, HAO.out] at hR
              obtain ⟨cs2, F2, rfl, hM, hF, hge, hb0⟩ := hR
              have hb := below_step HXB.out hb0
              obtain ⟨v8, F8, rfl, hFF, hS⟩ := log_M hM
              obtain ⟨A8, c8, rfl⟩ := hS.toK.shape
              have hz2 := hb.size
              have hbl := (hb.block _ hzr).trans HZ.out
              have p0 : w2.cell? ⟨w.heap.size + 1, 0, none⟩ = some (.int .i64 0) := by rw [cell_block hbl]; rfl
              have p1 : w2.cell? ⟨w.heap.size + 1, 1, none⟩ = some (.slice none 0 0) := by rw [cell_block hbl]; rfl
              have pf : ∀ o, w2.frozen? ⟨w.heap.size + 1, o, none⟩ = false := fun o => frozen_block hbl
              have hn1 : ¬ w.heap.size + 1 = w2.heap.size := by omega
              have hn2 : ¬ w2.heap.size = w.heap.size + 1 := by omega
              have hl1 : w.heap.size + 1 < w2.heap.size := by omega
              have hl2 : w.heap.size + 1 < w2.heap.size + 1 := by omega
              have HE := hide (HB.out.trans (hb.mono HB.out.size))
              clear hM hF hge hb hb0 hFF hS n0 n1 nf hbl)
            have HZ : Hid (∀ wz, Chg [w.heap.size + 1] w2 wz → RetElem2 logD w (rrL l es) (runOk l es) (.returned (.tuple #[.agg #[.int .i64 0, .slice none 0 0], .bool false])) wz) := by
              intro wz hch
              rw [rrL_no HRO.out, HRO.out]
              exact ⟨_, [], rfl, noLog_M wz, by simp, by simp, HE.out.trans (hch.below HE.out.size (by simp))⟩
            refine bodyPost_ret (v := .tuple #[.agg #[.int .i64 0, .slice none 0 0], .bool false]) (by simp [results, Tryz.results20, go_sem, p0, p1, pf, hn1, hn2, hl1, hl2]) rfl (HZ.out _ ?_)
            (repeat (with_reducible (first | refine Chg.setCell ?_ (.inl (by simp)) _ | refine Chg.setCell ?_ (.inr (by simp)) _ | refine Chg.alloc ?_ _)))
            exact Chg.refl _ _
        · have : k = es.length := by omega
          subst this
          rw [List.take_length] at *
          have p0 : wr.cell? ⟨w.heap.size + 1, 0, none⟩ = some (.int .i64 0) := by rw [cell_block HZ.out]; rfl
          have p1 : wr.cell? ⟨w.heap.size + 1, 1, none⟩ = some (.slice none 0 0) := by rw [cell_block HZ.out]; rfl
          have pf : ∀ o, wr.frozen? ⟨w.heap.size + 1, o, none⟩ = false := fun o => frozen_block HZ.out
          have hn1 : ¬ w.heap.size + 1 = w1.heap.size := by omega
          have hn2 : ¬ w1.heap.size = w.heap.size + 1 := by omega
          clear HA HES
          go_wp2_with fail
          have HZ' : Hid (∀ wz, Chg [w.heap.size + 1] wr wz → RetElem2 logD w (rrL l es) (runOk l es) (.returned (.tuple #[.agg #[.int .i64 (runL l es).next, .slice A0 (runL l es).messages.length c0], .bool true])) wz) := by
            intro wz hch
            rw [rrL_yes HOK.out, HOK.out]
            obtain ⟨cs, G', rfl, hcell, hM, hnd⟩ := HLB.out
            obtain ⟨v', G2, rfl, rfl, hS⟩ := log_M hM
            have h1 : wr.cell? ⟨w1.heap.size, 1, none⟩ = some v' := by rw [cell_block hcell]; rfl
            rw [n1] at h1
            obtain rfl : .slice A0 (runL l es).messages.length c0 = v' := Option.some.inj h1
            exact ⟨_, _, rfl, Dt.chg hM hch (fun y hy h => by have := HG.out y (List.mem_cons_of_mem _ hy); simp at h; omega), (List.nodup_cons.1 hnd).2, fun y hy => by have := HG.out y (List.mem_cons_of_mem _ hy); omega, HB.out.trans (hch.below HB.out.size (by simp))⟩
          refine bodyPost_ret (v := .tuple #[.agg #[.int .i64 (runL l es).next, .slice A0 (runL l es).messages.length c0], .bool true]) (by simp [results, Tryz.results20, go_sem, p0, p1, pf]) rfl (HZ'.out _ ?_)
          (repeat (with_reducible refine Chg.setCell ?_ (.inl (by simp)) _))
          exact Chg.refl _ _
    · have HV := hide (show validLogB l = false by simpa using hv)
      have HOK := hide (show reOk l es = false by simp [reOk, HV.out])
      have HL := hide (reL_no HOK.out)
      clear hv he
      go_enter Tryz.func20, Tryz.ntmps20
      go_wp2_with (first
        | (go_at_call 36
           refine (eventsOk_c es _ _ (H2.out.below HW.out) (fun e he => by have := HES.out e he; omega)).mono ?_
           rintro e w0 ⟨rfl, hb⟩
           rw [HEV.out]
           have HZ0 := hide ((hb.block _ (by simp)).trans HZB.out)
           have HW0 := hide (below_step HW.out hb)
           have q0 : w0.cell? ⟨w.heap.size, 0, none⟩ = some (.int .i64 l.next) := cell_below hb (by go_simp)
           have q1 : w0.cell? ⟨w.heap.size, 1, none⟩ = some (.slice A l.messages.length c) := cell_below hb (by go_simp)
           have hz0 := block_lt HZ0.out
           skip
           clear hb)
        | (go_at_call 37
           refine (validLog_c l _ _ (H1.out.below HW0.out) HT.out).mono ?_
           rintro e w8 ⟨rfl, hb⟩
           rw [HV.out]
           have HZ8 := hide ((hb.block _ hz0).trans HZ0.out)
           have HW8 := hide (below_step HW0.out hb)
           have r0 := cell_below hb q0
           have r1 := cell_below hb q1
           have hz8 := block_lt HZ8.out
           have hbl := HZ8.out
           have p0 : w8.cell? ⟨w.heap.size + 1, 0, none⟩ = some (.int .i64 0) := by rw [cell_block hbl]; rfl
           have p1 : w8.cell? ⟨w.heap.size + 1, 1, none⟩ = some (.slice none 0 0) := by rw [cell_block hbl]; rfl
           have pf : ∀ o, w8.frozen? ⟨w.heap.size + 1, o, none⟩ = false := fun o => frozen_block hbl
           clear hbl
           clear hb q0 q1))
      have HE := HW8
      have HZ : Hid (∀ wz, Chg [w.heap.size + 1] w8 wz → RetElem2 logD w (reL l es) (reOk l es) (.returned (.tuple #[.agg #[.int .i64 0, .slice none 0 0], .bool false])) wz) := by
        intro wz hch
        rw [HL.out, HOK.out]
        exact ⟨_, [], rfl, noLog_M wz, by simp, by simp, HE.out.trans (hch.below HE.out.size (by simp <;> omega))⟩
      refine bodyPost_ret (v := .tuple #[.agg #[.int .i64 0, .slice none 0 0], .bool false]) (by simp [results, Tryz.results20, go_sem, p0, p1, pf]) rfl (HZ.out _ ?_)
      (repeat (with_reducible refine Chg.setCell ?_ (.inl (by simp)) _))
      exact Chg.refl _ _
  · have HEV := hide (show eventsB es = false by simpa using he)
    have HOK := hide (show reOk l es = false by simp [reOk, HEV.out])
    have HL := hide (reL_no HOK.out)
    clear he
    go_enter Tryz.func20, Tryz.ntmps20
    go_wp2_with (go_at_call 36
                 refine (eventsOk_c es _ _ (H2.out.below HW.out) (fun e he => by have := HES.out e he; omega)).mono ?_
                 rintro e w0 ⟨rfl, hb⟩
                 rw [HEV.out]
                 have HZ0 := hide ((hb.block _ (by simp)).trans HZB.out)
                 have HW0 := hide (below_step HW.out hb)
                 have q0 : w0.cell? ⟨w.heap.size, 0, none⟩ = some (.int .i64 l.next) := cell_below hb (by go_simp)
                 have q1 : w0.cell? ⟨w.heap.size, 1, none⟩ = some (.slice A l.messages.length c) := cell_below hb (by go_simp)
                 have hz0 := block_lt HZ0.out
                 have hbl := HZ0.out
                 have p0 : w0.cell? ⟨w.heap.size + 1, 0, none⟩ = some (.int .i64 0) := by rw [cell_block hbl]; rfl
                 have p1 : w0.cell? ⟨w.heap.size + 1, 1, none⟩ = some (.slice none 0 0) := by rw [cell_block hbl]; rfl
                 have pf : ∀ o, w0.frozen? ⟨w.heap.size + 1, o, none⟩ = false := fun o => frozen_block hbl
                 clear hbl
                 clear hb)
    have HE := HW0
    have HZ : Hid (∀ wz, Chg [w.heap.size + 1] w0 wz → RetElem2 logD w (reL l es) (reOk l es) (.returned (.tuple #[.agg #[.int .i64 0, .slice none 0 0], .bool false])) wz) := by
      intro wz hch
      rw [HL.out, HOK.out]
      exact ⟨_, [], rfl, noLog_M wz, by simp, by simp, HE.out.trans (hch.below HE.out.size (by simp <;> omega))⟩
    refine bodyPost_ret (v := .tuple #[.agg #[.int .i64 0, .slice none 0 0], .bool false]) (by simp [results, Tryz.results20, go_sem, p0, p1, pf]) rfl (HZ.out _ ?_)
    (repeat (with_reducible refine Chg.setCell ?_ (.inl (by simp)) _))
    exact Chg.refl _ _
end Go.Proofs.YtodmongmaoeknaaGreat
