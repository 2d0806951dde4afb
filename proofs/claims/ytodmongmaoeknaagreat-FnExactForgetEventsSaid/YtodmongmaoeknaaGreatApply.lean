/- An event is applied to a log: the program. -/
import Derived.Test.YtodmongmaoeknaaGreatEvent
import Derived.Deep.RegionHeld3
namespace Go.Proofs.YtodmongmaoeknaaGreat
open Go Go.RowKit Go.BigFrame
attribute [local go_sem] Calm.cell Calm.frozen
set_option linter.unusedVariables false
set_option linter.unusedSimpArgs false

theorem apply_0 {l : Log} {x : Event} (h0 : x.kind = 0) : applyOk l x = (decide (x.number = l.next) && (postC l x.reply && validLogB (postNew l x.member x.at_ x.text x.reply))) := by simp [applyOk, h0]
theorem applyL_0 {l : Log} {x : Event} (h0 : x.kind = 0) (h : x.number = l.next) : applyL l x = (if (postC l x.reply && validLogB (postNew l x.member x.at_ x.text x.reply)) then postNew l x.member x.at_ x.text x.reply else noLog) := by simp [applyL, apply_0 h0, h0, h]
theorem apply_1 {l : Log} {x : Event} (h0 : ¬ x.kind = 0) (h1 : x.kind = 1) : applyOk l x = wmOk l x.number (edF x.member x.text) ∧ applyL l x = wmL l x.number (edF x.member x.text) := by simp [applyOk, applyL, h1]
theorem apply_2 {l : Log} {x : Event} (h1 : x.kind = 2) : applyOk l x = wmOk l x.number (tbF x.member) ∧ applyL l x = wmL l x.number (tbF x.member) := by simp [applyOk, applyL, h1]
theorem apply_3 {l : Log} {x : Event} (h1 : x.kind = 3) : applyOk l x = wmOk l x.number (liF x.member) ∧ applyL l x = wmL l x.number (liF x.member) := by simp [applyOk, applyL, h1]
theorem apply_4 {l : Log} {x : Event} (h0 : ¬ x.kind = 0) (h1 : ¬ x.kind = 1) (h2 : ¬ x.kind = 2) (h3 : ¬ x.kind = 3) : applyOk l x = wmOk l x.number (unF x.member) ∧ applyL l x = wmL l x.number (unF x.member) := by simp [applyOk, applyL, h0, h1, h2, h3]
set_option maxHeartbeats 8000000 in
set_option maxRecDepth 100000 in
theorem l07Apply_c (l : Log) (x : Event) (b o b2 o2 : Nat) (w : World) (hp : RowAt logD w b o [l]) (he : RowAt eventD w b2 o2 [x]) (ht : okTexts l.messages) (hv : validLogB l = true) (hst : x.text.size ≤ 1048576) :
    Calls Tryz.prog 33 #[.pointer (some ⟨b, o, none⟩), .pointer (some ⟨b2, o2, none⟩)] w (RetElem2 logD w (applyL l x) (applyOk l x)) := by
  obtain ⟨v1, h1, hbz, hb0, hb1⟩ := log_at hp (Below.refl _ _) (j := 0) rfl
  obtain ⟨hq, e0, e1, e2, e3, e4, e5⟩ := event_at he (Below.refl _ _) (j := 0) rfl
  simp only [Nat.zero_mul, Nat.add_zero] at hb0 hb1 e0 e1 e2 e3 e4 e5
  have HP := hide hp
  have HV := hide hv
  have HT := hide ht
  have HW := hide ((Below.refl w.heap.size w).alloc (Nat.le_refl _) (.cells #[.int .i64 0, .slice none 0 0] 31))
  have HZB := hide (alloc_new w (.cells #[.int .i64 0, .slice none 0 0] 31))
  have HWd := hide HW.out.drew
  clear hp hv ht he h1
  by_cases h0 : x.kind = 0
  · by_cases hn : x.number = l.next
    · have hn2 : (x.number != l.next) = false := by simp [hn]
      rw [apply_0 h0, applyL_0 h0 hn, decide_eq_true hn, Bool.true_and]
      have hl7 := hn.symm
      clear hn
      go_enter Tryz.func33, Tryz.ntmps33
      obtain ⟨PV, hPV⟩ : ∃ v, v = (if (postC l x.reply && validLogB (postNew l x.member x.at_ x.text x.reply)) then postNew l x.member x.at_ x.text x.reply else noLog) := ⟨_, rfl⟩
      obtain ⟨PO, hPO⟩ : ∃ v, v = (postC l x.reply && validLogB (postNew l x.member x.at_ x.text x.reply)) := ⟨_, rfl⟩
      have HPV := hide hPV
      have HPO := hide hPO
      rw [← hPV, ← hPO]
      clear hPV hPO
      go_wp2_with fail
      go_quiet (fail)
      go_wp2_with fail
      obtain ⟨Wg, hWg⟩ : ∃ V, V = ((w.alloc (.cells #[.int .i64 0, .slice none 0 0] 31)).drewN nq) := ⟨_, rfl⟩
      rw [← hWg]
      have HG := hide (show Below w.heap.size w Wg by rw [hWg]; exact below_drewN HW.out _)
      have HZG := hide (show Wg.heap[w.heap.size]? = some (.cells #[.int .i64 0, .slice none 0 0] 31 (0, 0)) by rw [hWg]; exact HZB.out)
      have HWd := hide HG.out.drew
      have f0 := cell_below HG.out e0
      have f1 := cell_below HG.out e1
      have f2 := cell_below HG.out e2
      have f3 := cell_below HG.out e3
      have f4 := cell_below HG.out e4
      have f5 := cell_below HG.out e5
      have g0 := cell_below HG.out hb0
      have g1 := cell_below HG.out hb1
      have hzg := block_lt HZG.out
      have hnb : ¬ b2 = w.heap.size := by omega
      have hnb' : ¬ w.heap.size = b2 := by omega
      have hdr : (World.drew Wg).heap.size = Wg.heap.size := rfl
      clear hWg e0 e1 e2 e3 e4 e5 hb0 hb1
      go_region_held3 (fun w' : World => w'.cell? ⟨b2, o2 + 1, none⟩ = some (.int .i64 x.number) ∧ w'.cell? ⟨b2, o2 + 2, none⟩ = some (.int .i64 x.member) ∧ w'.cell? ⟨b2, o2 + 3, none⟩ = some (.int .i64 x.at_) ∧ w'.cell? ⟨b2, o2 + 4, none⟩ = some (.string x.text) ∧ w'.cell? ⟨b2, o2 + 5, none⟩ = some (.int .i64 x.reply)) (first | exact ⟨f1, f2, f3, f4, f5⟩ | exact ⟨k1, k2, k3, k4, k5⟩ | go_keep) (first
        | (go_at_call 49
           refine (l03Post_c l _ _ _ _ _ _ _ (HP.out.below HWd.out) HT.out HV.out hst).mono ?_
           intro e w1 hR
           unfold RetPost at hR
           rw [← HPV.out, ← HPO.out] at hR
           obtain ⟨cs, F, rfl, hM, hF, hge, hb⟩ := hR
           obtain ⟨v9, F9, rfl, hFF, hS⟩ := log_M hM
           obtain ⟨A9, c9, rfl⟩ := hS.toK.shape
           have k1 := cell_below hb f1
           have k2 := cell_below hb f2
           have k3 := cell_below hb f3
           have k4 := cell_below hb f4
           have k5 := cell_below hb f5
           have hz1 := hb.size
           try simp only [World.size_alloc] at hz1
           have hbl := (hb.block _ (by first | omega | (simp <;> omega))).trans HZG.out
           have p0 : w1.cell? ⟨w.heap.size, 0, none⟩ = some (.int .i64 0) := by rw [cell_block hbl]; rfl
           have p1 : w1.cell? ⟨w.heap.size, 1, none⟩ = some (.slice none 0 0) := by rw [cell_block hbl]; rfl
           have pf : ∀ o, w1.frozen? ⟨w.heap.size, o, none⟩ = false := fun o => frozen_block hbl
           have HE := hide (below_step HWd.out hb)
           have HMD := hide (And.intro hM (And.intro hF (show ∀ b ∈ F, w.heap.size < b from fun b hb => (by have := hge b hb; (try simp at this); omega))))
           clear hM hF hge hb hFF hS hbl))
      go_wp2_with fail
      have HZ : Hid (∀ wz, Chg [w.heap.size] w1 wz → RetElem2 logD w PV PO (.returned (.tuple #[.agg #[.int .i64 PV.next, .slice A9 PV.messages.length c9], .bool PO])) wz) := by
        intro wz hch
        obtain ⟨hM, hF, hge⟩ := HMD.out
        exact ⟨_, F, rfl, Dt.M_move _ (fun b hb => hch.block b (logD.M_lt hM b hb) (by have := hge b hb; simp; omega)) hM, hF, fun b hb => by have := hge b hb; omega, HE.out.trans (hch.below HE.out.size (by simp <;> omega))⟩
      refine bodyPost_ret (v := .tuple #[.agg #[.int .i64 PV.next, .slice A9 PV.messages.length c9], .bool PO]) (by simp [results, Tryz.results33, go_sem, p0, p1, pf]) rfl (HZ.out _ ?_)
      (repeat (with_reducible refine Chg.setCell ?_ (.inl (by simp)) _))
      exact Chg.refl _ _
    · have hn2 : (x.number != l.next) = true := by simp [hn]
      have HOK := hide (show applyOk l x = false by rw [apply_0 h0, decide_eq_false hn, Bool.false_and])
      have HL := hide (applyL_no HOK.out)
      clear hn
      go_enter Tryz.func33, Tryz.ntmps33
      go_wp2_with fail
      go_quiet (fail)
      go_wp2_with fail
      have HE := hide (below_drewN HW.out nq)
      have HZ : Hid (∀ wz, Chg [w.heap.size] ((w.alloc (.cells #[.int .i64 0, .slice none 0 0] 31)).drewN nq) wz → RetElem2 logD w (applyL l x) (applyOk l x) (.returned (.tuple #[.agg #[.int .i64 0, .slice none 0 0], .bool false])) wz) := by
        intro wz hch
        rw [HL.out, HOK.out]
        exact ⟨_, [], rfl, noLog_M wz, by simp, by simp, HE.out.trans (hch.below HE.out.size (by simp <;> omega))⟩
      refine bodyPost_ret (v := .tuple #[.agg #[.int .i64 0, .slice none 0 0], .bool false]) (by simp [results, Tryz.results33, go_sem]) rfl (HZ.out _ ?_)
      (repeat (with_reducible refine Chg.setCell ?_ (.inl (by simp)) _))
      exact Chg.refl _ _
  · by_cases h1 : x.kind = 1
    · rw [(apply_1 h0 h1).1, (apply_1 h0 h1).2]
      go_enter Tryz.func33, Tryz.ntmps33
      go_wp2_with fail
      obtain ⟨Wg, hWg⟩ : ∃ V, V = (w.alloc (.cells #[.int .i64 0, .slice none 0 0] 31)) := ⟨_, rfl⟩
      rw [← hWg]
      have HG := hide (show Below w.heap.size w Wg by rw [hWg]; exact HW.out)
      have HZG := hide (show Wg.heap[w.heap.size]? = some (.cells #[.int .i64 0, .slice none 0 0] 31 (0, 0)) by rw [hWg]; exact HZB.out)
      have HWd := hide HG.out.drew
      have f0 := cell_below HG.out e0
      have f1 := cell_below HG.out e1
      have f2 := cell_below HG.out e2
      have f3 := cell_below HG.out e3
      have f4 := cell_below HG.out e4
      have f5 := cell_below HG.out e5
      have g0 := cell_below HG.out hb0
      have g1 := cell_below HG.out hb1
      have hzg := block_lt HZG.out
      have hnb : ¬ b2 = w.heap.size := by omega
      have hnb' : ¬ w.heap.size = b2 := by omega
      have hdr : (World.drew Wg).heap.size = Wg.heap.size := rfl
      clear hWg e0 e1 e2 e3 e4 e5 hb0 hb1
      go_region_held3 (fun w' : World => w'.cell? ⟨b2, o2 + 1, none⟩ = some (.int .i64 x.number) ∧ w'.cell? ⟨b2, o2 + 2, none⟩ = some (.int .i64 x.member) ∧ w'.cell? ⟨b2, o2 + 3, none⟩ = some (.int .i64 x.at_) ∧ w'.cell? ⟨b2, o2 + 4, none⟩ = some (.string x.text) ∧ w'.cell? ⟨b2, o2 + 5, none⟩ = some (.int .i64 x.reply)) (first | exact ⟨f1, f2, f3, f4, f5⟩ | exact ⟨k1, k2, k3, k4, k5⟩ | go_keep) (first
        | (go_at_call 50
           refine (l03Edit_c l _ _ _ _ _ _ (HP.out.below HWd.out) HT.out HV.out hst).mono ?_
           rintro e w1 ⟨cs, F, rfl, hM, hF, hge, hb⟩
           obtain ⟨v9, F9, rfl, hFF, hS⟩ := log_M hM
           obtain ⟨A9, c9, rfl⟩ := hS.toK.shape
           have k1 := cell_below hb f1
           have k2 := cell_below hb f2
           have k3 := cell_below hb f3
           have k4 := cell_below hb f4
           have k5 := cell_below hb f5
           have hz1 := hb.size
           try simp only [World.size_alloc] at hz1
           have hbl := (hb.block _ (by first | omega | (simp <;> omega))).trans HZG.out
           have p0 : w1.cell? ⟨w.heap.size, 0, none⟩ = some (.int .i64 0) := by rw [cell_block hbl]; rfl
           have p1 : w1.cell? ⟨w.heap.size, 1, none⟩ = some (.slice none 0 0) := by rw [cell_block hbl]; rfl
           have pf : ∀ o, w1.frozen? ⟨w.heap.size, o, none⟩ = false := fun o => frozen_block hbl
           have HE := hide (below_step HWd.out hb)
           have HMD := hide (And.intro hM (And.intro hF (show ∀ b ∈ F, w.heap.size < b from fun b hb => (by have := hge b hb; (try simp at this); omega))))
           clear hM hF hge hb hFF hS hbl))
      go_wp2_with fail
      have HZ : Hid (∀ wz, Chg [w.heap.size] w1 wz → RetElem2 logD w (wmL l x.number (edF x.member x.text)) (wmOk l x.number (edF x.member x.text)) (.returned (.tuple #[.agg #[.int .i64 (wmL l x.number (edF x.member x.text)).next, .slice A9 (wmL l x.number (edF x.member x.text)).messages.length c9], .bool (wmOk l x.number (edF x.member x.text))])) wz) := by
        intro wz hch
        obtain ⟨hM, hF, hge⟩ := HMD.out
        exact ⟨_, F, rfl, Dt.M_move _ (fun b hb => hch.block b (logD.M_lt hM b hb) (by have := hge b hb; simp; omega)) hM, hF, fun b hb => by have := hge b hb; omega, HE.out.trans (hch.below HE.out.size (by simp <;> omega))⟩
      refine bodyPost_ret (v := .tuple #[.agg #[.int .i64 (wmL l x.number (edF x.member x.text)).next, .slice A9 (wmL l x.number (edF x.member x.text)).messages.length c9], .bool (wmOk l x.number (edF x.member x.text))]) (by simp [results, Tryz.results33, go_sem, p0, p1, pf]) rfl (HZ.out _ ?_)
      (repeat (with_reducible refine Chg.setCell ?_ (.inl (by simp)) _))
      exact Chg.refl _ _
    · by_cases h2 : x.kind = 2
      · rw [(apply_2 h2).1, (apply_2 h2).2]
        go_enter Tryz.func33, Tryz.ntmps33
        go_wp2_with fail
        obtain ⟨Wg, hWg⟩ : ∃ V, V = (w.alloc (.cells #[.int .i64 0, .slice none 0 0] 31)) := ⟨_, rfl⟩
        rw [← hWg]
        have HG := hide (show Below w.heap.size w Wg by rw [hWg]; exact HW.out)
        have HZG := hide (show Wg.heap[w.heap.size]? = some (.cells #[.int .i64 0, .slice none 0 0] 31 (0, 0)) by rw [hWg]; exact HZB.out)
        have HWd := hide HG.out.drew
        have f0 := cell_below HG.out e0
        have f1 := cell_below HG.out e1
        have f2 := cell_below HG.out e2
        have f3 := cell_below HG.out e3
        have f4 := cell_below HG.out e4
        have f5 := cell_below HG.out e5
        have g0 := cell_below HG.out hb0
        have g1 := cell_below HG.out hb1
        have hzg := block_lt HZG.out
        have hnb : ¬ b2 = w.heap.size := by omega
        have hnb' : ¬ w.heap.size = b2 := by omega
        have hdr : (World.drew Wg).heap.size = Wg.heap.size := rfl
        clear hWg e0 e1 e2 e3 e4 e5 hb0 hb1
        go_region_held3 (fun w' : World => w'.cell? ⟨b2, o2 + 1, none⟩ = some (.int .i64 x.number) ∧ w'.cell? ⟨b2, o2 + 2, none⟩ = some (.int .i64 x.member) ∧ w'.cell? ⟨b2, o2 + 3, none⟩ = some (.int .i64 x.at_) ∧ w'.cell? ⟨b2, o2 + 4, none⟩ = some (.string x.text) ∧ w'.cell? ⟨b2, o2 + 5, none⟩ = some (.int .i64 x.reply)) (first | exact ⟨f1, f2, f3, f4, f5⟩ | exact ⟨k1, k2, k3, k4, k5⟩ | go_keep) (first
          | (go_at_call 51
             refine (l03TakeBack_c l _ _ _ _ _ (HP.out.below HWd.out) HT.out HV.out).mono ?_
             rintro e w1 ⟨cs, F, rfl, hM, hF, hge, hb⟩
             obtain ⟨v9, F9, rfl, hFF, hS⟩ := log_M hM
             obtain ⟨A9, c9, rfl⟩ := hS.toK.shape
             have k1 := cell_below hb f1
             have k2 := cell_below hb f2
             have k3 := cell_below hb f3
             have k4 := cell_below hb f4
             have k5 := cell_below hb f5
             have hz1 := hb.size
             try simp only [World.size_alloc] at hz1
             have hbl := (hb.block _ (by first | omega | (simp <;> omega))).trans HZG.out
             have p0 : w1.cell? ⟨w.heap.size, 0, none⟩ = some (.int .i64 0) := by rw [cell_block hbl]; rfl
             have p1 : w1.cell? ⟨w.heap.size, 1, none⟩ = some (.slice none 0 0) := by rw [cell_block hbl]; rfl
             have pf : ∀ o, w1.frozen? ⟨w.heap.size, o, none⟩ = false := fun o => frozen_block hbl
             have HE := hide (below_step HWd.out hb)
             have HMD := hide (And.intro hM (And.intro hF (show ∀ b ∈ F, w.heap.size < b from fun b hb => (by have := hge b hb; (try simp at this); omega))))
             clear hM hF hge hb hFF hS hbl))
        go_wp2_with fail
        have HZ : Hid (∀ wz, Chg [w.heap.size] w1 wz → RetElem2 logD w (wmL l x.number (tbF x.member)) (wmOk l x.number (tbF x.member)) (.returned (.tuple #[.agg #[.int .i64 (wmL l x.number (tbF x.member)).next, .slice A9 (wmL l x.number (tbF x.member)).messages.length c9], .bool (wmOk l x.number (tbF x.member))])) wz) := by
          intro wz hch
          obtain ⟨hM, hF, hge⟩ := HMD.out
          exact ⟨_, F, rfl, Dt.M_move _ (fun b hb => hch.block b (logD.M_lt hM b hb) (by have := hge b hb; simp; omega)) hM, hF, fun b hb => by have := hge b hb; omega, HE.out.trans (hch.below HE.out.size (by simp <;> omega))⟩
        refine bodyPost_ret (v := .tuple #[.agg #[.int .i64 (wmL l x.number (tbF x.member)).next, .slice A9 (wmL l x.number (tbF x.member)).messages.length c9], .bool (wmOk l x.number (tbF x.member))]) (by simp [results, Tryz.results33, go_sem, p0, p1, pf]) rfl (HZ.out _ ?_)
        (repeat (with_reducible refine Chg.setCell ?_ (.inl (by simp)) _))
        exact Chg.refl _ _
      · by_cases h3 : x.kind = 3
        · rw [(apply_3 h3).1, (apply_3 h3).2]
          go_enter Tryz.func33, Tryz.ntmps33
          go_wp2_with fail
          obtain ⟨Wg, hWg⟩ : ∃ V, V = (w.alloc (.cells #[.int .i64 0, .slice none 0 0] 31)) := ⟨_, rfl⟩
          rw [← hWg]
          have HG := hide (show Below w.heap.size w Wg by rw [hWg]; exact HW.out)
          have HZG := hide (show Wg.heap[w.heap.size]? = some (.cells #[.int .i64 0, .slice none 0 0] 31 (0, 0)) by rw [hWg]; exact HZB.out)
          have HWd := hide HG.out.drew
          have f0 := cell_below HG.out e0
          have f1 := cell_below HG.out e1
          have f2 := cell_below HG.out e2
          have f3 := cell_below HG.out e3
          have f4 := cell_below HG.out e4
          have f5 := cell_below HG.out e5
          have g0 := cell_below HG.out hb0
          have g1 := cell_below HG.out hb1
          have hzg := block_lt HZG.out
          have hnb : ¬ b2 = w.heap.size := by omega
          have hnb' : ¬ w.heap.size = b2 := by omega
          have hdr : (World.drew Wg).heap.size = Wg.heap.size := rfl
          clear hWg e0 e1 e2 e3 e4 e5 hb0 hb1
          go_region_held3 (fun w' : World => w'.cell? ⟨b2, o2 + 1, none⟩ = some (.int .i64 x.number) ∧ w'.cell? ⟨b2, o2 + 2, none⟩ = some (.int .i64 x.member) ∧ w'.cell? ⟨b2, o2 + 3, none⟩ = some (.int .i64 x.at_) ∧ w'.cell? ⟨b2, o2 + 4, none⟩ = some (.string x.text) ∧ w'.cell? ⟨b2, o2 + 5, none⟩ = some (.int .i64 x.reply)) (first | exact ⟨f1, f2, f3, f4, f5⟩ | exact ⟨k1, k2, k3, k4, k5⟩ | go_keep) (first
            | (go_at_call 52
               refine (l03LikeMore_c l _ _ _ _ _ (HP.out.below HWd.out) HT.out HV.out).mono ?_
               rintro e w1 ⟨cs, F, rfl, hM, hF, hge, hb⟩
               obtain ⟨v9, F9, rfl, hFF, hS⟩ := log_M hM
               obtain ⟨A9, c9, rfl⟩ := hS.toK.shape
               have k1 := cell_below hb f1
               have k2 := cell_below hb f2
               have k3 := cell_below hb f3
               have k4 := cell_below hb f4
               have k5 := cell_below hb f5
               have hz1 := hb.size
               try simp only [World.size_alloc] at hz1
               have hbl := (hb.block _ (by first | omega | (simp <;> omega))).trans HZG.out
               have p0 : w1.cell? ⟨w.heap.size, 0, none⟩ = some (.int .i64 0) := by rw [cell_block hbl]; rfl
               have p1 : w1.cell? ⟨w.heap.size, 1, none⟩ = some (.slice none 0 0) := by rw [cell_block hbl]; rfl
               have pf : ∀ o, w1.frozen? ⟨w.heap.size, o, none⟩ = false := fun o => frozen_block hbl
               have HE := hide (below_step HWd.out hb)
               have HMD := hide (And.intro hM (And.intro hF (show ∀ b ∈ F, w.heap.size < b from fun b hb => (by have := hge b hb; (try simp at this); omega))))
               clear hM hF hge hb hFF hS hbl))
          go_wp2_with fail
          have HZ : Hid (∀ wz, Chg [w.heap.size] w1 wz → RetElem2 logD w (wmL l x.number (liF x.member)) (wmOk l x.number (liF x.member)) (.returned (.tuple #[.agg #[.int .i64 (wmL l x.number (liF x.member)).next, .slice A9 (wmL l x.number (liF x.member)).messages.length c9], .bool (wmOk l x.number (liF x.member))])) wz) := by
            intro wz hch
            obtain ⟨hM, hF, hge⟩ := HMD.out
            exact ⟨_, F, rfl, Dt.M_move _ (fun b hb => hch.block b (logD.M_lt hM b hb) (by have := hge b hb; simp; omega)) hM, hF, fun b hb => by have := hge b hb; omega, HE.out.trans (hch.below HE.out.size (by simp <;> omega))⟩
          refine bodyPost_ret (v := .tuple #[.agg #[.int .i64 (wmL l x.number (liF x.member)).next, .slice A9 (wmL l x.number (liF x.member)).messages.length c9], .bool (wmOk l x.number (liF x.member))]) (by simp [results, Tryz.results33, go_sem, p0, p1, pf]) rfl (HZ.out _ ?_)
          (repeat (with_reducible refine Chg.setCell ?_ (.inl (by simp)) _))
          exact Chg.refl _ _
        · rw [(apply_4 h0 h1 h2 h3).1, (apply_4 h0 h1 h2 h3).2]
          go_enter Tryz.func33, Tryz.ntmps33
          go_wp2_with fail
          obtain ⟨Wg, hWg⟩ : ∃ V, V = (w.alloc (.cells #[.int .i64 0, .slice none 0 0] 31)) := ⟨_, rfl⟩
          rw [← hWg]
          have HG := hide (show Below w.heap.size w Wg by rw [hWg]; exact HW.out)
          have HZG := hide (show Wg.heap[w.heap.size]? = some (.cells #[.int .i64 0, .slice none 0 0] 31 (0, 0)) by rw [hWg]; exact HZB.out)
          have HWd := hide HG.out.drew
          have f0 := cell_below HG.out e0
          have f1 := cell_below HG.out e1
          have f2 := cell_below HG.out e2
          have f3 := cell_below HG.out e3
          have f4 := cell_below HG.out e4
          have f5 := cell_below HG.out e5
          have g0 := cell_below HG.out hb0
          have g1 := cell_below HG.out hb1
          have hzg := block_lt HZG.out
          have hnb : ¬ b2 = w.heap.size := by omega
          have hnb' : ¬ w.heap.size = b2 := by omega
          have hdr : (World.drew Wg).heap.size = Wg.heap.size := rfl
          clear hWg e0 e1 e2 e3 e4 e5 hb0 hb1
          go_region_held3 (fun w' : World => w'.cell? ⟨b2, o2 + 1, none⟩ = some (.int .i64 x.number) ∧ w'.cell? ⟨b2, o2 + 2, none⟩ = some (.int .i64 x.member) ∧ w'.cell? ⟨b2, o2 + 3, none⟩ = some (.int .i64 x.at_) ∧ w'.cell? ⟨b2, o2 + 4, none⟩ = some (.string x.text) ∧ w'.cell? ⟨b2, o2 + 5, none⟩ = some (.int .i64 x.reply)) (first | exact ⟨f1, f2, f3, f4, f5⟩ | exact ⟨k1, k2, k3, k4, k5⟩ | go_keep) (first
            | (go_at_call 52
               refine (l03Unlike_c l _ _ _ _ _ (HP.out.below HWd.out) HT.out HV.out).mono ?_
               rintro e w1 ⟨cs, F, rfl, hM, hF, hge, hb⟩
               obtain ⟨v9, F9, rfl, hFF, hS⟩ := log_M hM
               obtain ⟨A9, c9, rfl⟩ := hS.toK.shape
               have k1 := cell_below hb f1
               have k2 := cell_below hb f2
               have k3 := cell_below hb f3
               have k4 := cell_below hb f4
               have k5 := cell_below hb f5
               have hz1 := hb.size
               try simp only [World.size_alloc] at hz1
               have hbl := (hb.block _ (by first | omega | (simp <;> omega))).trans HZG.out
               have p0 : w1.cell? ⟨w.heap.size, 0, none⟩ = some (.int .i64 0) := by rw [cell_block hbl]; rfl
               have p1 : w1.cell? ⟨w.heap.size, 1, none⟩ = some (.slice none 0 0) := by rw [cell_block hbl]; rfl
               have pf : ∀ o, w1.frozen? ⟨w.heap.size, o, none⟩ = false := fun o => frozen_block hbl
               have HE := hide (below_step HWd.out hb)
               have HMD := hide (And.intro hM (And.intro hF (show ∀ b ∈ F, w.heap.size < b from fun b hb => (by have := hge b hb; (try simp at this); omega))))
               clear hM hF hge hb hFF hS hbl))
          go_wp2_with fail
          have HZ : Hid (∀ wz, Chg [w.heap.size] w1 wz → RetElem2 logD w (wmL l x.number (unF x.member)) (wmOk l x.number (unF x.member)) (.returned (.tuple #[.agg #[.int .i64 (wmL l x.number (unF x.member)).next, .slice A9 (wmL l x.number (unF x.member)).messages.length c9], .bool (wmOk l x.number (unF x.member))])) wz) := by
            intro wz hch
            obtain ⟨hM, hF, hge⟩ := HMD.out
            exact ⟨_, F, rfl, Dt.M_move _ (fun b hb => hch.block b (logD.M_lt hM b hb) (by have := hge b hb; simp; omega)) hM, hF, fun b hb => by have := hge b hb; omega, HE.out.trans (hch.below HE.out.size (by simp <;> omega))⟩
          refine bodyPost_ret (v := .tuple #[.agg #[.int .i64 (wmL l x.number (unF x.member)).next, .slice A9 (wmL l x.number (unF x.member)).messages.length c9], .bool (wmOk l x.number (unF x.member))]) (by simp [results, Tryz.results33, go_sem, p0, p1, pf]) rfl (HZ.out _ ?_)
          (repeat (with_reducible refine Chg.setCell ?_ (.inl (by simp)) _))
          exact Chg.refl _ _
open Go Go.RowKit Go.BigFrame
attribute [local go_sem] Calm.cell Calm.frozen
set_option linter.unusedVariables false
set_option linter.unusedSimpArgs false

theorem ev_wm {l : Log} {x : Event} {n : Int} {f : Message → Message × Bool} (he : eventB x = true) (h : applyOk l x = wmOk l n f ∧ applyL l x = wmL l n f) : evOk l x = wmOk l n f ∧ evL l x = wmL l n f := by
  by_cases hv : validLogB l = true
  · rw [(evL_eq he hv).1, (evL_eq he hv).2]; exact h
  · have hv' : validLogB l = false := by simpa using hv
    have h1 : evOk l x = false := by simp [evOk, hv']
    have h2 := wmOk_bad (n := n) (f := f) hv'
    exact ⟨by rw [h1, h2], by rw [evL_no h1, wmL_no h2]⟩
theorem ev_0 {l : Log} {x : Event} (h0 : x.kind = 0) (hv : validLogB l = true) : applyOk l x = (decide (x.number = l.next) && postOk l x.member x.at_ x.text x.reply) := by rw [apply_0 h0]; simp [postOk, hv]
set_option maxHeartbeats 8000000 in
set_option maxRecDepth 100000 in
theorem applyEvent_c (l : Log) (x : Event) (v1 : Value) (w : World) (h1 : SliceK messageD w v1 l.messages) (ht : okTexts l.messages) (hst : x.text.size ≤ 1048576) :
    Calls Tryz.prog 39 #[.agg #[.int .i64 l.next, v1], .agg #[.int .i64 x.kind, .int .i64 x.number, .int .i64 x.member, .int .i64 x.at_, .string x.text, .int .i64 x.reply]] w (RetElem2 logD w (evL l x) (evOk l x)) := by
  obtain ⟨A, c, rfl⟩ := h1.shape
  have HT := hide ht
  have H1 := hide h1
  have HB1 := hide (((RowAt.box (d := logD) (x := l) (log_K_mk h1) (arr := #[.int .i64 l.next, .slice A l.messages.length c]) rfl 31).below ((Below.refl _ _).alloc (Nat.le_refl _) (.cells #[.int .i64 x.kind, .int .i64 x.number, .int .i64 x.member, .int .i64 x.at_, .string x.text, .int .i64 x.reply] 55))).below ((Below.refl _ _).alloc (Nat.le_refl _) (.cells #[.int .i64 0, .slice none 0 0] 31)))
  have HB2 := hide ((RowAt.box (w := w.alloc (.cells #[.int .i64 l.next, .slice A l.messages.length c] 31)) (d := eventD) (x := x) (cs := [.int .i64 x.kind, .int .i64 x.number, .int .i64 x.member, .int .i64 x.at_, .string x.text, .int .i64 x.reply]) rfl (arr := #[.int .i64 x.kind, .int .i64 x.number, .int .i64 x.member, .int .i64 x.at_, .string x.text, .int .i64 x.reply]) rfl 55).below ((Below.refl _ _).alloc (Nat.le_refl _) (.cells #[.int .i64 0, .slice none 0 0] 31)))
  have HW := hide ((((Below.refl w.heap.size w).alloc (Nat.le_refl _) (.cells #[.int .i64 l.next, .slice A l.messages.length c] 31)).alloc (by simp <;> omega) (.cells #[.int .i64 x.kind, .int .i64 x.number, .int .i64 x.member, .int .i64 x.at_, .string x.text, .int .i64 x.reply] 55)).alloc (by simp <;> omega) (.cells #[.int .i64 0, .slice none 0 0] 31))
  have HZB := hide (show (((w.alloc (.cells #[.int .i64 l.next, .slice A l.messages.length c] 31)).alloc (.cells #[.int .i64 x.kind, .int .i64 x.number, .int .i64 x.member, .int .i64 x.at_, .string x.text, .int .i64 x.reply] 55)).alloc (.cells #[.int .i64 0, .slice none 0 0] 31)).heap[w.heap.size + 1 + 1]? = some (.cells #[.int .i64 0, .slice none 0 0] 31 (0, 0)) by
    have := alloc_new ((w.alloc (.cells #[.int .i64 l.next, .slice A l.messages.length c] 31)).alloc (.cells #[.int .i64 x.kind, .int .i64 x.number, .int .i64 x.member, .int .i64 x.at_, .string x.text, .int .i64 x.reply] 55)) (.cells #[.int .i64 0, .slice none 0 0] 31)
    simpa using this)
  simp only [World.size_alloc] at HB1 HB2
  clear h1 ht
  clear HB1 HB2
  have hcon := fun W => validEvent_c x W (by omega)
  by_cases he : eventB x = true
  · have HEV := hide he
    by_cases h0 : x.kind = 0
    · have HOKE := hide (show evOk l x = (decide (x.number = l.next) && postOk l x.member x.at_ x.text x.reply) by simp [evOk, he, apply_0 h0, postOk]; cases validLogB l <;> simp)
      clear he
      by_cases hok : postOk l x.member x.at_ x.text x.reply = true
      · have HPO := hide hok
        have HPL := hide (postL_yes hok)
        clear hok
        by_cases hn : x.number = l.next
        · have hn2 : (l.next != x.number) = false := by simp [hn]
          have HOK := hide (show evOk l x = true by rw [HOKE.out, HPO.out, decide_eq_true hn]; rfl)
          have HL := hide (show evL l x = postNew l x.member x.at_ x.text x.reply by
            unfold evL applyL
            have h2 := HOK.out
            rw [if_pos h2, if_pos h0]
            simp only [evOk, Bool.and_eq_true] at h2
            rw [if_pos h2.2.2])
          rw [HL.out, HOK.out]
          clear hn
          first
          | (rw [h0] at HW HZB; simp only [h0] at hcon)
          | (rw [h1] at HW HZB; simp only [h1] at hcon)
          | (rw [h2] at HW HZB; simp only [h2] at hcon)
          | (rw [h3] at HW HZB; simp only [h3] at hcon)
          | skip
          have HCON := hide hcon
          clear hcon
          go_enter Tryz.func39, Tryz.ntmps39
          go_wp2_with (first
            | (go_at_call 56
               refine (HCON.out _).mono ?_
               rintro e w8 ⟨rfl, hb⟩
               rw [HEV.out]
               have HK1 := hide (H1.out.below (below_step HW.out hb))
               have HZ8 := hide ((hb.block _ (by simp)).trans HZB.out)
               have HW8 := hide (below_step HW.out hb)
               have hz8 := block_lt HZ8.out
               have l0 : w8.cell? ⟨w.heap.size, 0, none⟩ = some (.int .i64 l.next) := cell_below hb (by go_simp)
               have l1 : w8.cell? ⟨w.heap.size, 1, none⟩ = some (.slice A l.messages.length c) := cell_below hb (by go_simp)
               have e0 : w8.cell? ⟨w.heap.size + 1, 0, none⟩ = some (.int .i64 x.kind) := cell_below hb (by go_simp)
               have e1 : w8.cell? ⟨w.heap.size + 1, 1, none⟩ = some (.int .i64 x.number) := cell_below hb (by go_simp)
               have e2 : w8.cell? ⟨w.heap.size + 1, 2, none⟩ = some (.int .i64 x.member) := cell_below hb (by go_simp)
               have e3 : w8.cell? ⟨w.heap.size + 1, 3, none⟩ = some (.int .i64 x.at_) := cell_below hb (by go_simp)
               have e4 : w8.cell? ⟨w.heap.size + 1, 4, none⟩ = some (.string x.text) := cell_below hb (by go_simp)
               have e5 : w8.cell? ⟨w.heap.size + 1, 5, none⟩ = some (.int .i64 x.reply) := cell_below hb (by go_simp)
               skip
               clear hb)
            | (go_at_call 59
               refine (postMessage_c l _ _ _ _ _ _ HK1.out HT.out hst).mono ?_
               rintro e w1 ⟨cs, F, rfl, hM, hF, hge, hb⟩
               rw [HPL.out.1] at hM
               rw [HPL.out.2, HPO.out]
               obtain ⟨v9, F9, rfl, hFF, hS⟩ := log_M hM
               obtain ⟨A9, c9, rfl⟩ := hS.toK.shape
               have n1 := cell_below hb e1
               have hz8b : w.heap.size + 1 < w8.heap.size := by omega
               have hz1 := hb.size
               try simp only [World.size_alloc] at hz1
               have hbl := (hb.block _ (by first | omega | (simp <;> omega))).trans HZ8.out
               have p0 : w1.cell? ⟨w.heap.size + 1 + 1, 0, none⟩ = some (.int .i64 0) := by rw [cell_block hbl]; rfl
               have p1 : w1.cell? ⟨w.heap.size + 1 + 1, 1, none⟩ = some (.slice none 0 0) := by rw [cell_block hbl]; rfl
               have pf : ∀ o, w1.frozen? ⟨w.heap.size + 1 + 1, o, none⟩ = false := fun o => frozen_block hbl
               have HE := hide (below_step HW8.out hb)
               have HMD := hide (And.intro hM (And.intro hF (show ∀ b ∈ F, w.heap.size + 1 + 1 < b from fun b hb => (by have := hge b hb; (try simp at this); omega))))
               clear hM hF hge hb hFF hS hbl
               have hn5 : ¬ w.heap.size + 1 = w1.heap.size := by omega
               have hn6 : ¬ w.heap.size + 1 + 1 = w1.heap.size := by omega
               have hn7 : ¬ w1.heap.size = w.heap.size + 1 + 1 := by omega
               have hn8 : ¬ w1.heap.size = w.heap.size + 1 := by omega
               have hl1 : w.heap.size + 1 < w1.heap.size := by omega
               have hl2 : w.heap.size + 1 + 1 < w1.heap.size := by omega
               have hl3 : w.heap.size + 1 < w1.heap.size + 1 := by omega
               have hl4 : w.heap.size + 1 + 1 < w1.heap.size + 1 := by omega))
          have HZ : Hid (∀ wz, Chg [w.heap.size + 1 + 1] w1 wz → RetElem2 logD w (postNew l x.member x.at_ x.text x.reply) true (.returned (.tuple #[.agg #[.int .i64 (postNew l x.member x.at_ x.text x.reply).next, .slice A9 (postNew l x.member x.at_ x.text x.reply).messages.length c9], .bool true])) wz) := by
            intro wz hch
            obtain ⟨hM, hF, hge⟩ := HMD.out
            exact ⟨_, F, rfl, Dt.M_move _ (fun b hb => hch.block b (logD.M_lt hM b hb) (by have := hge b hb; simp; omega)) hM, hF, fun b hb => by have := hge b hb; omega, HE.out.trans (hch.below HE.out.size (by simp <;> omega))⟩
          refine bodyPost_ret (v := .tuple #[.agg #[.int .i64 (postNew l x.member x.at_ x.text x.reply).next, .slice A9 (postNew l x.member x.at_ x.text x.reply).messages.length c9], .bool true]) (by simp [results, Tryz.results39, go_sem, p0, p1, pf, hl2, hn6, hn7, hl4]) rfl (HZ.out _ ?_)
          (repeat (with_reducible (first | refine Chg.setCell ?_ (.inl (by simp)) _ | refine Chg.setCell ?_ (.inr (by simp)) _ | refine Chg.alloc ?_ _)))
          exact Chg.refl _ _
        · have hn2 : (l.next != x.number) = true := by simp; omega
          have HOK := hide (show evOk l x = false by rw [HOKE.out, decide_eq_false hn]; rfl)
          have HL := hide (evL_no HOK.out)
          clear hn
          first
          | (rw [h0] at HW HZB; simp only [h0] at hcon)
          | (rw [h1] at HW HZB; simp only [h1] at hcon)
          | (rw [h2] at HW HZB; simp only [h2] at hcon)
          | (rw [h3] at HW HZB; simp only [h3] at hcon)
          | skip
          have HCON := hide hcon
          clear hcon
          go_enter Tryz.func39, Tryz.ntmps39
          go_wp2_with (first
            | (go_at_call 56
               refine (HCON.out _).mono ?_
               rintro e w8 ⟨rfl, hb⟩
               rw [HEV.out]
               have HK1 := hide (H1.out.below (below_step HW.out hb))
               have HZ8 := hide ((hb.block _ (by simp)).trans HZB.out)
               have HW8 := hide (below_step HW.out hb)
               have hz8 := block_lt HZ8.out
               have l0 : w8.cell? ⟨w.heap.size, 0, none⟩ = some (.int .i64 l.next) := cell_below hb (by go_simp)
               have l1 : w8.cell? ⟨w.heap.size, 1, none⟩ = some (.slice A l.messages.length c) := cell_below hb (by go_simp)
               have e0 : w8.cell? ⟨w.heap.size + 1, 0, none⟩ = some (.int .i64 x.kind) := cell_below hb (by go_simp)
               have e1 : w8.cell? ⟨w.heap.size + 1, 1, none⟩ = some (.int .i64 x.number) := cell_below hb (by go_simp)
               have e2 : w8.cell? ⟨w.heap.size + 1, 2, none⟩ = some (.int .i64 x.member) := cell_below hb (by go_simp)
               have e3 : w8.cell? ⟨w.heap.size + 1, 3, none⟩ = some (.int .i64 x.at_) := cell_below hb (by go_simp)
               have e4 : w8.cell? ⟨w.heap.size + 1, 4, none⟩ = some (.string x.text) := cell_below hb (by go_simp)
               have e5 : w8.cell? ⟨w.heap.size + 1, 5, none⟩ = some (.int .i64 x.reply) := cell_below hb (by go_simp)
               skip
               clear hb)
            | (go_at_call 59
               refine (postMessage_c l _ _ _ _ _ _ HK1.out HT.out hst).mono ?_
               rintro e w1 ⟨cs, F, rfl, hM, hF, hge, hb⟩
               rw [HPL.out.1] at hM
               rw [HPL.out.2, HPO.out]
               obtain ⟨v9, F9, rfl, hFF, hS⟩ := log_M hM
               obtain ⟨A9, c9, rfl⟩ := hS.toK.shape
               have n1 := cell_below hb e1
               have hz8b : w.heap.size + 1 < w8.heap.size := by omega
               have hz1 := hb.size
               try simp only [World.size_alloc] at hz1
               have hbl := (hb.block _ (by first | omega | (simp <;> omega))).trans HZ8.out
               have p0 : w1.cell? ⟨w.heap.size + 1 + 1, 0, none⟩ = some (.int .i64 0) := by rw [cell_block hbl]; rfl
               have p1 : w1.cell? ⟨w.heap.size + 1 + 1, 1, none⟩ = some (.slice none 0 0) := by rw [cell_block hbl]; rfl
               have pf : ∀ o, w1.frozen? ⟨w.heap.size + 1 + 1, o, none⟩ = false := fun o => frozen_block hbl
               have HE := hide (below_step HW8.out hb)
               have HMD := hide (And.intro hM (And.intro hF (show ∀ b ∈ F, w.heap.size + 1 + 1 < b from fun b hb => (by have := hge b hb; (try simp at this); omega))))
               clear hM hF hge hb hFF hS hbl
               have hn5 : ¬ w.heap.size + 1 = w1.heap.size := by omega
               have hn6 : ¬ w.heap.size + 1 + 1 = w1.heap.size := by omega
               have hn7 : ¬ w1.heap.size = w.heap.size + 1 + 1 := by omega
               have hn8 : ¬ w1.heap.size = w.heap.size + 1 := by omega
               have hl1 : w.heap.size + 1 < w1.heap.size := by omega
               have hl2 : w.heap.size + 1 + 1 < w1.heap.size := by omega
               have hl3 : w.heap.size + 1 < w1.heap.size + 1 := by omega
               have hl4 : w.heap.size + 1 + 1 < w1.heap.size + 1 := by omega))
          have HZ : Hid (∀ wz, Chg [w.heap.size + 1 + 1] w1 wz → RetElem2 logD w (evL l x) (evOk l x) (.returned (.tuple #[.agg #[.int .i64 0, .slice none 0 0], .bool false])) wz) := by
            intro wz hch
            rw [HL.out, HOK.out]
            exact ⟨_, [], rfl, noLog_M wz, by simp, by simp, HE.out.trans (hch.below HE.out.size (by simp <;> omega))⟩
          refine bodyPost_ret (v := .tuple #[.agg #[.int .i64 0, .slice none 0 0], .bool false]) (by simp [results, Tryz.results39, go_sem, p0, p1, pf, hl2, hn6, hn7, hl4]) rfl (HZ.out _ ?_)
          (repeat (with_reducible (first | refine Chg.setCell ?_ (.inl (by simp)) _ | refine Chg.setCell ?_ (.inr (by simp)) _ | refine Chg.alloc ?_ _)))
          exact Chg.refl _ _
      · have HPO := hide (show postOk l x.member x.at_ x.text x.reply = false by simpa using hok)
        have HPL := hide (postL_no HPO.out)
        have HOK := hide (show evOk l x = false by rw [HOKE.out, HPO.out, Bool.and_false])
        have HL := hide (evL_no HOK.out)
        clear hok
        first
        | (rw [h0] at HW HZB; simp only [h0] at hcon)
        | (rw [h1] at HW HZB; simp only [h1] at hcon)
        | (rw [h2] at HW HZB; simp only [h2] at hcon)
        | (rw [h3] at HW HZB; simp only [h3] at hcon)
        | skip
        have HCON := hide hcon
        clear hcon
        go_enter Tryz.func39, Tryz.ntmps39
        go_wp2_with (first
          | (go_at_call 56
             refine (HCON.out _).mono ?_
             rintro e w8 ⟨rfl, hb⟩
             rw [HEV.out]
             have HK1 := hide (H1.out.below (below_step HW.out hb))
             have HZ8 := hide ((hb.block _ (by simp)).trans HZB.out)
             have HW8 := hide (below_step HW.out hb)
             have hz8 := block_lt HZ8.out
             have l0 : w8.cell? ⟨w.heap.size, 0, none⟩ = some (.int .i64 l.next) := cell_below hb (by go_simp)
             have l1 : w8.cell? ⟨w.heap.size, 1, none⟩ = some (.slice A l.messages.length c) := cell_below hb (by go_simp)
             have e0 : w8.cell? ⟨w.heap.size + 1, 0, none⟩ = some (.int .i64 x.kind) := cell_below hb (by go_simp)
             have e1 : w8.cell? ⟨w.heap.size + 1, 1, none⟩ = some (.int .i64 x.number) := cell_below hb (by go_simp)
             have e2 : w8.cell? ⟨w.heap.size + 1, 2, none⟩ = some (.int .i64 x.member) := cell_below hb (by go_simp)
             have e3 : w8.cell? ⟨w.heap.size + 1, 3, none⟩ = some (.int .i64 x.at_) := cell_below hb (by go_simp)
             have e4 : w8.cell? ⟨w.heap.size + 1, 4, none⟩ = some (.string x.text) := cell_below hb (by go_simp)
             have e5 : w8.cell? ⟨w.heap.size + 1, 5, none⟩ = some (.int .i64 x.reply) := cell_below hb (by go_simp)
             skip
             clear hb)
          | (go_at_call 59
             refine (postMessage_c l _ _ _ _ _ _ HK1.out HT.out hst).mono ?_
             rintro e w1 ⟨cs, F, rfl, hM, hF, hge, hb⟩
             rw [HPL.out.1] at hM
             rw [HPL.out.2, HPO.out]
             obtain ⟨v9, F9, rfl, hFF, hS⟩ := log_M hM
             obtain ⟨A9, c9, rfl⟩ := hS.toK.shape
             have n1 := cell_below hb e1
             have hz8b : w.heap.size + 1 < w8.heap.size := by omega
             have hz1 := hb.size
             try simp only [World.size_alloc] at hz1
             have hbl := (hb.block _ (by first | omega | (simp <;> omega))).trans HZ8.out
             have p0 : w1.cell? ⟨w.heap.size + 1 + 1, 0, none⟩ = some (.int .i64 0) := by rw [cell_block hbl]; rfl
             have p1 : w1.cell? ⟨w.heap.size + 1 + 1, 1, none⟩ = some (.slice none 0 0) := by rw [cell_block hbl]; rfl
             have pf : ∀ o, w1.frozen? ⟨w.heap.size + 1 + 1, o, none⟩ = false := fun o => frozen_block hbl
             have HE := hide (below_step HW8.out hb)
             have HMD := hide (And.intro hM (And.intro hF (show ∀ b ∈ F, w.heap.size + 1 + 1 < b from fun b hb => (by have := hge b hb; (try simp at this); omega))))
             clear hM hF hge hb hFF hS hbl
             have hn5 : ¬ w.heap.size + 1 = w1.heap.size := by omega
             have hn6 : ¬ w.heap.size + 1 + 1 = w1.heap.size := by omega
             have hn7 : ¬ w1.heap.size = w.heap.size + 1 + 1 := by omega
             have hn8 : ¬ w1.heap.size = w.heap.size + 1 := by omega
             have hl1 : w.heap.size + 1 < w1.heap.size := by omega
             have hl2 : w.heap.size + 1 + 1 < w1.heap.size := by omega
             have hl3 : w.heap.size + 1 < w1.heap.size + 1 := by omega
             have hl4 : w.heap.size + 1 + 1 < w1.heap.size + 1 := by omega))
        have HZ : Hid (∀ wz, Chg [w.heap.size + 1 + 1] w1 wz → RetElem2 logD w (evL l x) (evOk l x) (.returned (.tuple #[.agg #[.int .i64 0, .slice none 0 0], .bool false])) wz) := by
          intro wz hch
          rw [HL.out, HOK.out]
          exact ⟨_, [], rfl, noLog_M wz, by simp, by simp, HE.out.trans (hch.below HE.out.size (by simp <;> omega))⟩
        refine bodyPost_ret (v := .tuple #[.agg #[.int .i64 0, .slice none 0 0], .bool false]) (by simp [results, Tryz.results39, go_sem, p0, p1, pf, hl2, hn6, hn7, hl4]) rfl (HZ.out _ ?_)
        (repeat (with_reducible (first | refine Chg.setCell ?_ (.inl (by simp)) _ | refine Chg.setCell ?_ (.inr (by simp)) _ | refine Chg.alloc ?_ _)))
        exact Chg.refl _ _
    · by_cases h1 : x.kind = 1
      · have HOKE := hide (show evOk l x = editOk l x.number x.member x.text ∧ evL l x = editL l x.number x.member x.text by exact ev_wm he (apply_1 h0 h1))
        rw [HOKE.out.1, HOKE.out.2]
        clear he
        first
        | (rw [h0] at HW HZB; simp only [h0] at hcon)
        | (rw [h1] at HW HZB; simp only [h1] at hcon)
        | (rw [h2] at HW HZB; simp only [h2] at hcon)
        | (rw [h3] at HW HZB; simp only [h3] at hcon)
        | skip
        have HCON := hide hcon
        clear hcon
        go_enter Tryz.func39, Tryz.ntmps39
        go_wp2_with (first
                     | (go_at_call 56
                        refine (HCON.out _).mono ?_
                        rintro e w8 ⟨rfl, hb⟩
                        rw [HEV.out]
                        have HK1 := hide (H1.out.below (below_step HW.out hb))
                        have HZ8 := hide ((hb.block _ (by simp)).trans HZB.out)
                        have HW8 := hide (below_step HW.out hb)
                        have hz8 := block_lt HZ8.out
                        have l0 : w8.cell? ⟨w.heap.size, 0, none⟩ = some (.int .i64 l.next) := cell_below hb (by go_simp)
                        have l1 : w8.cell? ⟨w.heap.size, 1, none⟩ = some (.slice A l.messages.length c) := cell_below hb (by go_simp)
                        have e0 : w8.cell? ⟨w.heap.size + 1, 0, none⟩ = some (.int .i64 x.kind) := cell_below hb (by go_simp)
                        have e1 : w8.cell? ⟨w.heap.size + 1, 1, none⟩ = some (.int .i64 x.number) := cell_below hb (by go_simp)
                        have e2 : w8.cell? ⟨w.heap.size + 1, 2, none⟩ = some (.int .i64 x.member) := cell_below hb (by go_simp)
                        have e3 : w8.cell? ⟨w.heap.size + 1, 3, none⟩ = some (.int .i64 x.at_) := cell_below hb (by go_simp)
                        have e4 : w8.cell? ⟨w.heap.size + 1, 4, none⟩ = some (.string x.text) := cell_below hb (by go_simp)
                        have e5 : w8.cell? ⟨w.heap.size + 1, 5, none⟩ = some (.int .i64 x.reply) := cell_below hb (by go_simp)
                        skip
                        clear hb)
                     | (go_at_call 60
                        refine (editMessage_c l _ _ _ _ _ HK1.out HT.out hst).mono ?_
                        rintro e w1 ⟨cs, F, rfl, hM, hF, hge, hb⟩
                        obtain ⟨v9, F9, rfl, hFF, hS⟩ := log_M hM
                        obtain ⟨A9, c9, rfl⟩ := hS.toK.shape
                        have hz1 := hb.size
                        try simp only [World.size_alloc] at hz1
                        have hbl := (hb.block _ (by first | omega | (simp <;> omega))).trans HZ8.out
                        have p0 : w1.cell? ⟨w.heap.size + 1 + 1, 0, none⟩ = some (.int .i64 0) := by rw [cell_block hbl]; rfl
                        have p1 : w1.cell? ⟨w.heap.size + 1 + 1, 1, none⟩ = some (.slice none 0 0) := by rw [cell_block hbl]; rfl
                        have pf : ∀ o, w1.frozen? ⟨w.heap.size + 1 + 1, o, none⟩ = false := fun o => frozen_block hbl
                        have HE := hide (below_step HW8.out hb)
                        have HMD := hide (And.intro hM (And.intro hF (show ∀ b ∈ F, w.heap.size + 1 + 1 < b from fun b hb => (by have := hge b hb; (try simp at this); omega))))
                        clear hM hF hge hb hFF hS hbl))
        have HZ : Hid (∀ wz, Chg [w.heap.size + 1 + 1] w1 wz → RetElem2 logD w (editL l x.number x.member x.text) (editOk l x.number x.member x.text) (.returned (.tuple #[.agg #[.int .i64 (editL l x.number x.member x.text).next, .slice A9 (editL l x.number x.member x.text).messages.length c9], .bool (editOk l x.number x.member x.text)])) wz) := by
          intro wz hch
          obtain ⟨hM, hF, hge⟩ := HMD.out
          exact ⟨_, F, rfl, Dt.M_move _ (fun b hb => hch.block b (logD.M_lt hM b hb) (by have := hge b hb; simp; omega)) hM, hF, fun b hb => by have := hge b hb; omega, HE.out.trans (hch.below HE.out.size (by simp <;> omega))⟩
        refine bodyPost_ret (v := .tuple #[.agg #[.int .i64 (editL l x.number x.member x.text).next, .slice A9 (editL l x.number x.member x.text).messages.length c9], .bool (editOk l x.number x.member x.text)]) (by simp [results, Tryz.results39, go_sem, p0, p1, pf]) rfl (HZ.out _ ?_)
        (repeat (with_reducible refine Chg.setCell ?_ (.inl (by simp)) _))
        exact Chg.refl _ _
      · by_cases h2 : x.kind = 2
        · have HOKE := hide (show evOk l x = takeBackOk l x.number x.member ∧ evL l x = takeBackL l x.number x.member by exact ev_wm he (apply_2 h2))
          rw [HOKE.out.1, HOKE.out.2]
          clear he
          first
          | (rw [h0] at HW HZB; simp only [h0] at hcon)
          | (rw [h1] at HW HZB; simp only [h1] at hcon)
          | (rw [h2] at HW HZB; simp only [h2] at hcon)
          | (rw [h3] at HW HZB; simp only [h3] at hcon)
          | skip
          have HCON := hide hcon
          clear hcon
          go_enter Tryz.func39, Tryz.ntmps39
          go_wp2_with (first
                       | (go_at_call 56
                          refine (HCON.out _).mono ?_
                          rintro e w8 ⟨rfl, hb⟩
                          rw [HEV.out]
                          have HK1 := hide (H1.out.below (below_step HW.out hb))
                          have HZ8 := hide ((hb.block _ (by simp)).trans HZB.out)
                          have HW8 := hide (below_step HW.out hb)
                          have hz8 := block_lt HZ8.out
                          have l0 : w8.cell? ⟨w.heap.size, 0, none⟩ = some (.int .i64 l.next) := cell_below hb (by go_simp)
                          have l1 : w8.cell? ⟨w.heap.size, 1, none⟩ = some (.slice A l.messages.length c) := cell_below hb (by go_simp)
                          have e0 : w8.cell? ⟨w.heap.size + 1, 0, none⟩ = some (.int .i64 x.kind) := cell_below hb (by go_simp)
                          have e1 : w8.cell? ⟨w.heap.size + 1, 1, none⟩ = some (.int .i64 x.number) := cell_below hb (by go_simp)
                          have e2 : w8.cell? ⟨w.heap.size + 1, 2, none⟩ = some (.int .i64 x.member) := cell_below hb (by go_simp)
                          have e3 : w8.cell? ⟨w.heap.size + 1, 3, none⟩ = some (.int .i64 x.at_) := cell_below hb (by go_simp)
                          have e4 : w8.cell? ⟨w.heap.size + 1, 4, none⟩ = some (.string x.text) := cell_below hb (by go_simp)
                          have e5 : w8.cell? ⟨w.heap.size + 1, 5, none⟩ = some (.int .i64 x.reply) := cell_below hb (by go_simp)
                          skip
                          clear hb)
                       | (go_at_call 61
                          refine (takeBack_c l _ _ _ _ HK1.out HT.out).mono ?_
                          rintro e w1 ⟨cs, F, rfl, hM, hF, hge, hb⟩
                          obtain ⟨v9, F9, rfl, hFF, hS⟩ := log_M hM
                          obtain ⟨A9, c9, rfl⟩ := hS.toK.shape
                          have hz1 := hb.size
                          try simp only [World.size_alloc] at hz1
                          have hbl := (hb.block _ (by first | omega | (simp <;> omega))).trans HZ8.out
                          have p0 : w1.cell? ⟨w.heap.size + 1 + 1, 0, none⟩ = some (.int .i64 0) := by rw [cell_block hbl]; rfl
                          have p1 : w1.cell? ⟨w.heap.size + 1 + 1, 1, none⟩ = some (.slice none 0 0) := by rw [cell_block hbl]; rfl
                          have pf : ∀ o, w1.frozen? ⟨w.heap.size + 1 + 1, o, none⟩ = false := fun o => frozen_block hbl
                          have HE := hide (below_step HW8.out hb)
                          have HMD := hide (And.intro hM (And.intro hF (show ∀ b ∈ F, w.heap.size + 1 + 1 < b from fun b hb => (by have := hge b hb; (try simp at this); omega))))
                          clear hM hF hge hb hFF hS hbl))
          have HZ : Hid (∀ wz, Chg [w.heap.size + 1 + 1] w1 wz → RetElem2 logD w (takeBackL l x.number x.member) (takeBackOk l x.number x.member) (.returned (.tuple #[.agg #[.int .i64 (takeBackL l x.number x.member).next, .slice A9 (takeBackL l x.number x.member).messages.length c9], .bool (takeBackOk l x.number x.member)])) wz) := by
            intro wz hch
            obtain ⟨hM, hF, hge⟩ := HMD.out
            exact ⟨_, F, rfl, Dt.M_move _ (fun b hb => hch.block b (logD.M_lt hM b hb) (by have := hge b hb; simp; omega)) hM, hF, fun b hb => by have := hge b hb; omega, HE.out.trans (hch.below HE.out.size (by simp <;> omega))⟩
          refine bodyPost_ret (v := .tuple #[.agg #[.int .i64 (takeBackL l x.number x.member).next, .slice A9 (takeBackL l x.number x.member).messages.length c9], .bool (takeBackOk l x.number x.member)]) (by simp [results, Tryz.results39, go_sem, p0, p1, pf]) rfl (HZ.out _ ?_)
          (repeat (with_reducible refine Chg.setCell ?_ (.inl (by simp)) _))
          exact Chg.refl _ _
        · by_cases h3 : x.kind = 3
          · have HOKE := hide (show evOk l x = likeOk l x.number x.member ∧ evL l x = likeL l x.number x.member by exact ev_wm he (apply_3 h3))
            rw [HOKE.out.1, HOKE.out.2]
            clear he
            first
            | (rw [h0] at HW HZB; simp only [h0] at hcon)
            | (rw [h1] at HW HZB; simp only [h1] at hcon)
            | (rw [h2] at HW HZB; simp only [h2] at hcon)
            | (rw [h3] at HW HZB; simp only [h3] at hcon)
            | skip
            have HCON := hide hcon
            clear hcon
            go_enter Tryz.func39, Tryz.ntmps39
            go_wp2_with (first
                         | (go_at_call 56
                            refine (HCON.out _).mono ?_
                            rintro e w8 ⟨rfl, hb⟩
                            rw [HEV.out]
                            have HK1 := hide (H1.out.below (below_step HW.out hb))
                            have HZ8 := hide ((hb.block _ (by simp)).trans HZB.out)
                            have HW8 := hide (below_step HW.out hb)
                            have hz8 := block_lt HZ8.out
                            have l0 : w8.cell? ⟨w.heap.size, 0, none⟩ = some (.int .i64 l.next) := cell_below hb (by go_simp)
                            have l1 : w8.cell? ⟨w.heap.size, 1, none⟩ = some (.slice A l.messages.length c) := cell_below hb (by go_simp)
                            have e0 : w8.cell? ⟨w.heap.size + 1, 0, none⟩ = some (.int .i64 x.kind) := cell_below hb (by go_simp)
                            have e1 : w8.cell? ⟨w.heap.size + 1, 1, none⟩ = some (.int .i64 x.number) := cell_below hb (by go_simp)
                            have e2 : w8.cell? ⟨w.heap.size + 1, 2, none⟩ = some (.int .i64 x.member) := cell_below hb (by go_simp)
                            have e3 : w8.cell? ⟨w.heap.size + 1, 3, none⟩ = some (.int .i64 x.at_) := cell_below hb (by go_simp)
                            have e4 : w8.cell? ⟨w.heap.size + 1, 4, none⟩ = some (.string x.text) := cell_below hb (by go_simp)
                            have e5 : w8.cell? ⟨w.heap.size + 1, 5, none⟩ = some (.int .i64 x.reply) := cell_below hb (by go_simp)
                            skip
                            clear hb)
                         | (go_at_call 62
                            refine (likeMessage_c l _ _ _ _ HK1.out HT.out).mono ?_
                            rintro e w1 ⟨cs, F, rfl, hM, hF, hge, hb⟩
                            obtain ⟨v9, F9, rfl, hFF, hS⟩ := log_M hM
                            obtain ⟨A9, c9, rfl⟩ := hS.toK.shape
                            have hz1 := hb.size
                            try simp only [World.size_alloc] at hz1
                            have hbl := (hb.block _ (by first | omega | (simp <;> omega))).trans HZ8.out
                            have p0 : w1.cell? ⟨w.heap.size + 1 + 1, 0, none⟩ = some (.int .i64 0) := by rw [cell_block hbl]; rfl
                            have p1 : w1.cell? ⟨w.heap.size + 1 + 1, 1, none⟩ = some (.slice none 0 0) := by rw [cell_block hbl]; rfl
                            have pf : ∀ o, w1.frozen? ⟨w.heap.size + 1 + 1, o, none⟩ = false := fun o => frozen_block hbl
                            have HE := hide (below_step HW8.out hb)
                            have HMD := hide (And.intro hM (And.intro hF (show ∀ b ∈ F, w.heap.size + 1 + 1 < b from fun b hb => (by have := hge b hb; (try simp at this); omega))))
                            clear hM hF hge hb hFF hS hbl))
            have HZ : Hid (∀ wz, Chg [w.heap.size + 1 + 1] w1 wz → RetElem2 logD w (likeL l x.number x.member) (likeOk l x.number x.member) (.returned (.tuple #[.agg #[.int .i64 (likeL l x.number x.member).next, .slice A9 (likeL l x.number x.member).messages.length c9], .bool (likeOk l x.number x.member)])) wz) := by
              intro wz hch
              obtain ⟨hM, hF, hge⟩ := HMD.out
              exact ⟨_, F, rfl, Dt.M_move _ (fun b hb => hch.block b (logD.M_lt hM b hb) (by have := hge b hb; simp; omega)) hM, hF, fun b hb => by have := hge b hb; omega, HE.out.trans (hch.below HE.out.size (by simp <;> omega))⟩
            refine bodyPost_ret (v := .tuple #[.agg #[.int .i64 (likeL l x.number x.member).next, .slice A9 (likeL l x.number x.member).messages.length c9], .bool (likeOk l x.number x.member)]) (by simp [results, Tryz.results39, go_sem, p0, p1, pf]) rfl (HZ.out _ ?_)
            (repeat (with_reducible refine Chg.setCell ?_ (.inl (by simp)) _))
            exact Chg.refl _ _
          · have HOKE := hide (show evOk l x = unlikeOk l x.number x.member ∧ evL l x = unlikeL l x.number x.member by exact ev_wm he (apply_4 h0 h1 h2 h3))
            rw [HOKE.out.1, HOKE.out.2]
            clear he
            first
            | (rw [h0] at HW HZB; simp only [h0] at hcon)
            | (rw [h1] at HW HZB; simp only [h1] at hcon)
            | (rw [h2] at HW HZB; simp only [h2] at hcon)
            | (rw [h3] at HW HZB; simp only [h3] at hcon)
            | skip
            have HCON := hide hcon
            clear hcon
            go_enter Tryz.func39, Tryz.ntmps39
            go_wp2_with (first
                         | (go_at_call 56
                            refine (HCON.out _).mono ?_
                            rintro e w8 ⟨rfl, hb⟩
                            rw [HEV.out]
                            have HK1 := hide (H1.out.below (below_step HW.out hb))
                            have HZ8 := hide ((hb.block _ (by simp)).trans HZB.out)
                            have HW8 := hide (below_step HW.out hb)
                            have hz8 := block_lt HZ8.out
                            have l0 : w8.cell? ⟨w.heap.size, 0, none⟩ = some (.int .i64 l.next) := cell_below hb (by go_simp)
                            have l1 : w8.cell? ⟨w.heap.size, 1, none⟩ = some (.slice A l.messages.length c) := cell_below hb (by go_simp)
                            have e0 : w8.cell? ⟨w.heap.size + 1, 0, none⟩ = some (.int .i64 x.kind) := cell_below hb (by go_simp)
                            have e1 : w8.cell? ⟨w.heap.size + 1, 1, none⟩ = some (.int .i64 x.number) := cell_below hb (by go_simp)
                            have e2 : w8.cell? ⟨w.heap.size + 1, 2, none⟩ = some (.int .i64 x.member) := cell_below hb (by go_simp)
                            have e3 : w8.cell? ⟨w.heap.size + 1, 3, none⟩ = some (.int .i64 x.at_) := cell_below hb (by go_simp)
                            have e4 : w8.cell? ⟨w.heap.size + 1, 4, none⟩ = some (.string x.text) := cell_below hb (by go_simp)
                            have e5 : w8.cell? ⟨w.heap.size + 1, 5, none⟩ = some (.int .i64 x.reply) := cell_below hb (by go_simp)
                            skip
                            clear hb)
                         | (go_at_call 63
                            refine (unlikeMessage_c l _ _ _ _ HK1.out HT.out).mono ?_
                            rintro e w1 ⟨cs, F, rfl, hM, hF, hge, hb⟩
                            obtain ⟨v9, F9, rfl, hFF, hS⟩ := log_M hM
                            obtain ⟨A9, c9, rfl⟩ := hS.toK.shape
                            have hz1 := hb.size
                            try simp only [World.size_alloc] at hz1
                            have hbl := (hb.block _ (by first | omega | (simp <;> omega))).trans HZ8.out
                            have p0 : w1.cell? ⟨w.heap.size + 1 + 1, 0, none⟩ = some (.int .i64 0) := by rw [cell_block hbl]; rfl
                            have p1 : w1.cell? ⟨w.heap.size + 1 + 1, 1, none⟩ = some (.slice none 0 0) := by rw [cell_block hbl]; rfl
                            have pf : ∀ o, w1.frozen? ⟨w.heap.size + 1 + 1, o, none⟩ = false := fun o => frozen_block hbl
                            have HE := hide (below_step HW8.out hb)
                            have HMD := hide (And.intro hM (And.intro hF (show ∀ b ∈ F, w.heap.size + 1 + 1 < b from fun b hb => (by have := hge b hb; (try simp at this); omega))))
                            clear hM hF hge hb hFF hS hbl))
            have HZ : Hid (∀ wz, Chg [w.heap.size + 1 + 1] w1 wz → RetElem2 logD w (unlikeL l x.number x.member) (unlikeOk l x.number x.member) (.returned (.tuple #[.agg #[.int .i64 (unlikeL l x.number x.member).next, .slice A9 (unlikeL l x.number x.member).messages.length c9], .bool (unlikeOk l x.number x.member)])) wz) := by
              intro wz hch
              obtain ⟨hM, hF, hge⟩ := HMD.out
              exact ⟨_, F, rfl, Dt.M_move _ (fun b hb => hch.block b (logD.M_lt hM b hb) (by have := hge b hb; simp; omega)) hM, hF, fun b hb => by have := hge b hb; omega, HE.out.trans (hch.below HE.out.size (by simp <;> omega))⟩
            refine bodyPost_ret (v := .tuple #[.agg #[.int .i64 (unlikeL l x.number x.member).next, .slice A9 (unlikeL l x.number x.member).messages.length c9], .bool (unlikeOk l x.number x.member)]) (by simp [results, Tryz.results39, go_sem, p0, p1, pf]) rfl (HZ.out _ ?_)
            (repeat (with_reducible refine Chg.setCell ?_ (.inl (by simp)) _))
            exact Chg.refl _ _
  · have HEV := hide (show eventB x = false by simpa using he)
    have HOK := hide (show evOk l x = false by simp [evOk, HEV.out])
    have HL := hide (evL_no HOK.out)
    clear he
    first
    | (rw [h0] at HW HZB; simp only [h0] at hcon)
    | (rw [h1] at HW HZB; simp only [h1] at hcon)
    | (rw [h2] at HW HZB; simp only [h2] at hcon)
    | (rw [h3] at HW HZB; simp only [h3] at hcon)
    | skip
    have HCON := hide hcon
    clear hcon
    go_enter Tryz.func39, Tryz.ntmps39
    go_wp2_with (first
      | (go_at_call 56
         refine (HCON.out _).mono ?_
         rintro e w8 ⟨rfl, hb⟩
         rw [HEV.out]
         have HK1 := hide (H1.out.below (below_step HW.out hb))
         have HZ8 := hide ((hb.block _ (by simp)).trans HZB.out)
         have HW8 := hide (below_step HW.out hb)
         have hz8 := block_lt HZ8.out
         have l0 : w8.cell? ⟨w.heap.size, 0, none⟩ = some (.int .i64 l.next) := cell_below hb (by go_simp)
         have l1 : w8.cell? ⟨w.heap.size, 1, none⟩ = some (.slice A l.messages.length c) := cell_below hb (by go_simp)
         have e0 : w8.cell? ⟨w.heap.size + 1, 0, none⟩ = some (.int .i64 x.kind) := cell_below hb (by go_simp)
         have e1 : w8.cell? ⟨w.heap.size + 1, 1, none⟩ = some (.int .i64 x.number) := cell_below hb (by go_simp)
         have e2 : w8.cell? ⟨w.heap.size + 1, 2, none⟩ = some (.int .i64 x.member) := cell_below hb (by go_simp)
         have e3 : w8.cell? ⟨w.heap.size + 1, 3, none⟩ = some (.int .i64 x.at_) := cell_below hb (by go_simp)
         have e4 : w8.cell? ⟨w.heap.size + 1, 4, none⟩ = some (.string x.text) := cell_below hb (by go_simp)
         have e5 : w8.cell? ⟨w.heap.size + 1, 5, none⟩ = some (.int .i64 x.reply) := cell_below hb (by go_simp)
         have p0 : w8.cell? ⟨w.heap.size + 1 + 1, 0, none⟩ = some (.int .i64 0) := cell_below hb (by go_simp)
         have p1 : w8.cell? ⟨w.heap.size + 1 + 1, 1, none⟩ = some (.slice none 0 0) := cell_below hb (by go_simp)
         have pf : ∀ o, w8.frozen? ⟨w.heap.size + 1 + 1, o, none⟩ = false := fun o => frozen_block HZ8.out
         clear hb))
    have HE := HW8
    have HZ : Hid (∀ wz, Chg [w.heap.size + 1 + 1] w8 wz → RetElem2 logD w (evL l x) (evOk l x) (.returned (.tuple #[.agg #[.int .i64 0, .slice none 0 0], .bool false])) wz) := by
      intro wz hch
      rw [HL.out, HOK.out]
      exact ⟨_, [], rfl, noLog_M wz, by simp, by simp, HE.out.trans (hch.below HE.out.size (by simp <;> omega))⟩
    refine bodyPost_ret (v := .tuple #[.agg #[.int .i64 0, .slice none 0 0], .bool false]) (by simp [results, Tryz.results39, go_sem, p0, p1, pf]) rfl (HZ.out _ ?_)
    (repeat (with_reducible refine Chg.setCell ?_ (.inl (by simp)) _))
    exact Chg.refl _ _
end Go.Proofs.YtodmongmaoeknaaGreat
