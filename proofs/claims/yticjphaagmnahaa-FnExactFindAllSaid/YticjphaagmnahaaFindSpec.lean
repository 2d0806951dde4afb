/- FindAll: the reference. -/
import Derived.Test.YticjphaagmnahaaFindAll
import Derived.Deep.RegionLaw
namespace Go.Proofs.Yticjphaagmnahaa
open Go Go.RowKit Go.BigFrame
set_option linter.unusedVariables false
set_option linter.unusedSimpArgs false
set_option maxHeartbeats 8000000 in
set_option maxRecDepth 100000 in
theorem specFindAll_c (ix : Index) (ws : List ByteArray) (v1 v2 : Value) (w : World) (h1 : SliceK entryD w v1 ix.entries) (h2 : SliceK strD w v2 ws) (ht : okIndex ix) (hs : okStrs ws) (hf : fewIndex ix) :
    Calls Try.prog 13 #[.agg #[v1], v2] w (RetNums w (faL ix ws) (faOk ix ws)) := by
  obtain ⟨A1, c1, rfl⟩ := h1.shape
  obtain ⟨A2, c2, rfl⟩ := h2.shape
  have H1 := hide h1
  have H2 := hide h2
  have HT := hide ht
  have HOS := hide hs
  have HFW := hide (show ∀ y ∈ ix.entries, y.numbers.length ≤ 1048576 from fun y hy => hf.2 y hy)
  clear h1 h2 ht hs hf
  have HS0 := hide (show St w (w.alloc (.cells #[.slice A1 ix.entries.length c1] 33)) [blk w.heap.size #[.slice A1 ix.entries.length c1] 33] by (repeat (first | (with_reducible exact St.start w) | (with_reducible apply St.alloc) | (with_reducible apply St.set0) | (with_reducible apply St.set1) | (with_reducible apply St.set2) | (with_reducible apply St.set3) | (with_reducible apply St.drew) | (with_reducible apply St.drewN))); all_goals (try (first | rfl | (simp; done))))
  have x0 := HS0.out.at0.c1
  have xz := HS0.out.at0.lt
  by_cases hv : validIxB ix = true
  · have HV := hide hv
    by_cases hq : queryB ws = true
    · have HQ := hide hq
      obtain ⟨t0, r, rfl⟩ : ∃ t0 r, ws = t0 :: r := by
        cases ws with
        | nil => simp [queryB] at hq
        | cons t r => exact ⟨t, r, rfl⟩
      have hok := show faOk ix (t0 :: r) = true by unfold faOk; rw [hv, hq]; rfl
      have HOK := hide hok
      have HL := hide (show faL ix (t0 :: r) = accAll ix.entries t0 r by unfold faL; rw [hok]; rfl)
      clear hv hq hok
      obtain ⟨A2', c2', heq, hlc, hmx, hra⟩ := H2.out
      simp only [Value.slice.injEq] at heq
      obtain ⟨rfl, -, rfl⟩ := heq
      rcases hra with hnil | ⟨q, o2, rfl, hra⟩
      · cases hnil
      have HRA := hide hra
      have hr8 : r.length ≤ 1048576 := by
        have h := HQ.out
        simp only [queryB, Bool.and_eq_true, decide_eq_true_eq] at h
        have hll : (t0 :: r).length = r.length + 1 := rfl
        omega
      clear hra
      go_enter Try.func13, Try.ntmps13
      go_wp2_with (first
        | (go_at_call 49
           refine (l08Is_c ix _ _ _ (ixRow (H1.out.below HS0.out.below) x0) HT.out).mono ?_
           rintro e w1 ⟨rfl, hb⟩
           rw [HV.out]
           have HS1 := hide (HS0.out.by hb)
           (try clear x0 xz)
           have x0 := HS1.out.at0.c1
           have xz := HS1.out.at0.lt
           clear hb)
        | (go_at_call 50
           refine (l08Query_c (t0 :: r) _ _ (H2.out.below HS1.out.below) HOS.out).mono ?_
           rintro e w2 ⟨rfl, hb⟩
           rw [HQ.out]
           have HS2 := hide (HS1.out.by hb)
           obtain ⟨hq0, hd0⟩ := str_at HRA.out HS2.out.below (j := 0) rfl
           simp only [Nat.add_zero] at hd0
           (try clear x0 xz)
           have x0 := HS2.out.at0.c1
           have xz := HS2.out.at0.lt
           clear hb)
        | (go_at_call 51
           refine (l08Numbers_c ix _ _ t0 _ (ixRow (H1.out.below HS2.out.below) x0) HFW.out).mono ?_
           rintro e w4 ⟨v4, rfl, hm, hb⟩
           obtain ⟨F4, hS4⟩ := HS2.out.made hm hb
           obtain ⟨A4, c4, rfl⟩ := hm.shape
           have HS4 := hide hS4
           clear hb hS4 hm))
      clear x0 xz hd0 hq0
      go_loopg [6, 7] r.length (fun gg s6 s7 wr => ∃ (k : Nat) (A9 : Option Addr) (c9 : Nat) (F9 : List Nat), k ≤ r.length ∧ r.length - k ≤ gg ∧ s7 = .int .i64 ((k : Int) + 1) ∧ s6 = .slice A9 (accAll ix.entries t0 (r.take k)).length c9 ∧ Hid (St w wr (own intD 2 (.slice A9 (accAll ix.entries t0 (r.take k)).length c9) (accAll ix.entries t0 (r.take k)) F9 :: [blk w.heap.size #[.slice A1 ix.entries.length c1] 33])))
      case atStart => exact ⟨0, A4, c4, F4, Nat.zero_le _, by omega, rfl, rfl, HS4⟩
      case round =>
        obtain ⟨k, A6, c6, F6, hk, hg, rfl, rfl, HS⟩ := hrel
        obtain ⟨wo, hwo⟩ : ∃ V, V = wr := ⟨_, rfl⟩
        rw [← hwo] at HS ⊢
        clear hwo
        by_cases hlt : k < r.length
        · obtain ⟨m, hx⟩ : ∃ m, r[k]? = some m := ⟨_, List.getElem?_eq_getElem hlt⟩
          obtain ⟨hq1, hd1⟩ := str_at HRA.out HS.out.below (show (t0 :: r)[k + 1]? = some m from hx)
          have HX := hide hx
          have hlt2 : (k : Int) + 1 < (r.length : Int) + 1 := by omega
          have hk3 : ((k : Int) + 1).toNat = k + 1 := by omega
          have hk4 : (0 : Int) ≤ (k : Int) + 1 := by omega
          have y0 := HS.out.at1.c1
          have yz := HS.out.at1.lt
          have hal := accAll_len HV.out t0 (r.take k)
          have HSTEP := hide (bothB_drop ix.entries (accAll ix.entries t0 (r.take k)) m)
          obtain ⟨acc, hacc⟩ : ∃ acc, acc = accAll ix.entries t0 (r.take k) := ⟨_, rfl⟩
          rw [← hacc] at HS hal HSTEP ⊢
          have HACC := hide hacc
          clear hx hacc
          go_wp2_with (
            go_at_call 51
            refine (l08Numbers_c ix _ _ m _ (ixRow (H1.out.below HS.out.below) y0) HFW.out).mono ?_
            rintro e w5 ⟨v5, rfl, hm, hb⟩
            obtain ⟨F5, hS5⟩ := HS.out.made hm hb
            obtain ⟨A5, c5, rfl⟩ := hm.shape
            have HS5 := hide hS5
            clear hb hS5 hm)
          clear y0 yz hd1 hq1
          go_loopg [9, 10] acc.length (fun gg s9 s10 wr => ∃ (j : Nat) (A9 : Option Addr) (c9 : Nat) (F9 : List Nat), j ≤ acc.length ∧ acc.length - j ≤ gg ∧ s10 = .int .i64 j ∧ s9 = .slice A9 (dropP (fun n => !hasB (numsAt ix.entries m) n) (acc.take j)).length c9 ∧ Hid (St w wr (own intD 2 (.slice A9 (dropP (fun n => !hasB (numsAt ix.entries m) n) (acc.take j)).length c9) (dropP (fun n => !hasB (numsAt ix.entries m) n) (acc.take j)) F9 :: own intD 2 (.slice A5 (numsAt ix.entries m).length c5) (numsAt ix.entries m) F5 :: own intD 2 (.slice A6 acc.length c6) acc F6 :: [blk w.heap.size #[.slice A1 ix.entries.length c1] 33])))
          case atStart => exact ⟨0, _, _, _, Nat.zero_le _, by omega, rfl, rfl, hide (St.empty (HS5.out.alloc rfl))⟩
          case round =>
            obtain ⟨j, A9, c9, F9, hj, hg2, rfl, rfl, HI⟩ := hrel
            by_cases hlj : j < acc.length
            · obtain ⟨x, hxj⟩ : ∃ x, acc[j]? = some x := ⟨_, List.getElem?_eq_getElem hlj⟩
              obtain ⟨⟨q6, rfl⟩, -, -⟩ := St.hasBlk (d := intD) rfl (St.pull2 HI.out) hxj
              obtain ⟨hcw, hfw, hzw⟩ := St.flatCell (d := intD) rfl (St.pull2 HI.out) hxj
              have d0 : wr.cell? ⟨q6, j, none⟩ = some (.int .i64 x) := by have h := hcw 0 _ rfl; simpa using h
              have HXJ := hide hxj
              have hlj2 : (j : Int) < (acc.length : Int) := by omega
              have hdl := dropP_le (fun n => !hasB (numsAt ix.entries m) n) (acc.take j)
              have hdl2 : (acc.take j).length ≤ acc.length := by rw [List.length_take]; omega
              clear hcw hfw hxj
              by_cases hh : hasB (numsAt ix.entries m) x = true
              · have HH := hide hh
                clear hh
                go_wp2_with (first
                  | (go_at_call 52; refine (l00Has_c _ _ x _ (St.toK (St.pull1 HI.out))).mono ?_; rintro e w6 ⟨rfl, hb⟩; rw [HH.out]; have HI6 := hide (HI.out.by hb); have d0 := cell_below hb d0; have hzw := Nat.lt_of_lt_of_le hzw hb.size; clear hb)
                  | (at_builtin
                     refine wpList_app1_st (d := intD) (w0 := w) rfl _ rfl _ _ _ rfl (.int .i64 0) 8 Try.underlying28 infoInt rfl (by omega) (by omega) (.slice A9 (dropP (fun n => !hasB (numsAt ix.entries m) n) (acc.take j)).length c9) (dropP (fun n => !hasB (numsAt ix.entries m) n) (acc.take j)) F9 rfl w6.heap.size #[.int .i64 x] (HI6.out.alloc rfl) 1 rfl x rfl (by omega) ?_
                     intro g7 cap7 w7 F7 hS7
                     have HI7 := hide hS7
                     clear hS7))
                go_roundg (acc.length - (j + 1))
                case measure => omega
                case rel =>
                  have hs9 := hide (dropP_keep (p := fun n => !hasB (numsAt ix.entries m) n) HXJ.out (by simp [HH.out]))
                  refine ⟨j + 1, some ⟨g7, 0, none⟩, cap7, F7, by omega, by omega, by go_num, ?_, hide ?_⟩
                  · rw [hs9.out, List.length_append]; rfl
                  · rw [hs9.out, List.length_append]; exact HI7.out
              · have HH := hide (show hasB (numsAt ix.entries m) x = false by simpa using hh)
                clear hh
                go_wp2_with (first
                  | (go_at_call 52; refine (l00Has_c _ _ x _ (St.toK (St.pull1 HI.out))).mono ?_; rintro e w6 ⟨rfl, hb⟩; rw [HH.out]; have HI6 := hide (HI.out.by hb); clear hb))
                go_roundg (acc.length - (j + 1))
                case measure => omega
                case rel =>
                  have hs9 := hide (dropP_skip (p := fun n => !hasB (numsAt ix.entries m) n) HXJ.out (by simp [HH.out]))
                  exact ⟨j + 1, A9, c9, F9, by omega, by omega, by go_num, by rw [hs9.out], hide (by rw [hs9.out]; exact HI6.out)⟩
            · obtain rfl : j = acc.length := by omega
              rw [List.take_length, HSTEP.out] at HI ⊢
              go_wp2_with fail
              go_roundg (r.length - (k + 1))
              case measure => omega
              case rel =>
                refine ⟨k + 1, A9, c9, F9, by omega, by omega, by go_num, by rw [acc_step HX.out, ← HACC.out], hide ?_⟩
                rw [acc_step HX.out, ← HACC.out]
                exact HI.out.drop1.drop1
        · have : k = r.length := by omega
          subst this
          go_wp2_with fail
          go_ret2
          rw [HL.out, HOK.out]
          have hS := HS.out
          rw [List.take_length] at hS ⊢
          exact ⟨_, rfl, ⟨F6, hS.head, hS.headN, hS.headG⟩, hS.below⟩
    · have HQ := hide (show queryB ws = false by simpa using hq)
      have HOK := hide (show faOk ix ws = false by unfold faOk; rw [HQ.out, Bool.and_false])
      have HL := hide (show faL ix ws = [] by unfold faL; rw [HOK.out]; rfl)
      clear hv hq
      go_enter Try.func13, Try.ntmps13
      go_wp2_with (first
        | (go_at_call 49
           refine (l08Is_c ix _ _ _ (ixRow (H1.out.below HS0.out.below) x0) HT.out).mono ?_
           rintro e w1 ⟨rfl, hb⟩
           rw [HV.out]
           have HS1 := hide (HS0.out.by hb)
           (try clear x0 xz)
           have x0 := HS1.out.at0.c1
           have xz := HS1.out.at0.lt
           clear hb)
        | (go_at_call 50
           refine (l08Query_c ws _ _ (H2.out.below HS1.out.below) HOS.out).mono ?_
           rintro e w2 ⟨rfl, hb⟩
           rw [HQ.out]
           have HS2 := hide (HS1.out.by hb)
           (try clear x0 xz)
           have x0 := HS2.out.at0.c1
           have xz := HS2.out.at0.lt
           clear hb))
      go_ret2
      rw [HL.out, HOK.out]
      exact ⟨_, rfl, ⟨[], .inl ⟨rfl, rfl, rfl⟩, by simp, by simp⟩, HS2.out.below⟩
  · have HV := hide (show validIxB ix = false by simpa using hv)
    have HOK := hide (show faOk ix ws = false by unfold faOk; rw [HV.out, Bool.false_and])
    have HL := hide (show faL ix ws = [] by unfold faL; rw [HOK.out]; rfl)
    clear hv
    go_enter Try.func13, Try.ntmps13
    go_wp2_with (first
      | (go_at_call 49
         refine (l08Is_c ix _ _ _ (ixRow (H1.out.below HS0.out.below) x0) HT.out).mono ?_
         rintro e w1 ⟨rfl, hb⟩
         rw [HV.out]
         have HS1 := hide (HS0.out.by hb)
         (try clear x0 xz)
         have x0 := HS1.out.at0.c1
         have xz := HS1.out.at0.lt
         clear hb))
    go_ret2
    rw [HL.out, HOK.out]
    exact ⟨_, rfl, ⟨[], .inl ⟨rfl, rfl, rfl⟩, by simp, by simp⟩, HS1.out.below⟩
end Go.Proofs.Yticjphaagmnahaa
