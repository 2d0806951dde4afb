/- FindAll: the program. -/
import Derived.Test.YticjphaagmnahaaIxAt
import Derived.Test.YticjphaagmnahaaDelInt
import Derived.Test.YticjphaagmnahaaStRow
namespace Go.Proofs.Yticjphaagmnahaa
open Go Go.RowKit Go.BigFrame
set_option linter.unusedVariables false
set_option linter.unusedSimpArgs false

def bothB (es : List Entry) (acc : List Int) (t : ByteArray) : List Int := acc.filter fun n => hasB (numsAt es t) n
def accAll (es : List Entry) (t : ByteArray) (ws : List ByteArray) : List Int := ws.foldl (bothB es) (numsAt es t)
theorem acc_step {es : List Entry} {t : ByteArray} {ws : List ByteArray} {k : Nat} {x : ByteArray} (hx : ws[k]? = some x) : accAll es t (ws.take (k + 1)) = bothB es (accAll es t (ws.take k)) x := by
  obtain ⟨hl, rfl⟩ := List.getElem?_eq_some_iff.1 hx
  unfold accAll
  rw [List.take_succ_eq_append_getElem hl, List.foldl_append]; rfl
theorem bothB_len (es : List Entry) (acc : List Int) (t : ByteArray) : (bothB es acc t).length ≤ acc.length := List.length_filter_le _ _
theorem accAll_len {ix : Index} (h : validIxB ix = true) (t : ByteArray) (ws : List ByteArray) : (accAll ix.entries t ws).length ≤ 40 := by
  unfold accAll
  have : ∀ (ws : List ByteArray) (acc : List Int), acc.length ≤ 40 → (ws.foldl (bothB ix.entries) acc).length ≤ 40 := by
    intro ws
    induction ws with
    | nil => intro acc h; exact h
    | cons x ws ih => intro acc h; exact ih _ (Nat.le_trans (bothB_len _ _ _) h)
  exact this _ _ (numsAt_len h t)
theorem bothB_drop (es : List Entry) (acc : List Int) (t : ByteArray) : dropP (fun n => !hasB (numsAt es t) n) acc = bothB es acc t := by
  unfold dropP bothB
  congr 1
  funext n
  simp
def faOk (ix : Index) (ws : List ByteArray) : Bool := validIxB ix && queryB ws
def faL (ix : Index) (ws : List ByteArray) : List Int := if faOk ix ws then (match ws with | [] => [] | t :: r => accAll ix.entries t r) else []
theorem faL_len (ix : Index) (ws : List ByteArray) : (faL ix ws).length ≤ 40 := by
  unfold faL
  split
  · rename_i h
    unfold faOk at h
    rw [Bool.and_eq_true] at h
    split
    · simp
    · exact accAll_len h.1 _ _
  · simp
theorem findAll1_c (b9 : Nat) (A : Option Addr) (m c : Nat) (list : List Int) (n : Int) (w : World) (hc : w.cell? ⟨b9, 0, none⟩ = some (.slice A m c)) (hl : SliceK intD w (.slice A m c) list) :
    Calls Try.prog 59 #[.int .i64 n, .pointer (some ⟨b9, 0, none⟩)] w fun e w' => e = .returned (.bool (!hasB list n)) ∧ Below w.heap.size w w' := by
  have hz := World.block_lt_of_cell? w _ hc
  simp only [] at hz
  go_enter Try.func59, Try.ntmps59
  go_wp2_with (go_at_call 60; refine (contains_c _ list n _ hl).mono ?_; rintro e w' ⟨rfl, hb⟩; have HN := hide hb; clear hb)
  go_ret
  exact ⟨rfl, HN.out⟩
set_option maxHeartbeats 8000000 in
set_option maxRecDepth 100000 in
theorem findAll_c (ix : Index) (ws : List ByteArray) (v1 v2 : Value) (w : World) (h1 : SliceK entryD w v1 ix.entries) (h2 : SliceK strD w v2 ws) (ht : okIndex ix) (hs : okStrs ws) (hf : fewIndex ix) :
    Calls Try.prog 16 #[.agg #[v1], v2] w (RetNums w (faL ix ws) (faOk ix ws)) := by
  obtain ⟨A1, c1, rfl⟩ := h1.shape
  obtain ⟨A2, c2, rfl⟩ := h2.shape
  have H1 := hide h1
  have H2 := hide h2
  have HT := hide ht
  have HOS := hide hs
  have hfl := hf.1
  clear h1 h2 ht hs hf
  have HS0 := hide (show St w (w.alloc (.cells #[.slice A1 ix.entries.length c1] 33)) [blk w.heap.size #[.slice A1 ix.entries.length c1] 33] by (repeat (first | (with_reducible exact St.start w) | (with_reducible apply St.alloc) | (with_reducible apply St.set0) | (with_reducible apply St.set1) | (with_reducible apply St.set2) | (with_reducible apply St.set3) | (with_reducible apply St.drew) | (with_reducible apply St.drewN))); all_goals (try (first | rfl | (simp; done))))
  have x0 := HS0.out.at0.c1
  have xz := HS0.out.at0.lt
  by_cases hv : validIxB ix = true
  · have HV := hide hv
    have HR := hide (rises_ix hv)
    by_cases hq : queryB ws = true
    · have HQ := hide hq
      obtain ⟨t0, r, rfl⟩ : ∃ t0 r, ws = t0 :: r := by
        cases ws with
        | nil => simp [queryB] at hq
        | cons t r => exact ⟨t, r, rfl⟩
      have hok := show faOk ix (t0 :: r) = true by unfold faOk; rw [hv, hq]; rfl
      have HOK := hide hok
      have HL := hide (show faL ix (t0 :: r) = accAll ix.entries t0 r by unfold faL; rw [hok]; rfl)
      clear hv hq hok
      obtain ⟨A2', c2', heq, hlc, hmx, hra⟩ := H2.out
      simp only [Value.slice.injEq] at heq
      obtain ⟨rfl, -, rfl⟩ := heq
      rcases hra with hnil | ⟨q, o2, rfl, hra⟩
      · cases hnil
      have HRA := hide hra
      obtain ⟨hq0, hd0⟩ := str_at hra HS0.out.below (j := 0) rfl
      simp only [Nat.add_zero] at hd0
      have hll : (t0 :: r).length = r.length + 1 := rfl
      have hc2 : 1 ≤ c2 := by omega
      have hc3 : r.length + 1 ≤ c2 := by omega
      have hr8 : r.length ≤ 1048576 := by
        have h := HQ.out
        simp only [queryB, Bool.and_eq_true, decide_eq_true_eq] at h
        omega
      clear hra
      have HRR := hide (show RowAt strD w q (o2 + 1) r from by have h := HRA.out.drop 1; exact h)
      have eg := enters_of Try.func59 (by kernel_rfl) rfl
      by_cases hc1 : c2 = 1
      · subst hc1
        go_enter Try.func16, Try.ntmps16
        go_wp2_with (first
          | (go_at_call 54
             refine (validIndex_c ix _ _ (H1.out.below HS0.out.below) HT.out).mono ?_
             rintro e w1 ⟨rfl, hb⟩
             rw [HV.out]
             have HS1 := hide (HS0.out.by hb)
             (try clear x0 xz)
             have x0 := HS1.out.at0.c1
             have xz := HS1.out.at0.lt
             clear hb)
          | (go_at_call 55
             refine (queryOk_c (t0 :: r) _ _ (H2.out.below HS1.out.below) HOS.out).mono ?_
             rintro e w2 ⟨rfl, hb⟩
             rw [HQ.out]
             have HS2 := hide (HS1.out.by hb)
             obtain ⟨hq0, hd0⟩ := str_at HRA.out HS2.out.below (j := 0) rfl
             simp only [Nat.add_zero] at hd0
             (try clear x0 xz)
             have x0 := HS2.out.at0.c1
             have xz := HS2.out.at0.lt
             clear hb)
          | (go_at_call 57
             refine (ixNumbers_c ix _ _ t0 w _ _ H1.out HS2.out.below x0 HR.out hfl).mono ?_
             rintro e w3 ⟨⟨A9, n9, c9, rfl, h9⟩, hb⟩
             have H9 := hide h9
             have HS3 := hide (HS2.out.by hb)
             clear hb h9)
          | (go_at_call 56
             refine (clone_c _ (numsAt ix.entries t0) _ (H9.out.below HS3.out.below) (Nat.le_trans (numsAt_len HV.out t0) (by omega))).mono ?_
             rintro e w4 ⟨v4, rfl, hm, hb⟩
             obtain ⟨F4, hS4⟩ := HS3.out.made hm hb
             obtain ⟨A4, c4, rfl⟩ := hm.shape
             have HS4 := hide hS4
             clear hb hS4 hm))
        go_loopg [6, 26] r.length (fun gg s6 s26 wr => ∃ (k : Nat) (A9 : Option Addr) (c9 : Nat) (F9 : List Nat), k ≤ r.length ∧ r.length - k ≤ gg ∧ s26 = .int .i64 k ∧ s6 = .slice A9 (accAll ix.entries t0 (r.take k)).length c9 ∧ Hid (St w wr (own intD 2 (.slice A9 (accAll ix.entries t0 (r.take k)).length c9) (accAll ix.entries t0 (r.take k)) F9 :: [blk w.heap.size #[.slice A1 ix.entries.length c1] 33])))
        case atStart => exact ⟨0, A4, c4, F4, Nat.zero_le _, by omega, rfl, rfl, HS4⟩
        case round =>
          obtain ⟨k, A6, c6, F6, hk, hg, rfl, rfl, HS⟩ := hrel
          by_cases hlt : k < r.length
          · exfalso; omega
          · have : k = r.length := by omega
            subst this
            go_wp2_with fail
            go_ret2
            rw [HL.out, HOK.out]
            have hS := HS.out
            rw [List.take_length] at hS ⊢
            exact ⟨_, rfl, ⟨F6, hS.head, hS.headN, hS.headG⟩, hS.below⟩
      · go_enter Try.func16, Try.ntmps16
        go_wp2_with (first
          | (go_at_call 54
             refine (validIndex_c ix _ _ (H1.out.below HS0.out.below) HT.out).mono ?_
             rintro e w1 ⟨rfl, hb⟩
             rw [HV.out]
             have HS1 := hide (HS0.out.by hb)
             (try clear x0 xz)
             have x0 := HS1.out.at0.c1
             have xz := HS1.out.at0.lt
             clear hb)
          | (go_at_call 55
             refine (queryOk_c (t0 :: r) _ _ (H2.out.below HS1.out.below) HOS.out).mono ?_
             rintro e w2 ⟨rfl, hb⟩
             rw [HQ.out]
             have HS2 := hide (HS1.out.by hb)
             obtain ⟨hq0, hd0⟩ := str_at HRA.out HS2.out.below (j := 0) rfl
             simp only [Nat.add_zero] at hd0
             (try clear x0 xz)
             have x0 := HS2.out.at0.c1
             have xz := HS2.out.at0.lt
             clear hb)
          | (go_at_call 57
             refine (ixNumbers_c ix _ _ t0 w _ _ H1.out HS2.out.below x0 HR.out hfl).mono ?_
             rintro e w3 ⟨⟨A9, n9, c9, rfl, h9⟩, hb⟩
             have H9 := hide h9
             have HS3 := hide (HS2.out.by hb)
             clear hb h9)
          | (go_at_call 56
             refine (clone_c _ (numsAt ix.entries t0) _ (H9.out.below HS3.out.below) (Nat.le_trans (numsAt_len HV.out t0) (by omega))).mono ?_
             rintro e w4 ⟨v4, rfl, hm, hb⟩
             obtain ⟨F4, hS4⟩ := HS3.out.made hm hb
             obtain ⟨A4, c4, rfl⟩ := hm.shape
             have HS4 := hide hS4
             clear hb hS4 hm))
        go_loopg [6, 26] r.length (fun gg s6 s26 wr => ∃ (k : Nat) (A9 : Option Addr) (c9 : Nat) (F9 : List Nat), k ≤ r.length ∧ r.length - k ≤ gg ∧ s26 = .int .i64 k ∧ s6 = .slice A9 (accAll ix.entries t0 (r.take k)).length c9 ∧ Hid (St w wr (own intD 2 (.slice A9 (accAll ix.entries t0 (r.take k)).length c9) (accAll ix.entries t0 (r.take k)) F9 :: [blk w.heap.size #[.slice A1 ix.entries.length c1] 33])))
        case atStart => exact ⟨0, A4, c4, F4, Nat.zero_le _, by omega, rfl, rfl, HS4⟩
        case round =>
          obtain ⟨k, A6, c6, F6, hk, hg, rfl, rfl, HS⟩ := hrel
          by_cases hlt : k < r.length
          · obtain ⟨m, hx⟩ : ∃ m, r[k]? = some m := ⟨_, List.getElem?_eq_getElem hlt⟩
            obtain ⟨hq1, hd1⟩ := str_at HRR.out HS.out.below hx
            have HX := hide hx
            have hlt2 : (k : Int) < (r.length : Int) := by omega
            have y0 := HS.out.at1.c1
            have yz := HS.out.at1.lt
            have hal := accAll_len HV.out t0 (r.take k)
            clear hx
            go_wp2_with (first
              | (go_at_call 57
                 refine (ixNumbers_c ix _ _ m w _ _ H1.out HS.out.below y0 HR.out hfl).mono ?_
                 rintro e w5 ⟨⟨A7, n7, c7, rfl, h9⟩, hb⟩
                 have H7 := hide h9
                 have HS5 := hide (HS.out.by hb)
                 clear hb h9)
              | (go_at_call 58
                 refine Calls.mono (delInt_c _ #[.pointer (some ⟨w5.heap.size, 0, none⟩)] (fun n => !hasB (numsAt ix.entries m) n) _ _ _ F6 w _ (blk w5.heap.size #[.slice A7 n7 c7] 28 :: [blk w.heap.size #[.slice A1 ix.entries.length c1] 33]) (St.pull1 (show St w _ (blk w5.heap.size #[.slice A7 n7 c7] 28 :: own intD 2 (.slice A6 (accAll ix.entries t0 (r.take k)).length c6) (accAll ix.entries t0 (r.take k)) F6 :: [blk w.heap.size #[.slice A1 ix.entries.length c1] 33]) from by (repeat (first | (with_reducible exact HS5.out) | (with_reducible apply St.alloc) | (with_reducible apply St.set0) | (with_reducible apply St.set1) | (with_reducible apply St.set2) | (with_reducible apply St.set3) | (with_reducible apply St.drew) | (with_reducible apply St.drewN))); all_goals (try (first | rfl | (simp; done))))) (by omega) eg (fun n W B hW => findAll1_c _ A7 n7 c7 _ n W hW.at1.c1 (H7.out.below hW.below))) ?_
                 rintro e w6 ⟨A8, c8, F8, rfl, hS6⟩
                 rw [bothB_drop] at hS6
                 rw [bothB_drop]
                 have HS6 := hide hS6.drop1
                 clear hS6))
            go_roundg (r.length - (k + 1))
            case measure => omega
            case rel => exact ⟨k + 1, A8, c8, F8, by omega, by omega, by go_num, by rw [acc_step HX.out], hide (by rw [acc_step HX.out]; exact HS6.out)⟩
          · have : k = r.length := by omega
            subst this
            go_wp2_with fail
            go_ret2
            rw [HL.out, HOK.out]
            have hS := HS.out
            rw [List.take_length] at hS ⊢
            exact ⟨_, rfl, ⟨F6, hS.head, hS.headN, hS.headG⟩, hS.below⟩
    · have HQ := hide (show queryB ws = false by simpa using hq)
      have HOK := hide (show faOk ix ws = false by unfold faOk; rw [HQ.out, Bool.and_false])
      have HL := hide (show faL ix ws = [] by unfold faL; rw [HOK.out]; rfl)
      clear hv hq
      go_enter Try.func16, Try.ntmps16
      go_wp2_with (first
        | (go_at_call 54
           refine (validIndex_c ix _ _ (H1.out.below HS0.out.below) HT.out).mono ?_
           rintro e w1 ⟨rfl, hb⟩
           rw [HV.out]
           have HS1 := hide (HS0.out.by hb)
           (try clear x0 xz)
           have x0 := HS1.out.at0.c1
           have xz := HS1.out.at0.lt
           clear hb)
        | (go_at_call 55
           refine (queryOk_c ws _ _ (H2.out.below HS1.out.below) HOS.out).mono ?_
           rintro e w2 ⟨rfl, hb⟩
           rw [HQ.out]
           have HS2 := hide (HS1.out.by hb)
           (try clear x0 xz)
           have x0 := HS2.out.at0.c1
           have xz := HS2.out.at0.lt
           clear hb))
      go_ret2
      rw [HL.out, HOK.out]
      exact ⟨_, rfl, ⟨[], .inl ⟨rfl, rfl, rfl⟩, by simp, by simp⟩, HS2.out.below⟩
  · have HV := hide (show validIxB ix = false by simpa using hv)
    have HOK := hide (show faOk ix ws = false by unfold faOk; rw [HV.out, Bool.false_and])
    have HL := hide (show faL ix ws = [] by unfold faL; rw [HOK.out]; rfl)
    clear hv
    go_enter Try.func16, Try.ntmps16
    go_wp2_with (first
      | (go_at_call 54
         refine (validIndex_c ix _ _ (H1.out.below HS0.out.below) HT.out).mono ?_
         rintro e w1 ⟨rfl, hb⟩
         rw [HV.out]
         have HS1 := hide (HS0.out.by hb)
         (try clear x0 xz)
         have x0 := HS1.out.at0.c1
         have xz := HS1.out.at0.lt
         clear hb))
    go_ret2
    rw [HL.out, HOK.out]
    exact ⟨_, rfl, ⟨[], .inl ⟨rfl, rfl, rfl⟩, by simp, by simp⟩, HS1.out.below⟩
end Go.Proofs.Yticjphaagmnahaa
