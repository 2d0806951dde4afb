/- The answers to a message: the program and the reference. -/
import Derived.Test.YtjidhgejahpmdaaLogs
import Derived.Test.YtjidhgejahpmdaaSpecLog
namespace Go.Proofs.Ytjidhgejahpmdaa
open Go Go.RowKit Go.BigFrame
attribute [local go_sem] Calm.cell Calm.frozen
set_option linter.unusedVariables false
set_option linter.unusedSimpArgs false

def answersP (n : Int) (m : Message) : Bool := decide (m.reply = n)
def hasNum (l : Log) (n : Int) : Bool := decide (0 ≤ idxP (numIs n) l.messages)
def answersOk (l : Log) (n : Int) : Bool := validLogB l && hasNum l n
def answersL (l : Log) (n : Int) : List Int := if answersOk l n then pickNums (answersP n) l.messages else []
theorem answersL_yes {l : Log} {n : Int} (h : answersOk l n = true) : answersL l n = pickNums (answersP n) l.messages := by simp [answersL, h]
theorem answersL_no {l : Log} {n : Int} (h : answersOk l n = false) : answersL l n = [] := by simp [answersL, h]

theorem answersL_len (l : Log) (n : Int) : (answersL l n).length ≤ l.messages.length := by
  unfold answersL; split
  · exact pickNums_len _ _
  · simp

set_option maxHeartbeats 1000000 in
theorem answersTo1_c (m : Message) (v7 : Value) (b1 : Nat) (n : Int) (W : World) (h1 : W.cell? ⟨b1, 0, none⟩ = some (.int .i64 n)) (H7 : SliceK intD W v7 m.likes) :
    Calls Try.prog 58 (#[.agg (msgArr m v7)] ++ #[.pointer (some ⟨b1, 0, none⟩)]) W fun e W' => e = .returned (.bool (answersP n m)) ∧ Below W.heap.size W W' := by
  show Calls Try.prog 58 #[.agg #[.int .i64 m.number, .int .i64 m.sender, .int .i64 m.at_, .string m.text, .int .i64 m.edits, .bool m.gone, .int .i64 m.reply, v7], .pointer (some ⟨b1, 0, none⟩)] W _
  obtain ⟨A, c, rfl⟩ := H7.shape
  have hl1 := World.block_lt_of_cell? W _ h1
  simp only [] at hl1
  clear H7
  go_enter Try.func58, Try.ntmps58
  go_wp2_with fail
  all_goals
    go_ret
    refine ⟨?_, (Below.refl _ _).alloc (Nat.le_refl _) _⟩
    refine ret_bool ?_
    first
    | (simp [answersP, *]; done)
    | (rw [Bool.eq_iff_iff]; simp [answersP, *]; done)
set_option maxHeartbeats 4000000 in
theorem answersTo_c (l : Log) (v1 : Value) (n : Int) (w : World) (h1 : SliceK messageD w v1 l.messages) (ht : okTexts l.messages) :
    Calls Try.prog 16 #[.agg #[.int .i64 l.next, v1], .int .i64 n] w (RetMade2 intD 2 w (answersL l n) (answersOk l n)) := by
  obtain ⟨A, c, rfl⟩ := h1.shape
  have H1 := hide h1
  have HT := hide ht
  clear h1 ht
  have HW := hide (((Below.refl w.heap.size w).alloc (Nat.le_refl _) (.cells #[.int .i64 l.next, .slice A l.messages.length c] 31)).alloc (by simp) (.cells #[.int .i64 n] 2))
  have HBX := hide ((RowAt.box (d := logD) (x := l) (log_K_mk H1.out) (arr := #[.int .i64 l.next, .slice A l.messages.length c]) rfl 31).below ((Below.refl _ _).alloc (Nat.le_refl _) (.cells #[.int .i64 n] 2)))
  have HC4 := hide (show ((w.alloc (.cells #[.int .i64 l.next, .slice A l.messages.length c] 31)).alloc (.cells #[.int .i64 n] 2)).cell? ⟨w.heap.size + 1, 0, none⟩ = some (.int .i64 n) by go_simp)
  by_cases hv : validLogB l = true
  · have h40 := validLog_40 hv
    have HV := hide hv
    clear hv
    have eg := enters_of Try.func58 (by kernel_rfl) rfl
    go_enter Try.func16, Try.ntmps16
    go_wp2_with (first
      | (go_at_call 44
         refine (validLog_c l _ _ (H1.out.below HW.out) HT.out).mono ?_
         rintro e w1 ⟨rfl, hb⟩
         rw [HV.out]
         obtain ⟨iq, rfl⟩ : ∃ i : Calm _, w1 = i.world := ⟨⟨w1, hb⟩, rfl⟩
         clear hb
         have hz := iq.size
         simp only [World.size_alloc] at hz)
      | (go_at_call 56
         refine (at_c l _ _ n _ (HBX.out.below iq.below)).mono ?_
         rintro e w1 ⟨rfl, hb⟩
         obtain ⟨ir, rfl⟩ : ∃ i : Calm _, w1 = i.world := ⟨⟨w1, hb⟩, rfl⟩
         clear hb
         have hz2 := ir.size)
      | (go_at_call 57
         refine (numbers_c _ _ (answersP n) l _ _ _ ((HBX.out.below iq.below).below ir.below) h40 eg (fun m v7 W _ hbW h7 => answersTo1_c m v7 _ n W (cell_below hbW (cell_below ir.below (cell_below iq.below HC4.out))) h7)).mono ?_
         rintro e w2 ⟨v, rfl, hmade, hb2⟩
         obtain ⟨A2, c2, rfl⟩ := hmade.shape
         have HMD := hide hmade
         have HB2 := hide hb2
         clear hmade hb2))
    all_goals
      go_ret2
      have HWQ := below_step HW.out iq.below
      have HWR := below_step HWQ ir.below
      first
      | (rw [answersL_yes (by simp [answersOk, hasNum, HV.out]; omega), show answersOk l n = true by simp [answersOk, hasNum, HV.out]; omega]
         exact ⟨_, rfl, HMD.out.lower HWR.size, below_step HWR HB2.out⟩)
      | (rw [answersL_no (by simp [answersOk, hasNum, HV.out]; omega), show answersOk l n = false by simp [answersOk, hasNum, HV.out]; omega]
         exact ⟨_, rfl, Made.none _ _, HWR⟩)
  · have HV := hide (show validLogB l = false by simpa using hv)
    clear hv
    go_enter Try.func16, Try.ntmps16
    go_wp2_with (first
      | (go_at_call 44
         refine (validLog_c l _ _ (H1.out.below HW.out) HT.out).mono ?_
         rintro e w1 ⟨rfl, hb⟩
         rw [HV.out]
         obtain ⟨iq, rfl⟩ : ∃ i : Calm _, w1 = i.world := ⟨⟨w1, hb⟩, rfl⟩
         clear hb))
    go_ret2
    rw [answersL_no (by simp [answersOk, HV.out]), show answersOk l n = false by simp [answersOk, HV.out]]
    exact ⟨_, rfl, Made.none _ _, HW.out.trans (iq.below.mono HW.out.size)⟩
set_option maxHeartbeats 4000000 in
theorem specAnswersTo_c (l : Log) (v1 : Value) (n : Int) (w : World) (h1 : SliceK messageD w v1 l.messages) (ht : okTexts l.messages) :
    Calls Try.prog 14 #[.agg #[.int .i64 l.next, v1], .int .i64 n] w (RetMade2 intD 2 w (answersL l n) (answersOk l n)) := by
  have HBX := hide (RowAt.box (d := logD) (x := l) (log_K_mk h1) (arr := #[.int .i64 l.next, v1]) rfl 31)
  obtain ⟨A, c, rfl, hl, hm, hra⟩ := h1
  have HA := hide hra
  have HT := hide ht
  clear hra ht
  have HW := hide ((Below.refl w.heap.size w).alloc (Nat.le_refl _) (.cells #[.int .i64 l.next, .slice A l.messages.length c] 31))
  by_cases hv : validLogB l = true
  · have h40 := validLog_40 hv
    have HV := hide hv
    clear hv
    by_cases hn : 0 ≤ idxP (numIs n) l.messages
    · have HOK := hide (show answersOk l n = true by simp [answersOk, hasNum, HV.out, hn])
      have hn2 : ¬ (idxP (numIs n) l.messages < 0) := by omega
      go_enter Try.func14, Try.ntmps14
      go_wp2_with (first
        | (go_at_call 53
           refine (l03Is_c l _ _ _ HBX.out HT.out).mono ?_
           rintro e w1 ⟨rfl, hb⟩
           rw [HV.out]
           obtain ⟨ip, rfl⟩ : ∃ i : Calm _, w1 = i.world := ⟨⟨w1, hb⟩, rfl⟩
           clear hb)
        | (go_at_call 54
           refine (l03Find_c l _ _ n _ (HBX.out.below ip.below)).mono ?_
           rintro e w1 ⟨rfl, hb⟩
           obtain ⟨iq, rfl⟩ : ∃ i : Calm _, w1 = i.world := ⟨⟨w1, hb⟩, rfl⟩
           clear hb
           have hz := below_step ip.below iq.below
           have hbq1 : iq.world.cell? ⟨w.heap.size, 1, none⟩ = some (.slice A l.messages.length c) := cell_below hz (by go_simp)
           have hlz : w.heap.size < iq.world.heap.size := by (have := hz.size; simp at this; omega)))
      have HWQ := hide (below_step (below_step HW.out ip.below) iq.below)
      go_loopg [6, 19] l.messages.length (fun gg s6 s19 wr => ∃ k : Nat, k ≤ l.messages.length ∧ l.messages.length - k ≤ gg ∧ s19 = .int .i64 k ∧ Hid (Made intD 2 iq.world wr s6 (pickNums (answersP n) (l.messages.take k))) ∧ Hid (Below iq.world.heap.size iq.world wr))
      case atStart => exact ⟨0, Nat.zero_le _, by omega, rfl, hide ⟨_, emptyM _, by simp, by simp⟩, (Below.refl _ _).alloc (Nat.le_refl _) _⟩
      case round =>
        obtain ⟨k, hk, hg, rfl, HM, HB⟩ := hrel
        have hb1 := cell_below HB.out hbq1
        have hlr : w.heap.size < wr.heap.size := Nat.lt_of_lt_of_le hlz HB.out.size
        by_cases hlt : k < l.messages.length
        · obtain ⟨m, hx⟩ : ∃ m, l.messages[k]? = some m := ⟨_, List.getElem?_eq_getElem hlt⟩
          rcases HA.out with hnil | ⟨q, o2, rfl, hra⟩
          · rw [hnil] at hlt; simp at hlt
          obtain ⟨v7, h7, hq, hc0, hc1, hc2, hc3, hc4, hc5, hc6, hc7⟩ := message_at hra (HWQ.out.trans (HB.out.mono HWQ.out.size)) hx
          obtain ⟨A7, c7, rfl⟩ := h7.shape
          obtain ⟨F, hM, hF, hFB⟩ := HM.out
          obtain ⟨A5, c5, rfl⟩ := hM.toK.shape
          have HX := hide hx
          have HM2 := hide (And.intro hM (And.intro hF hFB))
          have hlt2 : (k : Int) < (l.messages.length : Int) := by omega
          have hpl : (pickNums (answersP n) (l.messages.take k)).length < 1048576 := by have := pickNums_len (answersP n) (l.messages.take k); simp at this; omega
          clear hx hra HA h7 hM hF hFB HM hbq1
          by_cases h1 : m.reply = n
          · have HPM := hide (show answersP n m = true by simp [answersP, h1])
            go_wp2_with (at_builtin
                         obtain ⟨hM, hF, hFB⟩ := HM2.out
                         refine wpList_app_int _ rfl _ _ _ rfl Try.underlying26 infoInt _ _ F rfl (hM.move fun b hb => ((Below.refl wr.heap.size wr).alloc (Nat.le_refl _) _).block b (hM.lt b hb)) hF _ _ m.number rfl (by go_simp) hpl ?_
                         intro g2 cap2 w2 F2 hap
                         have HAP := hide hap
                         clear hap hM hF hFB)
            go_roundg (l.messages.length - (k + 1))
            case measure => omega
            case rel =>
              obtain ⟨hM, hF, hFB⟩ := HM2.out
              have hap := HAP.out
              have hz2 := HB.out.size
              have hge : ∀ x ∈ F2, iq.world.heap.size ≤ x := fun x hx2 => by
                rcases hap.from_ x hx2 with h | h | h
                · exact hFB x h
                · simp at h
                · rw [h]; simp; omega
              refine ⟨k + 1, by omega, by omega, by go_num, hide ⟨F2, ?_, hap.nodup, hge⟩, hide ((HB.out.trans (((Below.refl wr.heap.size wr).alloc (Nat.le_refl _) _).mono HB.out.size)).trans (hap.chg.below (by simp; omega) hFB))⟩
              rw [pickNums_yes HX.out HPM.out]
              have := hap.m
              rwa [show (pickNums (answersP n) (l.messages.take k)).length + 1 = (pickNums (answersP n) (l.messages.take k) ++ [m.number]).length by simp] at this ⊢
          · have HPM := hide (show answersP n m = false by simp [answersP, h1])
            go_wp2_with fail
            go_roundg (l.messages.length - (k + 1))
            case measure => omega
            case rel =>
              refine ⟨k + 1, by omega, by omega, by go_num, ?_, HB⟩
              rw [pickNums_no HX.out HPM.out]
              exact hide ⟨F, HM2.out⟩
        · have : k = l.messages.length := by omega
          subst this
          have hm2 := HM.out
          rw [List.take_length] at hm2
          obtain ⟨A5, c5, rfl⟩ := hm2.shape
          have HM2 := hide hm2
          clear HM hm2 HA
          go_wp2_with fail
          go_ret2
          rw [answersL_yes HOK.out, HOK.out]
          exact ⟨_, rfl, HM2.out.lower (by have := HWQ.out.size; exact this), HWQ.out.trans (HB.out.mono HWQ.out.size)⟩
    · have HOK := hide (show answersOk l n = false by simp [answersOk, hasNum]; intro _; omega)
      have hn2 : idxP (numIs n) l.messages < 0 := by omega
      go_enter Try.func14, Try.ntmps14
      go_wp2_with (first
        | (go_at_call 53
           refine (l03Is_c l _ _ _ HBX.out HT.out).mono ?_
           rintro e w1 ⟨rfl, hb⟩
           rw [HV.out]
           obtain ⟨ip, rfl⟩ : ∃ i : Calm _, w1 = i.world := ⟨⟨w1, hb⟩, rfl⟩
           clear hb)
        | (go_at_call 54
           refine (l03Find_c l _ _ n _ (HBX.out.below ip.below)).mono ?_
           rintro e w1 ⟨rfl, hb⟩
           obtain ⟨iq, rfl⟩ : ∃ i : Calm _, w1 = i.world := ⟨⟨w1, hb⟩, rfl⟩
           clear hb))
      go_ret2
      rw [answersL_no HOK.out, HOK.out]
      exact ⟨_, rfl, Made.none _ _, below_step (below_step HW.out ip.below) iq.below⟩
  · have HV := hide (show validLogB l = false by simpa using hv)
    have HOK := hide (show answersOk l n = false by simp [answersOk, HV.out])
    clear hv
    go_enter Try.func14, Try.ntmps14
    go_wp2_with (first
      | (go_at_call 53
         refine (l03Is_c l _ _ _ HBX.out HT.out).mono ?_
         rintro e w1 ⟨rfl, hb⟩
         rw [HV.out]
         obtain ⟨iq, rfl⟩ : ∃ i : Calm _, w1 = i.world := ⟨⟨w1, hb⟩, rfl⟩
         clear hb))
    go_ret2
    rw [answersL_no HOK.out, HOK.out]
    exact ⟨_, rfl, Made.none _ _, below_step HW.out iq.below⟩
end Go.Proofs.Ytjidhgejahpmdaa
