/- The thread of a message: the program and the reference. -/
import Derived.Test.YtjidhgejahpmdaaLogs
import Derived.Test.YtjidhgejahpmdaaSpecLog
import Derived.Test.YtjidhgejahpmdaaAnswers
import Derived.Test.YtjidhgejahpmdaaRoot
namespace Go.Proofs.Ytjidhgejahpmdaa
open Go Go.RowKit Go.BigFrame
attribute [local go_sem] Calm.cell Calm.frozen
set_option linter.unusedVariables false
set_option linter.unusedSimpArgs false

def threadP (ms : List Message) (r : Int) (m : Message) : Bool := decide (rootN ms m.number = r)
def threadL (l : Log) (n : Int) : List Int := if answersOk l n then pickNums (threadP l.messages (rootN l.messages n)) l.messages else []
theorem threadL_yes {l : Log} {n : Int} (h : answersOk l n = true) : threadL l n = pickNums (threadP l.messages (rootN l.messages n)) l.messages := by simp [threadL, h]
theorem threadL_no {l : Log} {n : Int} (h : answersOk l n = false) : threadL l n = [] := by simp [threadL, h]
theorem threadL_len (l : Log) (n : Int) : (threadL l n).length ≤ l.messages.length := by
  unfold threadL; split
  · exact pickNums_len _ _
  · simp

set_option maxHeartbeats 1000000 in
theorem threadOf1_c (l : Log) (m : Message) (v7 : Value) (b b2 : Nat) (r : Int) (W : World) (hp : RowAt logD W b 0 [l]) (hd : down l.messages) (hm : m ∈ l.messages) (h2 : W.cell? ⟨b2, 0, none⟩ = some (.int .i64 r)) (H7 : SliceK intD W v7 m.likes) :
    Calls Try.prog 63 (#[.agg (msgArr m v7)] ++ #[.pointer (some ⟨b, 0, none⟩), .pointer (some ⟨b2, 0, none⟩)]) W fun e W' => e = .returned (.bool (threadP l.messages r m)) ∧ Below W.heap.size W W' := by
  show Calls Try.prog 63 #[.agg #[.int .i64 m.number, .int .i64 m.sender, .int .i64 m.at_, .string m.text, .int .i64 m.edits, .bool m.gone, .int .i64 m.reply, v7], .pointer (some ⟨b, 0, none⟩), .pointer (some ⟨b2, 0, none⟩)] W _
  obtain ⟨A, c, rfl⟩ := H7.shape
  have hl2 := World.block_lt_of_cell? W _ h2
  simp only [] at hl2
  have hi := idx_mem hm
  have HP := hide hp
  have HD := hide hd
  have HI := hide hi
  clear H7 hp hd hm hi
  go_enter Try.func63, Try.ntmps63
  go_wp2_with fail
  (refine wp_region_calm (by kernel_rfl) (by kernel_rfl) ?_; (repeat (first | go_big_quiet_skip | (go_big_quiet_want; go_big_quiet_op; (first | go_big_quiet_on | (apply Exists.intro; refine ⟨fun ic => ?_, ?_⟩; (focus ((go_at_call 62; refine (root_c l _ _ _ _ (HP.out.below ic.boxed) HD.out HI.out).mono ?_; rintro e w2 ⟨rfl, hb⟩; exact ⟨rfl, Calm.next _ hb⟩); done)); go_big_quiet_on))))); refine wpQuiet_nil ?_; intro wq hwq; obtain ⟨iq, hwe⟩ := hwq; subst hwe)
  have hz := iq.size
  go_wp2_with fail
  go_ret
  exact ⟨ret_bool (by rw [Bool.eq_iff_iff]; simp [threadP]), iq.boxed⟩
set_option maxHeartbeats 4000000 in
theorem threadOf_c (l : Log) (v1 : Value) (n : Int) (w : World) (h1 : SliceK messageD w v1 l.messages) (ht : okTexts l.messages) :
    Calls Try.prog 23 #[.agg #[.int .i64 l.next, v1], .int .i64 n] w (RetMade2 intD 2 w (threadL l n) (answersOk l n)) := by
  obtain ⟨A, c, rfl⟩ := h1.shape
  have H1 := hide h1
  have HT := hide ht
  clear h1 ht
  have HW := hide ((Below.refl w.heap.size w).alloc (Nat.le_refl _) (.cells #[.int .i64 l.next, .slice A l.messages.length c] 31))
  have HBX := hide (RowAt.box (d := logD) (x := l) (log_K_mk H1.out) (arr := #[.int .i64 l.next, .slice A l.messages.length c]) rfl 31)
  by_cases hv : validLogB l = true
  · have h40 := validLog_40 hv
    have HV := hide hv
    have HD := hide (valid_down hv)
    clear hv
    by_cases hn : 0 ≤ idxP (numIs n) l.messages
    rotate_left
    · have hn2 : idxP (numIs n) l.messages < 0 := by omega
      go_enter Try.func23, Try.ntmps23
      go_wp2_with (first
        | (go_at_call 44
           refine (validLog_c l _ _ (H1.out.below HW.out) HT.out).mono ?_
           rintro e w1 ⟨rfl, hb⟩
           rw [HV.out]
           obtain ⟨iq, rfl⟩ : ∃ i : Calm _, w1 = i.world := ⟨⟨w1, hb⟩, rfl⟩
           clear hb
           have hz := iq.size
           simp only [World.size_alloc] at hz)
        | (go_at_call 56
           refine (at_c l _ _ n _ (HBX.out.below iq.below)).mono ?_
           rintro e w1 ⟨rfl, hb⟩
           obtain ⟨ir, rfl⟩ : ∃ i : Calm _, w1 = i.world := ⟨⟨w1, hb⟩, rfl⟩
           clear hb))
      go_ret2
      rw [threadL_no (by simp [answersOk, hasNum, HV.out]; omega), show answersOk l n = false by simp [answersOk, hasNum, HV.out]; omega]
      exact ⟨_, rfl, Made.none _ _, below_step (below_step HW.out iq.below) ir.below⟩
    have eg := enters_of Try.func63 (by kernel_rfl) rfl
    go_enter Try.func23, Try.ntmps23
    go_wp2_with (first
      | (go_at_call 44
         refine (validLog_c l _ _ (H1.out.below HW.out) HT.out).mono ?_
         rintro e w1 ⟨rfl, hb⟩
         rw [HV.out]
         obtain ⟨iq, rfl⟩ : ∃ i : Calm _, w1 = i.world := ⟨⟨w1, hb⟩, rfl⟩
         clear hb
         have hz := iq.size
         simp only [World.size_alloc] at hz)
      | (go_at_call 56
         refine (at_c l _ _ n _ (HBX.out.below iq.below)).mono ?_
         rintro e w1 ⟨rfl, hb⟩
         obtain ⟨ir, rfl⟩ : ∃ i : Calm _, w1 = i.world := ⟨⟨w1, hb⟩, rfl⟩
         clear hb
         have hz2 := ir.size)
      | (go_at_call 62
         refine (root_c l _ _ n _ ((HBX.out.below iq.below).below ir.below) HD.out hn).mono ?_
         rintro e w1 ⟨rfl, hb⟩
         obtain ⟨is, rfl⟩ : ∃ i : Calm _, w1 = i.world := ⟨⟨w1, hb⟩, rfl⟩
         clear hb
         have hz3 := is.size)
      | (go_at_call 57
         have HBS := hide (((HBX.out.below iq.below).below ir.below).below is.below)
         refine (numbers_c _ _ (threadP l.messages (rootN l.messages n)) l _ _ _ (HBS.out.below ((Below.refl _ _).alloc (Nat.le_refl _) _)) h40 eg (fun m v7 W hm hbW h7 => threadOf1_c l m v7 _ _ (rootN l.messages n) W ((HBS.out.below ((Below.refl _ _).alloc (Nat.le_refl _) _)).below hbW) HD.out hm (cell_below hbW (by simp)) h7)).mono ?_
         rintro e w2 ⟨v, rfl, hmade, hb2⟩
         obtain ⟨A2, c2, rfl⟩ := hmade.shape
         have HMD := hide hmade
         have HB2 := hide hb2
         clear hmade hb2))
    go_ret2
    have HWQ := below_step HW.out iq.below
    have HWR := below_step HWQ ir.below
    have HWS := (below_step HWR is.below).alloc (below_step HWR is.below).size (.cells #[.int .i64 (rootN l.messages n)] 2)
    rw [threadL_yes (by simp [answersOk, hasNum, HV.out]; omega), show answersOk l n = true by simp [answersOk, hasNum, HV.out]; omega]
    exact ⟨_, rfl, HMD.out.lower HWS.size, below_step HWS HB2.out⟩
  · have HV := hide (show validLogB l = false by simpa using hv)
    clear hv
    go_enter Try.func23, Try.ntmps23
    go_wp2_with (first
      | (go_at_call 44
         refine (validLog_c l _ _ (H1.out.below HW.out) HT.out).mono ?_
         rintro e w1 ⟨rfl, hb⟩
         rw [HV.out]
         obtain ⟨iq, rfl⟩ : ∃ i : Calm _, w1 = i.world := ⟨⟨w1, hb⟩, rfl⟩
         clear hb))
    go_ret2
    rw [threadL_no (by simp [answersOk, HV.out]), show answersOk l n = false by simp [answersOk, HV.out]]
    exact ⟨_, rfl, Made.none _ _, HW.out.trans (iq.below.mono HW.out.size)⟩
set_option maxHeartbeats 4000000 in
theorem specThreadOf_c (l : Log) (v1 : Value) (n : Int) (w : World) (h1 : SliceK messageD w v1 l.messages) (ht : okTexts l.messages) :
    Calls Try.prog 22 #[.agg #[.int .i64 l.next, v1], .int .i64 n] w (RetMade2 intD 2 w (threadL l n) (answersOk l n)) := by
  have HBX := hide (RowAt.box (d := logD) (x := l) (log_K_mk h1) (arr := #[.int .i64 l.next, v1]) rfl 31)
  obtain ⟨A, c, rfl, hl, hm, hra⟩ := h1
  have HA := hide hra
  have HT := hide ht
  clear hra ht
  have HW := hide ((Below.refl w.heap.size w).alloc (Nat.le_refl _) (.cells #[.int .i64 l.next, .slice A l.messages.length c] 31))
  by_cases hv : validLogB l = true
  · have h40 := validLog_40 hv
    have HV := hide hv
    have HD := hide (valid_down hv)
    clear hv
    by_cases hn : 0 ≤ idxP (numIs n) l.messages
    · have HOK := hide (show answersOk l n = true by simp [answersOk, hasNum, HV.out, hn])
      have hn2 : ¬ (idxP (numIs n) l.messages < 0) := by omega
      go_enter Try.func22, Try.ntmps22
      go_wp2_with (first
        | (go_at_call 53
           refine (l03Is_c l _ _ _ HBX.out HT.out).mono ?_
           rintro e w1 ⟨rfl, hb⟩
           rw [HV.out]
           obtain ⟨ip, rfl⟩ : ∃ i : Calm _, w1 = i.world := ⟨⟨w1, hb⟩, rfl⟩
           clear hb)
        | (go_at_call 54
           refine (l03Find_c l _ _ n _ (HBX.out.below ip.below)).mono ?_
           rintro e w1 ⟨rfl, hb⟩
           obtain ⟨iq, rfl⟩ : ∃ i : Calm _, w1 = i.world := ⟨⟨w1, hb⟩, rfl⟩
           clear hb)
        | (go_at_call 61
           refine (l03Root_c l _ _ n _ ((HBX.out.below ip.below).below iq.below) HD.out hn).mono ?_
           rintro e w1 ⟨rfl, hb⟩
           obtain ⟨is, rfl⟩ : ∃ i : Calm _, w1 = i.world := ⟨⟨w1, hb⟩, rfl⟩
           clear hb
           have hz := below_step (below_step ip.below iq.below) is.below
           have hbq1 : is.world.cell? ⟨w.heap.size, 1, none⟩ = some (.slice A l.messages.length c) := cell_below hz (by go_simp)
           have hlz : w.heap.size < is.world.heap.size := by (have := hz.size; simp at this; omega)))
      have HWQ := hide (below_step (below_step (below_step HW.out ip.below) iq.below) is.below)
      have HBS := hide (((HBX.out.below ip.below).below iq.below).below is.below)
      go_loopg [7, 22] l.messages.length (fun gg s7 s22 wr => ∃ k : Nat, k ≤ l.messages.length ∧ l.messages.length - k ≤ gg ∧ s22 = .int .i64 k ∧ Hid (Made intD 2 is.world wr s7 (pickNums (threadP l.messages (rootN l.messages n)) (l.messages.take k))) ∧ Hid (Below is.world.heap.size is.world wr))
      case atStart => exact ⟨0, Nat.zero_le _, by omega, rfl, hide ⟨_, emptyM _, by simp, by simp⟩, (Below.refl _ _).alloc (Nat.le_refl _) _⟩
      case round =>
        obtain ⟨k, hk, hg, rfl, HM, HB⟩ := hrel
        have hb1 := cell_below HB.out hbq1
        have hlr : w.heap.size < wr.heap.size := Nat.lt_of_lt_of_le hlz HB.out.size
        by_cases hlt : k < l.messages.length
        · obtain ⟨m, hx⟩ : ∃ m, l.messages[k]? = some m := ⟨_, List.getElem?_eq_getElem hlt⟩
          rcases HA.out with hnil | ⟨q, o2, rfl, hra⟩
          · rw [hnil] at hlt; simp at hlt
          obtain ⟨v7, h7, hq, hc0, hc1, hc2, hc3, hc4, hc5, hc6, hc7⟩ := message_at hra (HWQ.out.trans (HB.out.mono HWQ.out.size)) hx
          obtain ⟨A7, c7, rfl⟩ := h7.shape
          obtain ⟨F, hM, hF, hFB⟩ := HM.out
          obtain ⟨A5, c5, rfl⟩ := hM.toK.shape
          have HX := hide hx
          have HM2 := hide (And.intro hM (And.intro hF hFB))
          have hlt2 : (k : Int) < (l.messages.length : Int) := by omega
          have hpl : (pickNums (threadP l.messages (rootN l.messages n)) (l.messages.take k)).length < 1048576 := by have := pickNums_len (threadP l.messages (rootN l.messages n)) (l.messages.take k); simp at this; omega
          clear hx hra HA h7 hM hF hFB HM hbq1
          have HI := hide (idx_mem (List.mem_of_getElem? HX.out))
          by_cases h1 : rootN l.messages m.number = rootN l.messages n
          · have HPM := hide (show threadP l.messages (rootN l.messages n) m = true by simp [threadP, h1])
            go_wp2_with (first
              | (go_at_call 61
                 refine (l03Root_c l _ _ m.number _ (HBS.out.below HB.out) HD.out HI.out).mono ?_
                 rintro e w1 ⟨rfl, hb⟩
                 rw [h1]
                 obtain ⟨it, rfl⟩ : ∃ i : Calm _, w1 = i.world := ⟨⟨w1, hb⟩, rfl⟩
                 clear hb
                 have hzt := it.size)
              | (at_builtin
                 obtain ⟨hM, hF, hFB⟩ := HM2.out
                 refine wpList_app_int _ rfl _ _ _ rfl Try.underlying26 infoInt _ _ F rfl (hM.move fun b hb => (it.below.alloc it.below.size _).block b (hM.lt b hb)) hF _ _ m.number rfl (by simp) hpl ?_
                 intro g2 cap2 w2 F2 hap
                 have HAP := hide hap
                 clear hap hM hF hFB))
            go_roundg (l.messages.length - (k + 1))
            case measure => omega
            case rel =>
              obtain ⟨hM, hF, hFB⟩ := HM2.out
              have hap := HAP.out
              have hz2 := HB.out.size
              have hz3 := it.below.size
              have hge : ∀ x ∈ F2, is.world.heap.size ≤ x := fun x hx2 => by
                rcases hap.from_ x hx2 with h | h | h
                · exact hFB x h
                · simp at h
                · rw [h]; simp; omega
              refine ⟨k + 1, by omega, by omega, by go_num, hide ⟨F2, ?_, hap.nodup, hge⟩, hide ((HB.out.trans ((it.below.alloc it.below.size _).mono HB.out.size)).trans (hap.chg.below (by simp; omega) hFB))⟩
              rw [pickNums_yes HX.out HPM.out]
              have := hap.m
              rwa [show (pickNums (threadP l.messages (rootN l.messages n)) (l.messages.take k)).length + 1 = (pickNums (threadP l.messages (rootN l.messages n)) (l.messages.take k) ++ [m.number]).length by simp] at this ⊢
          · have HPM := hide (show threadP l.messages (rootN l.messages n) m = false by simp [threadP, h1])
            go_wp2_with (go_at_call 61
                         refine (l03Root_c l _ _ m.number _ (HBS.out.below HB.out) HD.out HI.out).mono ?_
                         rintro e w1 ⟨rfl, hb⟩
                         obtain ⟨it, rfl⟩ : ∃ i : Calm _, w1 = i.world := ⟨⟨w1, hb⟩, rfl⟩
                         clear hb
                         have hzt := it.size)
            go_roundg (l.messages.length - (k + 1))
            case measure => omega
            case rel =>
              refine ⟨k + 1, by omega, by omega, by go_num, ?_, hide (HB.out.trans (it.below.mono HB.out.size))⟩
              rw [pickNums_no HX.out HPM.out]
              exact hide ⟨F, HM2.out.1.move fun b hb => it.below.block b (HM2.out.1.lt b hb), HM2.out.2⟩
        · have : k = l.messages.length := by omega
          subst this
          have hm2 := HM.out
          rw [List.take_length] at hm2
          obtain ⟨A5, c5, rfl⟩ := hm2.shape
          have HM2 := hide hm2
          clear HM hm2 HA
          go_wp2_with fail
          go_ret2
          rw [threadL_yes HOK.out, HOK.out]
          exact ⟨_, rfl, HM2.out.lower (by have := HWQ.out.size; exact this), HWQ.out.trans (HB.out.mono HWQ.out.size)⟩
    · have HOK := hide (show answersOk l n = false by simp [answersOk, hasNum]; intro _; omega)
      have hn2 : idxP (numIs n) l.messages < 0 := by omega
      go_enter Try.func22, Try.ntmps22
      go_wp2_with (first
        | (go_at_call 53
           refine (l03Is_c l _ _ _ HBX.out HT.out).mono ?_
           rintro e w1 ⟨rfl, hb⟩
           rw [HV.out]
           obtain ⟨ip, rfl⟩ : ∃ i : Calm _, w1 = i.world := ⟨⟨w1, hb⟩, rfl⟩
           clear hb)
        | (go_at_call 54
           refine (l03Find_c l _ _ n _ (HBX.out.below ip.below)).mono ?_
           rintro e w1 ⟨rfl, hb⟩
           obtain ⟨iq, rfl⟩ : ∃ i : Calm _, w1 = i.world := ⟨⟨w1, hb⟩, rfl⟩
           clear hb))
      go_ret2
      rw [threadL_no HOK.out, HOK.out]
      exact ⟨_, rfl, Made.none _ _, below_step (below_step HW.out ip.below) iq.below⟩
  · have HV := hide (show validLogB l = false by simpa using hv)
    have HOK := hide (show answersOk l n = false by simp [answersOk, HV.out])
    clear hv
    go_enter Try.func22, Try.ntmps22
    go_wp2_with (first
      | (go_at_call 53
         refine (l03Is_c l _ _ _ HBX.out HT.out).mono ?_
         rintro e w1 ⟨rfl, hb⟩
         rw [HV.out]
         obtain ⟨iq, rfl⟩ : ∃ i : Calm _, w1 = i.world := ⟨⟨w1, hb⟩, rfl⟩
         clear hb))
    go_ret2
    rw [threadL_no HOK.out, HOK.out]
    exact ⟨_, rfl, Made.none _ _, below_step HW.out iq.below⟩
end Go.Proofs.Ytjidhgejahpmdaa
