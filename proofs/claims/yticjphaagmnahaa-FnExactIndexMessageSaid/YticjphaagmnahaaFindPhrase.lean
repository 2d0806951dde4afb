/- FindPhrase: the program and the reference. -/
import Derived.Test.YticjphaagmnahaaPhrase
import Derived.Test.YticjphaagmnahaaPointsFor
import Derived.Test.YticjphaagmnahaaFLogs
import Derived.Test.YticjphaagmnahaaSMsg
import Derived.Test.YticjphaagmnahaaVMsg
import Derived.Deep.RegionWith
namespace Go.Proofs.Yticjphaagmnahaa
open Go Go.RowKit Go.BigFrame
set_option linter.unusedVariables false
set_option linter.unusedSimpArgs false

theorem msgs_ok {l : Log} (h : validLogB l = true) : ∀ m ∈ l.messages, validMessageB m = true := by
  intro m hm
  simp only [validLogB, Bool.and_eq_true] at h
  obtain ⟨q, hq⟩ := adjB_all h.1.1 hm
  simp only [logF, Bool.and_eq_true] at hq
  exact hq.1.1
def fpP (p : List ByteArray) (m : Message) : Bool := hasPh (wordsOf m.text) p
def fpOk (l : Log) (p : List ByteArray) : Bool := validLogB l && queryB p
def fpL (l : Log) (p : List ByteArray) : List Int := if fpOk l p then pickNums (fpP p) l.messages else []
theorem fpL_len (l : Log) (p : List ByteArray) : (fpL l p).length ≤ l.messages.length := by
  unfold fpL; split
  · exact pickNums_len _ _
  · simp
theorem query_len {p : List ByteArray} (h : queryB p = true) : 1 ≤ p.length ∧ p.length ≤ 8 := by
  simp only [queryB, Bool.and_eq_true, decide_eq_true_eq] at h
  omega
set_option maxHeartbeats 4000000 in
set_option maxRecDepth 100000 in
theorem findPhrase1_c (m : Message) (v7 : Value) (b1 : Nat) (Ap : Option Addr) (cp : Nat) (p : List ByteArray) (W : World) (h1 : W.cell? ⟨b1, 0, none⟩ = some (.slice Ap p.length cp)) (hp : SliceK strD W (.slice Ap p.length cp) p) (H7 : SliceK intD W v7 m.likes) (ht : m.text.size ≤ 80) (hq1 : 1 ≤ p.length) (hq2 : p.length ≤ 8) :
    Calls Try.prog 79 (#[.agg (msgArr m v7)] ++ #[.pointer (some ⟨b1, 0, none⟩)]) W fun e W' => e = .returned (.bool (fpP p m)) ∧ Below W.heap.size W W' := by
  show Calls Try.prog 79 #[.agg #[.int .i64 m.number, .int .i64 m.sender, .int .i64 m.at_, .string m.text, .int .i64 m.edits, .bool m.gone, .int .i64 m.reply, v7], .pointer (some ⟨b1, 0, none⟩)] W _
  obtain ⟨A7, c7, rfl⟩ := H7.shape
  have hl1 := World.block_lt_of_cell? W _ h1
  simp only [] at hl1
  have HP := hide hp
  have hwl := wordsOf_len m.text
  clear H7 hp
  obtain ⟨Wb, hWb⟩ : ∃ V, V = W.alloc (.cells #[.int .i64 m.number, .int .i64 m.sender, .int .i64 m.at_, .string m.text, .int .i64 m.edits, .bool m.gone, .int .i64 m.reply, .slice A7 m.likes.length c7] 47) := ⟨_, rfl⟩
  have HS0 := hide (show St W Wb [blk W.heap.size #[.int .i64 m.number, .int .i64 m.sender, .int .i64 m.at_, .string m.text, .int .i64 m.edits, .bool m.gone, .int .i64 m.reply, .slice A7 m.likes.length c7] 47] by rw [hWb]; (repeat (first | (with_reducible exact St.start W) | (with_reducible apply St.alloc) | (with_reducible apply St.set0) | (with_reducible apply St.set1) | (with_reducible apply St.set2) | (with_reducible apply St.set3) | (with_reducible apply St.drew) | (with_reducible apply St.drewN))); all_goals (try (first | rfl | (simp; done))))
  go_enter Try.func79, Try.ntmps79
  go_wp2_with fail
  rw [← hWb]
  clear hWb
  have e3 := HS0.out.at0.cell 3
  simp only [List.getElem?_toArray, List.getElem?_cons_succ, List.getElem?_cons_zero] at e3
  have ez := HS0.out.at0.lt
  have hcap := cell_below HS0.out.below h1
  have hcz := Nat.lt_of_lt_of_le hl1 HS0.out.size
  go_region_with (first
    | (go_at_call 81
       refine (words_c m.text _ (by omega)).mono ?_
       rintro e w1 ⟨v1, rfl, hm, hb⟩
       obtain ⟨F1, hS⟩ := (show St W _ (blk W.heap.size _ _ :: []) from by (repeat (first | (with_reducible exact HS0.out) | (with_reducible apply St.alloc) | (with_reducible apply St.set0) | (with_reducible apply St.set1) | (with_reducible apply St.set2) | (with_reducible apply St.set3) | (with_reducible apply St.drew) | (with_reducible apply St.drewN))); all_goals (try (first | rfl | (simp; done)))).made hm hb
       obtain ⟨A1, c1, rfl⟩ := hm.shape
       have HS1 := hide hS
       have hcap := cell_below HS1.out.below h1
       have hcz := Nat.lt_of_lt_of_le hl1 HS1.out.size
       clear hm hb hS)
    | (go_at_call 80
       refine (hasPhrase_c (wordsOf m.text) p _ _ _ (St.toK HS1.out) (HP.out.below HS1.out.below) hq1 (by omega) (by omega)).mono ?_
       rintro e w2 ⟨rfl, hb⟩
       have HS2 := hide (HS1.out.by hb)
       clear hb))
  all_goals
    go_wp2_with fail
    go_ret
    exact ⟨rfl, HS2.out.below⟩
set_option maxHeartbeats 8000000 in
set_option maxRecDepth 100000 in
theorem findPhrase_c (l : Log) (p : List ByteArray) (v1 v2 : Value) (w : World) (h1 : SliceK messageD w v1 l.messages) (h2 : SliceK strD w v2 p) (ht : okTexts l.messages) (hs : okStrs p) :
    Calls Try.prog 32 #[.agg #[.int .i64 l.next, v1], v2] w (RetMade2 intD 2 w (fpL l p) (fpOk l p)) := by
  obtain ⟨A1, c1, rfl⟩ := h1.shape
  obtain ⟨A2, c2, rfl⟩ := h2.shape
  have H1 := hide h1
  have H2 := hide h2
  have HT := hide ht
  have HOS := hide hs
  clear h1 h2 ht hs
  have HS0 := hide (show St w ((w.alloc (.cells #[.int .i64 l.next, .slice A1 l.messages.length c1] 58)).alloc (.cells #[.slice A2 p.length c2] 25)) [blk (w.heap.size + 1) #[.slice A2 p.length c2] 25, blk w.heap.size #[.int .i64 l.next, .slice A1 l.messages.length c1] 58] by (repeat (first | (with_reducible exact St.start w) | (with_reducible apply St.alloc) | (with_reducible apply St.set0) | (with_reducible apply St.set1) | (with_reducible apply St.set2) | (with_reducible apply St.set3) | (with_reducible apply St.drew) | (with_reducible apply St.drewN))); all_goals (try (first | rfl | (simp; done))))
  (try clear x0 x1 xz)
  obtain ⟨x0, x1⟩ := HS0.out.at1.c2
  have xz := HS0.out.at1.lt
  have y0 := HS0.out.at0.c1
  have yz := HS0.out.at0.lt
  by_cases hv : validLogB l = true
  · have HV := hide hv
    by_cases hq : queryB p = true
    · have HQ := hide hq
      obtain ⟨hq1, hq2⟩ := query_len hq
      have hok := show fpOk l p = true by unfold fpOk; rw [hv, hq]; rfl
      have HOK := hide hok
      have HL := hide (show fpL l p = pickNums (fpP p) l.messages by unfold fpL; rw [if_pos hok])
      have h40 := validLog_40 hv
      have HMO := hide (msgs_ok hv)
      have eg := enters_of Try.func79 (by kernel_rfl) rfl
      clear hv hq hok
      go_enter Try.func32, Try.ntmps32
      go_wp2_with (first
        | (go_at_call 77
           refine (validLog_c l _ _ (H1.out.below HS0.out.below) HT.out).mono ?_
           rintro e w1 ⟨rfl, hb⟩
           rw [HV.out]
           have HS1 := hide (HS0.out.by hb)
           (try clear x0 x1 xz)
           obtain ⟨x0, x1⟩ := HS1.out.at1.c2
           have xz := HS1.out.at1.lt
           clear y0 yz
           have y0 := HS1.out.at0.c1
           have yz := HS1.out.at0.lt
           clear hb)
        | (go_at_call 55
           refine (queryOk_c p _ _ (H2.out.below HS1.out.below) HOS.out).mono ?_
           rintro e w2 ⟨rfl, hb⟩
           rw [HQ.out]
           have HS2 := hide (HS1.out.by hb)
           (try clear x0 x1 xz)
           obtain ⟨x0, x1⟩ := HS2.out.at1.c2
           have xz := HS2.out.at1.lt
           clear y0 yz
           have y0 := HS2.out.at0.c1
           have yz := HS2.out.at0.lt
           clear hb)
        | (go_at_call 78
           refine (numbers_c _ _ (fpP p) l _ _ _ (Blk.rowAt (d := logD) (x := l) HS2.out.at1 (log_K_mk (H1.out.below HS2.out.below)) rfl) h40 eg (fun m v7 W hm hbW h7 => findPhrase1_c m v7 _ A2 c2 p W (cell_below hbW y0) (H2.out.below (below_step HS2.out.below hbW)) h7 (valid_small (HMO.out m hm)).1 hq1 hq2)).mono ?_
           rintro e w3 ⟨v, rfl, hmade, hb⟩
           obtain ⟨F3, hS⟩ := HS2.out.made hmade hb
           obtain ⟨A3, c3, rfl⟩ := hmade.shape
           have HS3 := hide hS
           clear hmade hb hS))
      go_ret2
      rw [HL.out, HOK.out]
      exact ⟨_, rfl, ⟨F3, HS3.out.head, HS3.out.headN, HS3.out.headG⟩, HS3.out.below⟩
    · have HQ := hide (show queryB p = false by simpa using hq)
      have HOK := hide (show fpOk l p = false by unfold fpOk; rw [HQ.out, Bool.and_false])
      have HL := hide (show fpL l p = [] by unfold fpL; rw [HOK.out]; rfl)
      clear hv hq
      go_enter Try.func32, Try.ntmps32
      go_wp2_with (first
        | (go_at_call 77
           refine (validLog_c l _ _ (H1.out.below HS0.out.below) HT.out).mono ?_
           rintro e w1 ⟨rfl, hb⟩
           rw [HV.out]
           have HS1 := hide (HS0.out.by hb)
           (try clear x0 x1 xz)
           obtain ⟨x0, x1⟩ := HS1.out.at1.c2
           have xz := HS1.out.at1.lt
           clear y0 yz
           have y0 := HS1.out.at0.c1
           have yz := HS1.out.at0.lt
           clear hb)
        | (go_at_call 55
           refine (queryOk_c p _ _ (H2.out.below HS1.out.below) HOS.out).mono ?_
           rintro e w2 ⟨rfl, hb⟩
           rw [HQ.out]
           have HS2 := hide (HS1.out.by hb)
           (try clear x0 x1 xz)
           obtain ⟨x0, x1⟩ := HS2.out.at1.c2
           have xz := HS2.out.at1.lt
           clear y0 yz
           have y0 := HS2.out.at0.c1
           have yz := HS2.out.at0.lt
           clear hb))
      go_ret2
      rw [HL.out, HOK.out]
      exact ⟨_, rfl, Made.none _ _, HS2.out.below⟩
  · have HV := hide (show validLogB l = false by simpa using hv)
    have HOK := hide (show fpOk l p = false by unfold fpOk; rw [HV.out, Bool.false_and])
    have HL := hide (show fpL l p = [] by unfold fpL; rw [HOK.out]; rfl)
    clear hv
    go_enter Try.func32, Try.ntmps32
    go_wp2_with (first
      | (go_at_call 77
         refine (validLog_c l _ _ (H1.out.below HS0.out.below) HT.out).mono ?_
         rintro e w1 ⟨rfl, hb⟩
         rw [HV.out]
         have HS1 := hide (HS0.out.by hb)
         (try clear x0 x1 xz)
         obtain ⟨x0, x1⟩ := HS1.out.at1.c2
         have xz := HS1.out.at1.lt
         clear y0 yz
         have y0 := HS1.out.at0.c1
         have yz := HS1.out.at0.lt
         clear hb))
    go_ret2
    rw [HL.out, HOK.out]
    exact ⟨_, rfl, Made.none _ _, HS1.out.below⟩
end Go.Proofs.Yticjphaagmnahaa
