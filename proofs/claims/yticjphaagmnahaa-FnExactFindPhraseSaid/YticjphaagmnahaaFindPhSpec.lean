/- FindPhrase: the reference. -/
import Derived.Test.YticjphaagmnahaaFindPhrase
namespace Go.Proofs.Yticjphaagmnahaa
open Go Go.RowKit Go.BigFrame
set_option linter.unusedVariables false
set_option linter.unusedSimpArgs false
set_option maxHeartbeats 8000000 in
set_option maxRecDepth 100000 in
theorem specFindPhrase_c (l : Log) (p : List ByteArray) (v1 v2 : Value) (w : World) (h1 : SliceK messageD w v1 l.messages) (h2 : SliceK strD w v2 p) (ht : okTexts l.messages) (hs : okStrs p) :
    Calls Try.prog 30 #[.agg #[.int .i64 l.next, v1], v2] w (RetMade2 intD 2 w (fpL l p) (fpOk l p)) := by
  obtain ⟨A1, c1, rfl⟩ := h1.shape
  obtain ⟨A2, c2, rfl⟩ := h2.shape
  have H1 := hide h1
  have H2 := hide h2
  have HT := hide ht
  have HOS := hide hs
  clear h1 h2 ht hs
  have HS0 := hide (show St w (w.alloc (.cells #[.int .i64 l.next, .slice A1 l.messages.length c1] 58)) [blk w.heap.size #[.int .i64 l.next, .slice A1 l.messages.length c1] 58] by (repeat (first | (with_reducible exact St.start w) | (with_reducible apply St.alloc) | (with_reducible apply St.set0) | (with_reducible apply St.set1) | (with_reducible apply St.set2) | (with_reducible apply St.set3) | (with_reducible apply St.drew) | (with_reducible apply St.drewN))); all_goals (try (first | rfl | (simp; done))))
  (try clear x0 x1 xz)
  obtain ⟨x0, x1⟩ := HS0.out.at0.c2
  have xz := HS0.out.at0.lt
  by_cases hv : validLogB l = true
  · have HV := hide hv
    by_cases hq : queryB p = true
    · have HQ := hide hq
      obtain ⟨hq1, hq2⟩ := query_len hq
      have hok := show fpOk l p = true by unfold fpOk; rw [hv, hq]; rfl
      have HOK := hide hok
      have HL := hide (show fpL l p = pickNums (fpP p) l.messages by unfold fpL; rw [if_pos hok])
      have h40 := validLog_40 hv
      have HMO := hide (msgs_ok hv)
      clear hv hq hok
      go_enter Try.func30, Try.ntmps30
      go_wp2_with (first
        | (go_at_call 73
           refine (l03Is_c l _ _ _ (Blk.rowAt (d := logD) (x := l) HS0.out.at0 (log_K_mk (H1.out.below HS0.out.below)) rfl) HT.out).mono ?_
           rintro e w1 ⟨rfl, hb⟩
           rw [HV.out]
           have HS1 := hide (HS0.out.by hb)
           (try clear x0 x1 xz)
           obtain ⟨x0, x1⟩ := HS1.out.at0.c2
           have xz := HS1.out.at0.lt
           clear hb)
        | (go_at_call 50
           refine (l08Query_c p _ _ (H2.out.below HS1.out.below) HOS.out).mono ?_
           rintro e w2 ⟨rfl, hb⟩
           rw [HQ.out]
           have HS2 := hide (HS1.out.by hb)
           (try clear x0 x1 xz)
           obtain ⟨x0, x1⟩ := HS2.out.at0.c2
           have xz := HS2.out.at0.lt
           clear hb))
      go_loopg [6, 7] l.messages.length (fun gg s6 s7 wr => ∃ (k : Nat) (A9 : Option Addr) (c9 : Nat) (F9 : List Nat), k ≤ l.messages.length ∧ l.messages.length - k ≤ gg ∧ s7 = .int .i64 k ∧ s6 = .slice A9 (pickNums (fpP p) (l.messages.take k)).length c9 ∧ Hid (St w wr (own intD 2 (.slice A9 (pickNums (fpP p) (l.messages.take k)).length c9) (pickNums (fpP p) (l.messages.take k)) F9 :: [blk w.heap.size #[.int .i64 l.next, .slice A1 l.messages.length c1] 58])))
      case atStart => exact ⟨0, _, _, _, Nat.zero_le _, by omega, rfl, rfl, hide (St.empty (HS2.out.alloc rfl))⟩
      case round =>
        obtain ⟨k, A9, c9, F9, hk, hg, rfl, rfl, HS⟩ := hrel
        (try clear x0 x1 xz)
        obtain ⟨x0, x1⟩ := HS.out.at1.c2
        have xz := HS.out.at1.lt
        have hpl := pickNums_len (fpP p) (l.messages.take k)
        rw [List.length_take] at hpl
        by_cases hlt : k < l.messages.length
        · obtain ⟨m, hx⟩ : ∃ m, l.messages[k]? = some m := ⟨_, List.getElem?_eq_getElem hlt⟩
          obtain ⟨A1', c1', heq, hlc, hmx, hra⟩ := H1.out
          simp only [Value.slice.injEq] at heq
          obtain ⟨rfl, -, rfl⟩ := heq
          rcases hra with hnil | ⟨q, o2, rfl, hra⟩
          · rw [hnil] at hlt; simp at hlt
          obtain ⟨v7, h7, hq0, hc0, hc1, hc2, hc3, hc4, hc5, hc6, hc7⟩ := message_at hra (Below.refl _ _) hx
          have hd3 := cell_below HS.out.below hc3
          have hqz := Nat.lt_of_lt_of_le hq0 HS.out.size
          have hts := (valid_small (HMO.out m (List.mem_of_getElem? hx))).1
          have hwl := wordsOf_len m.text
          have HX := hide hx
          have hlt2 : (k : Int) < (l.messages.length : Int) := by omega
          clear hx hra h7 hc1 hc2 hc3 hc4 hc5 hc6 hc7
          by_cases hh : fpP p m = true
          · have HH := hide hh
            have HPK := hide (pickNums_yes HX.out hh)
            clear hh
            go_wp2_with (first
              | (go_at_call 75
                 refine (l08Words_c m.text _ (by omega)).mono ?_
                 rintro e w5 ⟨v5, rfl, hm, hb⟩
                 obtain ⟨F5, hS⟩ := HS.out.made hm hb
                 obtain ⟨A5, c5, rfl⟩ := hm.shape
                 have HS5 := hide hS
                 clear hm hb hS)
              | (go_at_call 74
                 refine (l08Phrase_c (wordsOf m.text) p _ _ _ (St.toK HS5.out) (H2.out.below HS5.out.below) hq1 (by omega) (by omega)).mono ?_
                 rintro e w6 ⟨rfl, hb⟩
                 rw [show hasPh (wordsOf m.text) p = _ from HH.out]
                 have HS6 := hide ((HS5.out.by hb).drop)
                 (try clear x0 x1 xz)
                 obtain ⟨x0, x1⟩ := HS6.out.at1.c2
                 have xz := HS6.out.at1.lt
                 have hd0 := cell_below HS6.out.below hc0
                 have hdz := Nat.lt_of_lt_of_le hq0 HS6.out.size
                 clear hb)
              | (at_builtin
                 refine wpList_app1_st (d := intD) (w0 := w) rfl _ rfl _ _ _ rfl (.int .i64 0) 8 Try.underlying28 infoInt rfl (by omega) (by omega) (.slice A9 (pickNums (fpP p) (l.messages.take k)).length c9) (pickNums (fpP p) (l.messages.take k)) F9 rfl w6.heap.size #[.int .i64 m.number] (HS6.out.alloc rfl) 1 rfl m.number rfl (by omega) ?_
                 intro g8 cap8 w8 F8 hS8
                 have HS8 := hide hS8
                 clear hS8))
            go_roundg (l.messages.length - (k + 1))
            case measure => omega
            case rel =>
              refine ⟨k + 1, some ⟨g8, 0, none⟩, cap8, F8, by omega, by omega, by go_num, ?_, hide ?_⟩
              · rw [HPK.out, List.length_append]; rfl
              · rw [HPK.out, List.length_append]; exact HS8.out
          · have hhf : fpP p m = false := by simpa using hh
            have HH := hide hhf
            have HPK := hide (pickNums_no HX.out hhf)
            clear hh hhf
            go_wp2_with (first
              | (go_at_call 75
                 refine (l08Words_c m.text _ (by omega)).mono ?_
                 rintro e w5 ⟨v5, rfl, hm, hb⟩
                 obtain ⟨F5, hS⟩ := HS.out.made hm hb
                 obtain ⟨A5, c5, rfl⟩ := hm.shape
                 have HS5 := hide hS
                 clear hm hb hS)
              | (go_at_call 74
                 refine (l08Phrase_c (wordsOf m.text) p _ _ _ (St.toK HS5.out) (H2.out.below HS5.out.below) hq1 (by omega) (by omega)).mono ?_
                 rintro e w6 ⟨rfl, hb⟩
                 rw [show hasPh (wordsOf m.text) p = _ from HH.out]
                 have HS6 := hide ((HS5.out.by hb).drop)
                 (try clear x0 x1 xz)
                 obtain ⟨x0, x1⟩ := HS6.out.at1.c2
                 have xz := HS6.out.at1.lt
                 have hd0 := cell_below HS6.out.below hc0
                 have hdz := Nat.lt_of_lt_of_le hq0 HS6.out.size
                 clear hb))
            go_roundg (l.messages.length - (k + 1))
            case measure => omega
            case rel => exact ⟨k + 1, A9, c9, F9, by omega, by omega, by go_num, by rw [HPK.out], hide (by rw [HPK.out]; exact HS6.out)⟩
        · obtain rfl : k = l.messages.length := by omega
          go_wp2_with fail
          go_ret2
          rw [HL.out, HOK.out]
          have hS := HS.out
          rw [List.take_length] at hS ⊢
          exact ⟨_, rfl, ⟨F9, hS.head, hS.headN, hS.headG⟩, hS.below⟩
    · have HQ := hide (show queryB p = false by simpa using hq)
      have HOK := hide (show fpOk l p = false by unfold fpOk; rw [HQ.out, Bool.and_false])
      have HL := hide (show fpL l p = [] by unfold fpL; rw [HOK.out]; rfl)
      clear hv hq
      go_enter Try.func30, Try.ntmps30
      go_wp2_with (first
        | (go_at_call 73
           refine (l03Is_c l _ _ _ (Blk.rowAt (d := logD) (x := l) HS0.out.at0 (log_K_mk (H1.out.below HS0.out.below)) rfl) HT.out).mono ?_
           rintro e w1 ⟨rfl, hb⟩
           rw [HV.out]
           have HS1 := hide (HS0.out.by hb)
           (try clear x0 x1 xz)
           obtain ⟨x0, x1⟩ := HS1.out.at0.c2
           have xz := HS1.out.at0.lt
           clear hb)
        | (go_at_call 50
           refine (l08Query_c p _ _ (H2.out.below HS1.out.below) HOS.out).mono ?_
           rintro e w2 ⟨rfl, hb⟩
           rw [HQ.out]
           have HS2 := hide (HS1.out.by hb)
           (try clear x0 x1 xz)
           obtain ⟨x0, x1⟩ := HS2.out.at0.c2
           have xz := HS2.out.at0.lt
           clear hb))
      go_ret2
      rw [HL.out, HOK.out]
      exact ⟨_, rfl, Made.none _ _, HS2.out.below⟩
  · have HV := hide (show validLogB l = false by simpa using hv)
    have HOK := hide (show fpOk l p = false by unfold fpOk; rw [HV.out, Bool.false_and])
    have HL := hide (show fpL l p = [] by unfold fpL; rw [HOK.out]; rfl)
    clear hv
    go_enter Try.func30, Try.ntmps30
    go_wp2_with (first
      | (go_at_call 73
         refine (l03Is_c l _ _ _ (Blk.rowAt (d := logD) (x := l) HS0.out.at0 (log_K_mk (H1.out.below HS0.out.below)) rfl) HT.out).mono ?_
         rintro e w1 ⟨rfl, hb⟩
         rw [HV.out]
         have HS1 := hide (HS0.out.by hb)
         (try clear x0 x1 xz)
         obtain ⟨x0, x1⟩ := HS1.out.at0.c2
         have xz := HS1.out.at0.lt
         clear hb))
    go_ret2
    rw [HL.out, HOK.out]
    exact ⟨_, rfl, Made.none _ _, HS1.out.below⟩
end Go.Proofs.Yticjphaagmnahaa
