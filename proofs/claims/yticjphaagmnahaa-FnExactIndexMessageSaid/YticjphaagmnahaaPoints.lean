/- The points of a message for a query: the program and the reference. -/
import Derived.Test.YticjphaagmnahaaWordsSpec
import Derived.Test.YticjphaagmnahaaQuery
import Derived.Test.YticjphaagmnahaaRTypes
import Derived.Test.YticjphaagmnahaaRGround
namespace Go.Proofs.Yticjphaagmnahaa
open Go Go.RowKit Go.BigFrame
attribute [local go_sem] Calm.cell Calm.frozen
set_option linter.unusedVariables false
set_option linter.unusedSimpArgs false

def cntW (q ws : List ByteArray) : Nat := (ws.filter (hasS q)).length
theorem cntW_yes {q ws : List ByteArray} {k : Nat} {x : ByteArray} (hx : ws[k]? = some x) (h : hasS q x = true) : cntW q (ws.take (k + 1)) = cntW q (ws.take k) + 1 := by
  obtain ⟨hl, rfl⟩ := List.getElem?_eq_some_iff.1 hx
  unfold cntW; rw [List.take_succ_eq_append_getElem hl, List.filter_append]; simp [h]
theorem cntW_no {q ws : List ByteArray} {k : Nat} {x : ByteArray} (hx : ws[k]? = some x) (h : hasS q x = false) : cntW q (ws.take (k + 1)) = cntW q (ws.take k) := by
  obtain ⟨hl, rfl⟩ := List.getElem?_eq_some_iff.1 hx
  unfold cntW; rw [List.take_succ_eq_append_getElem hl, List.filter_append]; simp [h]
theorem cntW_le (q ws : List ByteArray) : cntW q ws ≤ ws.length := List.length_filter_le _ _
/-- The points of a message. -/
def rawPts (m : Message) (h : Nat) (a : Int) : Int := 10 * (h : Int) + 5 * (m.likes.length : Int) - (a - m.at_) / 100
def ptsB (m : Message) (q : List ByteArray) (a : Int) : Int := if cntW q (wordsOf m.text) = 0 then 0 else max (rawPts m (cntW q (wordsOf m.text)) a) 0
theorem oneIf_c (b : Bool) (w : World) : Calls Try.prog 126 #[.bool b] w fun e w' => e = .returned (.int .i64 (if b then 1 else 0)) ∧ w = w' := by
  cases b
  · go_enter Try.func126, Try.ntmps126
    go_wp2
    go_ret
    exact ⟨rfl, rfl⟩
  · go_enter Try.func126, Try.ntmps126
    go_wp2
    go_ret
    exact ⟨rfl, rfl⟩
set_option maxHeartbeats 8000000 in
set_option maxRecDepth 100000 in
theorem pointsFor_c (m : Message) (v7 : Value) (q : List ByteArray) (vq : Value) (a : Int) (w : World) (h7 : SliceK intD w v7 m.likes) (hq : SliceK strD w vq q) (ht : m.text.size ≤ 80) (hl : m.likes.length ≤ 20) (ha0 : 0 ≤ m.at_) (ha1 : m.at_ ≤ a) (ha2 : a ≤ 1000000) :
    Calls Try.prog 71 #[.agg #[.int .i64 m.number, .int .i64 m.sender, .int .i64 m.at_, .string m.text, .int .i64 m.edits, .bool m.gone, .int .i64 m.reply, v7], vq, .int .i64 a] w fun e w' => e = .returned (.int .i64 (ptsB m q a)) ∧ Below w.heap.size w w' := by
  obtain ⟨A7, c7, rfl⟩ := h7.shape
  obtain ⟨Aq, cq, rfl⟩ := hq.shape
  have HQ := hide hq
  have HS0 := hide (show St w (w.alloc (.cells #[.int .i64 m.number, .int .i64 m.sender, .int .i64 m.at_, .string m.text, .int .i64 m.edits, .bool m.gone, .int .i64 m.reply, .slice A7 m.likes.length c7] 47)) [blk w.heap.size #[.int .i64 m.number, .int .i64 m.sender, .int .i64 m.at_, .string m.text, .int .i64 m.edits, .bool m.gone, .int .i64 m.reply, .slice A7 m.likes.length c7] 47] by (repeat (first | (with_reducible exact St.start w) | (with_reducible apply St.alloc) | (with_reducible apply St.set0) | (with_reducible apply St.set1) | (with_reducible apply St.set2) | (with_reducible apply St.set3) | (with_reducible apply St.drew) | (with_reducible apply St.drewN))); all_goals (try (first | rfl | (simp; done))))
  clear h7 hq
  go_enter Try.func71, Try.ntmps71
  go_wp2_with (
    go_at_call 81
    refine (words_c m.text _ (by omega)).mono ?_
    rintro e w1 ⟨v1, rfl, hm, hb⟩
    obtain ⟨F1, hS⟩ := HS0.out.made hm hb
    obtain ⟨A1, c1, rfl⟩ := hm.shape
    have HS1 := hide hS
    clear hm hb hS)
  have hwl := wordsOf_len m.text
  obtain ⟨ws, hws⟩ : ∃ ws, ws = wordsOf m.text := ⟨_, rfl⟩
  rw [← hws] at HS1 hwl ⊢
  have HWS := hide hws
  clear hws
  go_loopg [7, 14] ws.length (fun gg s7 s14 wr => ∃ k : Nat, k ≤ ws.length ∧ ws.length - k ≤ gg ∧ s14 = .int .i64 k ∧ s7 = .int .i64 (cntW q (ws.take k) : Int) ∧ Hid (St w wr (own strD 9 (.slice A1 ws.length c1) ws F1 :: [blk w.heap.size #[.int .i64 m.number, .int .i64 m.sender, .int .i64 m.at_, .string m.text, .int .i64 m.edits, .bool m.gone, .int .i64 m.reply, .slice A7 m.likes.length c7] 47])))
  case atStart => exact ⟨0, Nat.zero_le _, by omega, rfl, rfl, HS1⟩
  case round =>
    obtain ⟨k, hk, hg, rfl, rfl, HS⟩ := hrel
    have hct := cntW_le q (ws.take k)
    have htl : (ws.take k).length ≤ ws.length := by rw [List.length_take]; omega
    by_cases hlt : k < ws.length
    · obtain ⟨x, hx⟩ : ∃ x, ws[k]? = some x := ⟨_, List.getElem?_eq_getElem hlt⟩
      obtain ⟨⟨q1, rfl⟩, -, -⟩ := St.hasBlk (d := strD) rfl HS.out hx
      obtain ⟨hcw, hfw, hzw⟩ := St.flatCell (d := strD) rfl HS.out hx
      have d0 : wr.cell? ⟨q1, k, none⟩ = some (.string x) := by have h := hcw 0 _ rfl; simpa using h
      have hlt2 : (k : Int) < (ws.length : Int) := by omega
      have HX := hide hx
      clear hcw hfw hx
      by_cases hh : hasS q x = true
      · have HST := hide (cntW_yes HX.out hh)
        have HH := hide hh
        clear hh
        go_wp2_with (first
          | (go_at_call 127; refine (containsStr_c q x _ _ (HQ.out.below HS.out.below)).mono ?_; rintro e w' ⟨rfl, rfl⟩; rw [HH.out])
          | (go_at_call 126; refine (oneIf_c _ _).mono ?_; rintro e w' ⟨rfl, rfl⟩))
        go_roundg (ws.length - (k + 1))
        case measure => omega
        case rel => exact ⟨k + 1, by omega, by omega, by go_num, by rw [HST.out]; go_num, HS⟩
      · have hhf : hasS q x = false := by simpa using hh
        have HST := hide (cntW_no HX.out hhf)
        have HH := hide hhf
        clear hh hhf
        go_wp2_with (first
          | (go_at_call 127; refine (containsStr_c q x _ _ (HQ.out.below HS.out.below)).mono ?_; rintro e w' ⟨rfl, rfl⟩; rw [HH.out])
          | (go_at_call 126; refine (oneIf_c _ _).mono ?_; rintro e w' ⟨rfl, rfl⟩))
        go_roundg (ws.length - (k + 1))
        case measure => omega
        case rel => exact ⟨k + 1, by omega, by omega, by go_num, by rw [HST.out], HS⟩
    · have hke : k = ws.length := by omega
      subst hke
      rw [List.take_length] at hct ⊢
      obtain ⟨nh, hh⟩ : ∃ nh, nh = cntW q ws := ⟨_, rfl⟩
      rw [← hh] at hct ⊢
      have HP := hide (show ptsB m q a = if nh = 0 then 0 else max (rawPts m nh a) 0 by rw [hh, HWS.out]; rfl)
      clear hh
      obtain ⟨y0, y1, y2, y3⟩ : wr.cell? ⟨w.heap.size, 2, none⟩ = some (.int .i64 m.at_) ∧ wr.cell? ⟨w.heap.size, 7, none⟩ = some (.slice A7 m.likes.length c7) ∧ w.heap.size < wr.heap.size ∧ True := ⟨HS.out.at1.cell 2, HS.out.at1.cell 7, HS.out.at1.lt, trivial⟩
      by_cases h0 : nh = 0
      · subst h0
        go_wp2_with fail
        go_ret
        exact ⟨by rw [HP.out]; rfl, HS.out.below⟩
      · have hp : ((nh : Int) == 0) = false := by simpa using h0
        have hdiv : 0 ≤ (a - m.at_) / 100 ∧ (a - m.at_) / 100 ≤ 1000000 := by omega
        go_wp2_with fail
        all_goals
          go_ret
          refine ⟨?_, HS.out.below⟩
          rw [HP.out, if_neg h0]
          unfold rawPts
          first
            | (rw [show max (10 * (nh : Int) + 5 * (m.likes.length : Int) - (a - m.at_) / 100) 0 = 0 by omega]; rfl)
            | (rw [show max (10 * (nh : Int) + 5 * (m.likes.length : Int) - (a - m.at_) / 100) 0 = 10 * (nh : Int) + 5 * (m.likes.length : Int) - (a - m.at_) / 100 by omega]; rfl)
set_option maxHeartbeats 8000000 in
set_option maxRecDepth 100000 in
theorem l08Points_c (m : Message) (b o : Nat) (q : List ByteArray) (vq : Value) (a : Int) (w : World) (hp : RowAt messageD w b o [m]) (hq : SliceK strD w vq q) (ht : m.text.size ≤ 80) (hl : m.likes.length ≤ 20) (ha0 : 0 ≤ m.at_) (ha1 : m.at_ ≤ a) (ha2 : a ≤ 1000000) :
    Calls Try.prog 67 #[.pointer (some ⟨b, o, none⟩), vq, .int .i64 a] w fun e w' => e = .returned (.int .i64 (ptsB m q a)) ∧ Below w.heap.size w w' := by
  obtain ⟨v7, h7, hbz, hc0, hc1, hc2, hc3, hc4, hc5, hc6, hc7⟩ := message_at hp (Below.refl _ _) (j := 0) rfl
  simp only [Nat.zero_mul, Nat.add_zero] at hc0 hc1 hc2 hc3 hc4 hc5 hc6 hc7
  obtain ⟨A7, c7, rfl⟩ := h7.shape
  obtain ⟨Aq, cq, rfl⟩ := hq.shape
  have HQ := hide hq
  clear h7 hq hp hc0 hc1 hc4 hc5 hc6
  go_enter Try.func67, Try.ntmps67
  go_wp2_with (
    go_at_call 75
    refine (l08Words_c m.text _ (by omega)).mono ?_
    rintro e w1 ⟨v1, rfl, hm, hb⟩
    obtain ⟨F1, hS⟩ := (St.start w).made hm hb
    obtain ⟨A1, c1, rfl⟩ := hm.shape
    have HS1 := hide hS
    clear hm hb hS)
  have hwl := wordsOf_len m.text
  obtain ⟨ws, hws⟩ : ∃ ws, ws = wordsOf m.text := ⟨_, rfl⟩
  rw [← hws] at HS1 hwl ⊢
  have HWS := hide hws
  clear hws
  go_loopg [8, 9] ws.length (fun gg s8 s9 wr => ∃ k : Nat, k ≤ ws.length ∧ ws.length - k ≤ gg ∧ s9 = .int .i64 k ∧ s8 = .int .i64 (cntW q (ws.take k) : Int) ∧ Hid (St w wr [own strD 9 (.slice A1 ws.length c1) ws F1]))
  case atStart => exact ⟨0, Nat.zero_le _, by omega, rfl, rfl, HS1⟩
  case round =>
    obtain ⟨k, hk, hg, rfl, rfl, HS⟩ := hrel
    have hct := cntW_le q (ws.take k)
    have htl : (ws.take k).length ≤ ws.length := by rw [List.length_take]; omega
    by_cases hlt : k < ws.length
    · obtain ⟨x, hx⟩ : ∃ x, ws[k]? = some x := ⟨_, List.getElem?_eq_getElem hlt⟩
      obtain ⟨⟨q1, rfl⟩, -, -⟩ := St.hasBlk (d := strD) rfl HS.out hx
      obtain ⟨hcw, hfw, hzw⟩ := St.flatCell (d := strD) rfl HS.out hx
      have d0 : wr.cell? ⟨q1, k, none⟩ = some (.string x) := by have h := hcw 0 _ rfl; simpa using h
      have hlt2 : (k : Int) < (ws.length : Int) := by omega
      have HX := hide hx
      clear hcw hfw hx
      by_cases hh : hasS q x = true
      · have HST := hide (cntW_yes HX.out hh)
        have HH := hide hh
        clear hh
        go_wp2_with (go_at_call 122; refine (l06Has_c q x _ _ (HQ.out.below HS.out.below)).mono ?_; rintro e w' ⟨rfl, rfl⟩; rw [HH.out])
        go_roundg (ws.length - (k + 1))
        case measure => omega
        case rel => exact ⟨k + 1, by omega, by omega, by go_num, by rw [HST.out]; go_num, HS⟩
      · have hhf : hasS q x = false := by simpa using hh
        have HST := hide (cntW_no HX.out hhf)
        have HH := hide hhf
        clear hh hhf
        go_wp2_with (go_at_call 122; refine (l06Has_c q x _ _ (HQ.out.below HS.out.below)).mono ?_; rintro e w' ⟨rfl, rfl⟩; rw [HH.out])
        go_roundg (ws.length - (k + 1))
        case measure => omega
        case rel => exact ⟨k + 1, by omega, by omega, by go_num, by rw [HST.out], HS⟩
    · have hke : k = ws.length := by omega
      subst hke
      rw [List.take_length] at hct ⊢
      obtain ⟨nh, hh⟩ : ∃ nh, nh = cntW q ws := ⟨_, rfl⟩
      rw [← hh] at hct ⊢
      have HP := hide (show ptsB m q a = if nh = 0 then 0 else max (rawPts m nh a) 0 by rw [hh, HWS.out]; rfl)
      clear hh
      have y2 := cell_below HS.out.below hc2
      have y7 := cell_below HS.out.below hc7
      have yz := Nat.lt_of_lt_of_le hbz HS.out.size
      have hdiv : 0 ≤ (a - m.at_) / 100 ∧ (a - m.at_) / 100 ≤ 1000000 := by omega
      go_wp2_with fail
      (refine wp_region_calm (by kernel_rfl) (by kernel_rfl) ?_; (repeat (first | go_big_quiet_skip | (go_big_quiet_want; go_big_quiet_op; (first | go_big_quiet_on | (apply Exists.intro; refine ⟨fun ic => ?_, ?_⟩; (focus (fail; done)); go_big_quiet_on))))); refine wpQuiet_nil ?_; intro wq hwq; obtain ⟨iq, hwe⟩ := hwq; subst hwe)
      have HB := hide (below_step HS.out.below iq.below)
      by_cases h0 : nh = 0
      · subst h0
        go_wp2_with fail
        go_ret
        exact ⟨by rw [HP.out]; rfl, HB.out⟩
      · have hp : ((nh : Int) == 0) = false := by simpa using h0
        by_cases hs1 : 10 * (nh : Int) + 5 * (m.likes.length : Int) - (a - m.at_) / 100 < 1
        · go_wp2_with fail
          go_ret
          refine ⟨?_, HB.out⟩
          rw [HP.out, if_neg h0]
          unfold rawPts
          rw [show max (10 * (nh : Int) + 5 * (m.likes.length : Int) - (a - m.at_) / 100) 0 = 0 by omega]; rfl
        · go_wp2_with fail
          go_ret
          refine ⟨?_, HB.out⟩
          rw [HP.out, if_neg h0]
          unfold rawPts
          rw [show max (10 * (nh : Int) + 5 * (m.likes.length : Int) - (a - m.at_) / 100) 0 = 10 * (nh : Int) + 5 * (m.likes.length : Int) - (a - m.at_) / 100 by omega]; rfl
end Go.Proofs.Yticjphaagmnahaa
