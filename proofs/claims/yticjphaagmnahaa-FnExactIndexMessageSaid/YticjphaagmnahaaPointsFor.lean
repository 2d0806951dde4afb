/- PointsFor: the program and the reference. -/
import Derived.Test.YticjphaagmnahaaPoints
import Derived.Test.YticjphaagmnahaaVMsg
import Derived.Test.YticjphaagmnahaaSMsg
namespace Go.Proofs.Yticjphaagmnahaa
open Go Go.RowKit Go.BigFrame
set_option linter.unusedVariables false
set_option linter.unusedSimpArgs false

def pfOk (m : Message) (q : List ByteArray) (a : Int) : Bool := validMessageB m && queryB q && inB a m.at_ 1000000
def pfV (m : Message) (q : List ByteArray) (a : Int) : Int := if pfOk m q a then ptsB m q a else 0
theorem valid_small {m : Message} (h : validMessageB m = true) : m.text.size ≤ 80 ∧ m.likes.length ≤ 20 ∧ 0 ≤ m.at_ := by
  simp only [validMessageB, textB, Bool.and_eq_true, decide_eq_true_eq, inB, Bool.not_eq_true', decide_eq_false_iff_not] at h
  omega
theorem msgRow {m : Message} {W : World} {b : Nat} {A7 : Option Addr} {c7 : Nat} (h : Blk W b #[.int .i64 m.number, .int .i64 m.sender, .int .i64 m.at_, .string m.text, .int .i64 m.edits, .bool m.gone, .int .i64 m.reply, .slice A7 m.likes.length c7]) (h7 : SliceK intD W (.slice A7 m.likes.length c7) m.likes) : RowAt messageD W b 0 [m] :=
  Blk.rowAt (d := messageD) (x := m) h (message_K_mk h7) rfl
set_option maxHeartbeats 8000000 in
set_option maxRecDepth 100000 in
theorem pointsForX_c (m : Message) (q : List ByteArray) (a : Int) (v7 vq : Value) (w : World) (h7 : SliceK intD w v7 m.likes) (hq : SliceK strD w vq q) (ht : m.text.size ≤ 9223372036854775807) (hs : okStrs q) :
    Calls Try.prog 27 #[.agg #[.int .i64 m.number, .int .i64 m.sender, .int .i64 m.at_, .string m.text, .int .i64 m.edits, .bool m.gone, .int .i64 m.reply, v7], vq, .int .i64 a] w fun e w' => e = .returned (.tuple #[.int .i64 (pfV m q a), .bool (pfOk m q a)]) ∧ Below w.heap.size w w' := by
  obtain ⟨A7, c7, rfl⟩ := h7.shape
  obtain ⟨Aq, cq, rfl⟩ := hq.shape
  have H7 := hide h7
  have HQ := hide hq
  have HOS := hide hs
  have HT := hide ht
  have HS0 := hide (show St w (w.alloc (.cells #[.int .i64 m.number, .int .i64 m.sender, .int .i64 m.at_, .string m.text, .int .i64 m.edits, .bool m.gone, .int .i64 m.reply, .slice A7 m.likes.length c7] 47)) [blk w.heap.size #[.int .i64 m.number, .int .i64 m.sender, .int .i64 m.at_, .string m.text, .int .i64 m.edits, .bool m.gone, .int .i64 m.reply, .slice A7 m.likes.length c7] 47] by (repeat (first | (with_reducible exact St.start w) | (with_reducible apply St.alloc) | (with_reducible apply St.set0) | (with_reducible apply St.set1) | (with_reducible apply St.set2) | (with_reducible apply St.set3) | (with_reducible apply St.drew) | (with_reducible apply St.drewN))); all_goals (try (first | rfl | (simp; done))))
  obtain ⟨y0, y1, y2, y3, y4, y5, y6, y7⟩ : (w.alloc (.cells #[.int .i64 m.number, .int .i64 m.sender, .int .i64 m.at_, .string m.text, .int .i64 m.edits, .bool m.gone, .int .i64 m.reply, .slice A7 m.likes.length c7] 47)).cell? ⟨w.heap.size, 0, none⟩ = some (.int .i64 m.number) ∧ (w.alloc (.cells #[.int .i64 m.number, .int .i64 m.sender, .int .i64 m.at_, .string m.text, .int .i64 m.edits, .bool m.gone, .int .i64 m.reply, .slice A7 m.likes.length c7] 47)).cell? ⟨w.heap.size, 1, none⟩ = some (.int .i64 m.sender) ∧ (w.alloc (.cells #[.int .i64 m.number, .int .i64 m.sender, .int .i64 m.at_, .string m.text, .int .i64 m.edits, .bool m.gone, .int .i64 m.reply, .slice A7 m.likes.length c7] 47)).cell? ⟨w.heap.size, 2, none⟩ = some (.int .i64 m.at_) ∧ (w.alloc (.cells #[.int .i64 m.number, .int .i64 m.sender, .int .i64 m.at_, .string m.text, .int .i64 m.edits, .bool m.gone, .int .i64 m.reply, .slice A7 m.likes.length c7] 47)).cell? ⟨w.heap.size, 3, none⟩ = some (.string m.text) ∧ (w.alloc (.cells #[.int .i64 m.number, .int .i64 m.sender, .int .i64 m.at_, .string m.text, .int .i64 m.edits, .bool m.gone, .int .i64 m.reply, .slice A7 m.likes.length c7] 47)).cell? ⟨w.heap.size, 4, none⟩ = some (.int .i64 m.edits) ∧ (w.alloc (.cells #[.int .i64 m.number, .int .i64 m.sender, .int .i64 m.at_, .string m.text, .int .i64 m.edits, .bool m.gone, .int .i64 m.reply, .slice A7 m.likes.length c7] 47)).cell? ⟨w.heap.size, 5, none⟩ = some (.bool m.gone) ∧ (w.alloc (.cells #[.int .i64 m.number, .int .i64 m.sender, .int .i64 m.at_, .string m.text, .int .i64 m.edits, .bool m.gone, .int .i64 m.reply, .slice A7 m.likes.length c7] 47)).cell? ⟨w.heap.size, 6, none⟩ = some (.int .i64 m.reply) ∧ (w.alloc (.cells #[.int .i64 m.number, .int .i64 m.sender, .int .i64 m.at_, .string m.text, .int .i64 m.edits, .bool m.gone, .int .i64 m.reply, .slice A7 m.likes.length c7] 47)).cell? ⟨w.heap.size, 7, none⟩ = some (.slice A7 m.likes.length c7) := ⟨HS0.out.at0.cell 0, HS0.out.at0.cell 1, HS0.out.at0.cell 2, HS0.out.at0.cell 3, HS0.out.at0.cell 4, HS0.out.at0.cell 5, HS0.out.at0.cell 6, HS0.out.at0.cell 7⟩
  have yz := HS0.out.at0.lt
  clear h7 hq hs ht
  by_cases hv : validMessageB m = true
  · have HV := hide hv
    obtain ⟨hv1, hv2, hv3⟩ := valid_small hv
    by_cases hqb : queryB q = true
    · have HQB := hide hqb
      by_cases hi : inB a m.at_ 1000000 = true
      · have HI := hide hi
        obtain ⟨hi1, hi2⟩ := inB_iff.1 hi
        have hok := show pfOk m q a = true by unfold pfOk; rw [hv, hqb, hi]; rfl
        have HOK := hide hok
        have HP := hide (show pfV m q a = ptsB m q a by unfold pfV; rw [if_pos hok])
        clear hv hqb hi hok
        go_enter Try.func27, Try.ntmps27
        go_wp2_with (first
          | (go_at_call 69
             refine (validMessage_c m _ _ (H7.out.below HS0.out.below) HT.out).mono ?_
             rintro e w1 ⟨rfl, hb⟩
             rw [HV.out]
             have HS1 := hide (HS0.out.by hb)
             clear y0 y1 y2 y3 y4 y5 y6 y7 yz hb
             obtain ⟨y0, y1, y2, y3, y4, y5, y6, y7⟩ : w1.cell? ⟨w.heap.size, 0, none⟩ = some (.int .i64 m.number) ∧ w1.cell? ⟨w.heap.size, 1, none⟩ = some (.int .i64 m.sender) ∧ w1.cell? ⟨w.heap.size, 2, none⟩ = some (.int .i64 m.at_) ∧ w1.cell? ⟨w.heap.size, 3, none⟩ = some (.string m.text) ∧ w1.cell? ⟨w.heap.size, 4, none⟩ = some (.int .i64 m.edits) ∧ w1.cell? ⟨w.heap.size, 5, none⟩ = some (.bool m.gone) ∧ w1.cell? ⟨w.heap.size, 6, none⟩ = some (.int .i64 m.reply) ∧ w1.cell? ⟨w.heap.size, 7, none⟩ = some (.slice A7 m.likes.length c7) := ⟨HS1.out.at0.cell 0, HS1.out.at0.cell 1, HS1.out.at0.cell 2, HS1.out.at0.cell 3, HS1.out.at0.cell 4, HS1.out.at0.cell 5, HS1.out.at0.cell 6, HS1.out.at0.cell 7⟩
             have yz := HS1.out.at0.lt)
          | (go_at_call 55
             refine (queryOk_c q _ _ (HQ.out.below HS1.out.below) HOS.out).mono ?_
             rintro e w2 ⟨rfl, hb⟩
             rw [HQB.out]
             have HS2 := hide (HS1.out.by hb)
             clear y0 y1 y2 y3 y4 y5 y6 y7 yz hb
             obtain ⟨y0, y1, y2, y3, y4, y5, y6, y7⟩ : w2.cell? ⟨w.heap.size, 0, none⟩ = some (.int .i64 m.number) ∧ w2.cell? ⟨w.heap.size, 1, none⟩ = some (.int .i64 m.sender) ∧ w2.cell? ⟨w.heap.size, 2, none⟩ = some (.int .i64 m.at_) ∧ w2.cell? ⟨w.heap.size, 3, none⟩ = some (.string m.text) ∧ w2.cell? ⟨w.heap.size, 4, none⟩ = some (.int .i64 m.edits) ∧ w2.cell? ⟨w.heap.size, 5, none⟩ = some (.bool m.gone) ∧ w2.cell? ⟨w.heap.size, 6, none⟩ = some (.int .i64 m.reply) ∧ w2.cell? ⟨w.heap.size, 7, none⟩ = some (.slice A7 m.likes.length c7) := ⟨HS2.out.at0.cell 0, HS2.out.at0.cell 1, HS2.out.at0.cell 2, HS2.out.at0.cell 3, HS2.out.at0.cell 4, HS2.out.at0.cell 5, HS2.out.at0.cell 6, HS2.out.at0.cell 7⟩
             have yz := HS2.out.at0.lt)
          | (go_at_call 70; refine (in_c _ _ _ _).mono ?_; rintro e w' ⟨rfl, rfl⟩; rw [HI.out])
          | (go_at_call 71
             refine (pointsFor_c m _ q _ a _ (H7.out.below HS2.out.below) (HQ.out.below HS2.out.below) hv1 hv2 hv3 hi1 hi2).mono ?_
             rintro e w3 ⟨rfl, hb⟩
             have HS3 := hide (HS2.out.by hb)
             clear hb))
        go_ret2
        rw [HP.out, HOK.out]
        exact ⟨rfl, HS3.out.below⟩
      · have HI := hide (show inB a m.at_ 1000000 = false by simpa using hi)
        have HOK := hide (show pfOk m q a = false by unfold pfOk; rw [HI.out, Bool.and_false])
        have HP := hide (show pfV m q a = 0 by unfold pfV; rw [HOK.out]; rfl)
        clear hv hqb hi
        go_enter Try.func27, Try.ntmps27
        go_wp2_with (first
          | (go_at_call 69
             refine (validMessage_c m _ _ (H7.out.below HS0.out.below) HT.out).mono ?_
             rintro e w1 ⟨rfl, hb⟩
             rw [HV.out]
             have HS1 := hide (HS0.out.by hb)
             clear y0 y1 y2 y3 y4 y5 y6 y7 yz hb
             obtain ⟨y0, y1, y2, y3, y4, y5, y6, y7⟩ : w1.cell? ⟨w.heap.size, 0, none⟩ = some (.int .i64 m.number) ∧ w1.cell? ⟨w.heap.size, 1, none⟩ = some (.int .i64 m.sender) ∧ w1.cell? ⟨w.heap.size, 2, none⟩ = some (.int .i64 m.at_) ∧ w1.cell? ⟨w.heap.size, 3, none⟩ = some (.string m.text) ∧ w1.cell? ⟨w.heap.size, 4, none⟩ = some (.int .i64 m.edits) ∧ w1.cell? ⟨w.heap.size, 5, none⟩ = some (.bool m.gone) ∧ w1.cell? ⟨w.heap.size, 6, none⟩ = some (.int .i64 m.reply) ∧ w1.cell? ⟨w.heap.size, 7, none⟩ = some (.slice A7 m.likes.length c7) := ⟨HS1.out.at0.cell 0, HS1.out.at0.cell 1, HS1.out.at0.cell 2, HS1.out.at0.cell 3, HS1.out.at0.cell 4, HS1.out.at0.cell 5, HS1.out.at0.cell 6, HS1.out.at0.cell 7⟩
             have yz := HS1.out.at0.lt)
          | (go_at_call 55
             refine (queryOk_c q _ _ (HQ.out.below HS1.out.below) HOS.out).mono ?_
             rintro e w2 ⟨rfl, hb⟩
             rw [HQB.out]
             have HS2 := hide (HS1.out.by hb)
             clear y0 y1 y2 y3 y4 y5 y6 y7 yz hb
             obtain ⟨y0, y1, y2, y3, y4, y5, y6, y7⟩ : w2.cell? ⟨w.heap.size, 0, none⟩ = some (.int .i64 m.number) ∧ w2.cell? ⟨w.heap.size, 1, none⟩ = some (.int .i64 m.sender) ∧ w2.cell? ⟨w.heap.size, 2, none⟩ = some (.int .i64 m.at_) ∧ w2.cell? ⟨w.heap.size, 3, none⟩ = some (.string m.text) ∧ w2.cell? ⟨w.heap.size, 4, none⟩ = some (.int .i64 m.edits) ∧ w2.cell? ⟨w.heap.size, 5, none⟩ = some (.bool m.gone) ∧ w2.cell? ⟨w.heap.size, 6, none⟩ = some (.int .i64 m.reply) ∧ w2.cell? ⟨w.heap.size, 7, none⟩ = some (.slice A7 m.likes.length c7) := ⟨HS2.out.at0.cell 0, HS2.out.at0.cell 1, HS2.out.at0.cell 2, HS2.out.at0.cell 3, HS2.out.at0.cell 4, HS2.out.at0.cell 5, HS2.out.at0.cell 6, HS2.out.at0.cell 7⟩
             have yz := HS2.out.at0.lt)
          | (go_at_call 70; refine (in_c _ _ _ _).mono ?_; rintro e w' ⟨rfl, rfl⟩; rw [HI.out]))
        go_ret2
        rw [HP.out, HOK.out]
        exact ⟨rfl, HS2.out.below⟩
    · have HQB := hide (show queryB q = false by simpa using hqb)
      have HOK := hide (show pfOk m q a = false by unfold pfOk; rw [HQB.out, Bool.and_false, Bool.false_and])
      have HP := hide (show pfV m q a = 0 by unfold pfV; rw [HOK.out]; rfl)
      clear hv hqb
      go_enter Try.func27, Try.ntmps27
      go_wp2_with (first
        | (go_at_call 69
           refine (validMessage_c m _ _ (H7.out.below HS0.out.below) HT.out).mono ?_
           rintro e w1 ⟨rfl, hb⟩
           rw [HV.out]
           have HS1 := hide (HS0.out.by hb)
           clear y0 y1 y2 y3 y4 y5 y6 y7 yz hb
           obtain ⟨y0, y1, y2, y3, y4, y5, y6, y7⟩ : w1.cell? ⟨w.heap.size, 0, none⟩ = some (.int .i64 m.number) ∧ w1.cell? ⟨w.heap.size, 1, none⟩ = some (.int .i64 m.sender) ∧ w1.cell? ⟨w.heap.size, 2, none⟩ = some (.int .i64 m.at_) ∧ w1.cell? ⟨w.heap.size, 3, none⟩ = some (.string m.text) ∧ w1.cell? ⟨w.heap.size, 4, none⟩ = some (.int .i64 m.edits) ∧ w1.cell? ⟨w.heap.size, 5, none⟩ = some (.bool m.gone) ∧ w1.cell? ⟨w.heap.size, 6, none⟩ = some (.int .i64 m.reply) ∧ w1.cell? ⟨w.heap.size, 7, none⟩ = some (.slice A7 m.likes.length c7) := ⟨HS1.out.at0.cell 0, HS1.out.at0.cell 1, HS1.out.at0.cell 2, HS1.out.at0.cell 3, HS1.out.at0.cell 4, HS1.out.at0.cell 5, HS1.out.at0.cell 6, HS1.out.at0.cell 7⟩
           have yz := HS1.out.at0.lt)
        | (go_at_call 55
           refine (queryOk_c q _ _ (HQ.out.below HS1.out.below) HOS.out).mono ?_
           rintro e w2 ⟨rfl, hb⟩
           rw [HQB.out]
           have HS2 := hide (HS1.out.by hb)
           clear y0 y1 y2 y3 y4 y5 y6 y7 yz hb
           obtain ⟨y0, y1, y2, y3, y4, y5, y6, y7⟩ : w2.cell? ⟨w.heap.size, 0, none⟩ = some (.int .i64 m.number) ∧ w2.cell? ⟨w.heap.size, 1, none⟩ = some (.int .i64 m.sender) ∧ w2.cell? ⟨w.heap.size, 2, none⟩ = some (.int .i64 m.at_) ∧ w2.cell? ⟨w.heap.size, 3, none⟩ = some (.string m.text) ∧ w2.cell? ⟨w.heap.size, 4, none⟩ = some (.int .i64 m.edits) ∧ w2.cell? ⟨w.heap.size, 5, none⟩ = some (.bool m.gone) ∧ w2.cell? ⟨w.heap.size, 6, none⟩ = some (.int .i64 m.reply) ∧ w2.cell? ⟨w.heap.size, 7, none⟩ = some (.slice A7 m.likes.length c7) := ⟨HS2.out.at0.cell 0, HS2.out.at0.cell 1, HS2.out.at0.cell 2, HS2.out.at0.cell 3, HS2.out.at0.cell 4, HS2.out.at0.cell 5, HS2.out.at0.cell 6, HS2.out.at0.cell 7⟩
           have yz := HS2.out.at0.lt))
      go_ret2
      rw [HP.out, HOK.out]
      exact ⟨rfl, HS2.out.below⟩
  · have HV := hide (show validMessageB m = false by simpa using hv)
    have HOK := hide (show pfOk m q a = false by unfold pfOk; rw [HV.out]; rfl)
    have HP := hide (show pfV m q a = 0 by unfold pfV; rw [HOK.out]; rfl)
    clear hv
    go_enter Try.func27, Try.ntmps27
    go_wp2_with (first
      | (go_at_call 69
         refine (validMessage_c m _ _ (H7.out.below HS0.out.below) HT.out).mono ?_
         rintro e w1 ⟨rfl, hb⟩
         rw [HV.out]
         have HS1 := hide (HS0.out.by hb)
         clear y0 y1 y2 y3 y4 y5 y6 y7 yz hb
         obtain ⟨y0, y1, y2, y3, y4, y5, y6, y7⟩ : w1.cell? ⟨w.heap.size, 0, none⟩ = some (.int .i64 m.number) ∧ w1.cell? ⟨w.heap.size, 1, none⟩ = some (.int .i64 m.sender) ∧ w1.cell? ⟨w.heap.size, 2, none⟩ = some (.int .i64 m.at_) ∧ w1.cell? ⟨w.heap.size, 3, none⟩ = some (.string m.text) ∧ w1.cell? ⟨w.heap.size, 4, none⟩ = some (.int .i64 m.edits) ∧ w1.cell? ⟨w.heap.size, 5, none⟩ = some (.bool m.gone) ∧ w1.cell? ⟨w.heap.size, 6, none⟩ = some (.int .i64 m.reply) ∧ w1.cell? ⟨w.heap.size, 7, none⟩ = some (.slice A7 m.likes.length c7) := ⟨HS1.out.at0.cell 0, HS1.out.at0.cell 1, HS1.out.at0.cell 2, HS1.out.at0.cell 3, HS1.out.at0.cell 4, HS1.out.at0.cell 5, HS1.out.at0.cell 6, HS1.out.at0.cell 7⟩
         have yz := HS1.out.at0.lt))
    go_ret2
    rw [HP.out, HOK.out]
    exact ⟨rfl, HS1.out.below⟩
set_option maxHeartbeats 8000000 in
set_option maxRecDepth 100000 in
theorem specValidMessage_c (m : Message) (v7 : Value) (w : World) (h7 : SliceK intD w v7 m.likes) (ht : m.text.size ≤ 9223372036854775807) :
    Calls Try.prog 65 #[.agg #[.int .i64 m.number, .int .i64 m.sender, .int .i64 m.at_, .string m.text, .int .i64 m.edits, .bool m.gone, .int .i64 m.reply, v7]] w fun e w' => e = .returned (.bool (validMessageB m)) ∧ Below w.heap.size w w' := by
  obtain ⟨A7, c7, rfl⟩ := h7.shape
  have H7 := hide h7
  have HS0 := hide (show St w (w.alloc (.cells #[.int .i64 m.number, .int .i64 m.sender, .int .i64 m.at_, .string m.text, .int .i64 m.edits, .bool m.gone, .int .i64 m.reply, .slice A7 m.likes.length c7] 47)) [blk w.heap.size #[.int .i64 m.number, .int .i64 m.sender, .int .i64 m.at_, .string m.text, .int .i64 m.edits, .bool m.gone, .int .i64 m.reply, .slice A7 m.likes.length c7] 47] by (repeat (first | (with_reducible exact St.start w) | (with_reducible apply St.alloc) | (with_reducible apply St.set0) | (with_reducible apply St.set1) | (with_reducible apply St.set2) | (with_reducible apply St.set3) | (with_reducible apply St.drew) | (with_reducible apply St.drewN))); all_goals (try (first | rfl | (simp; done))))
  clear h7
  go_enter Try.func65, Try.ntmps65
  go_wp2_with (
    go_at_call 121
    refine (l03Message_c m _ _ _ (msgRow HS0.out.at0 (H7.out.below HS0.out.below)) ht).mono ?_
    rintro e w1 ⟨rfl, hb⟩
    have HS1 := hide (HS0.out.by hb)
    clear hb)
  go_ret
  exact ⟨rfl, HS1.out.below⟩
set_option maxHeartbeats 8000000 in
set_option maxRecDepth 100000 in
theorem specPointsFor_c (m : Message) (q : List ByteArray) (a : Int) (v7 vq : Value) (w : World) (h7 : SliceK intD w v7 m.likes) (hq : SliceK strD w vq q) (ht : m.text.size ≤ 9223372036854775807) (hs : okStrs q) :
    Calls Try.prog 25 #[.agg #[.int .i64 m.number, .int .i64 m.sender, .int .i64 m.at_, .string m.text, .int .i64 m.edits, .bool m.gone, .int .i64 m.reply, v7], vq, .int .i64 a] w fun e w' => e = .returned (.tuple #[.int .i64 (pfV m q a), .bool (pfOk m q a)]) ∧ Below w.heap.size w w' := by
  obtain ⟨A7, c7, rfl⟩ := h7.shape
  obtain ⟨Aq, cq, rfl⟩ := hq.shape
  have H7 := hide h7
  have HQ := hide hq
  have HOS := hide hs
  have HT := hide ht
  have HS0 := hide (show St w (w.alloc (.cells #[.int .i64 m.number, .int .i64 m.sender, .int .i64 m.at_, .string m.text, .int .i64 m.edits, .bool m.gone, .int .i64 m.reply, .slice A7 m.likes.length c7] 47)) [blk w.heap.size #[.int .i64 m.number, .int .i64 m.sender, .int .i64 m.at_, .string m.text, .int .i64 m.edits, .bool m.gone, .int .i64 m.reply, .slice A7 m.likes.length c7] 47] by (repeat (first | (with_reducible exact St.start w) | (with_reducible apply St.alloc) | (with_reducible apply St.set0) | (with_reducible apply St.set1) | (with_reducible apply St.set2) | (with_reducible apply St.set3) | (with_reducible apply St.drew) | (with_reducible apply St.drewN))); all_goals (try (first | rfl | (simp; done))))
  obtain ⟨y0, y1, y2, y3, y4, y5, y6, y7⟩ : (w.alloc (.cells #[.int .i64 m.number, .int .i64 m.sender, .int .i64 m.at_, .string m.text, .int .i64 m.edits, .bool m.gone, .int .i64 m.reply, .slice A7 m.likes.length c7] 47)).cell? ⟨w.heap.size, 0, none⟩ = some (.int .i64 m.number) ∧ (w.alloc (.cells #[.int .i64 m.number, .int .i64 m.sender, .int .i64 m.at_, .string m.text, .int .i64 m.edits, .bool m.gone, .int .i64 m.reply, .slice A7 m.likes.length c7] 47)).cell? ⟨w.heap.size, 1, none⟩ = some (.int .i64 m.sender) ∧ (w.alloc (.cells #[.int .i64 m.number, .int .i64 m.sender, .int .i64 m.at_, .string m.text, .int .i64 m.edits, .bool m.gone, .int .i64 m.reply, .slice A7 m.likes.length c7] 47)).cell? ⟨w.heap.size, 2, none⟩ = some (.int .i64 m.at_) ∧ (w.alloc (.cells #[.int .i64 m.number, .int .i64 m.sender, .int .i64 m.at_, .string m.text, .int .i64 m.edits, .bool m.gone, .int .i64 m.reply, .slice A7 m.likes.length c7] 47)).cell? ⟨w.heap.size, 3, none⟩ = some (.string m.text) ∧ (w.alloc (.cells #[.int .i64 m.number, .int .i64 m.sender, .int .i64 m.at_, .string m.text, .int .i64 m.edits, .bool m.gone, .int .i64 m.reply, .slice A7 m.likes.length c7] 47)).cell? ⟨w.heap.size, 4, none⟩ = some (.int .i64 m.edits) ∧ (w.alloc (.cells #[.int .i64 m.number, .int .i64 m.sender, .int .i64 m.at_, .string m.text, .int .i64 m.edits, .bool m.gone, .int .i64 m.reply, .slice A7 m.likes.length c7] 47)).cell? ⟨w.heap.size, 5, none⟩ = some (.bool m.gone) ∧ (w.alloc (.cells #[.int .i64 m.number, .int .i64 m.sender, .int .i64 m.at_, .string m.text, .int .i64 m.edits, .bool m.gone, .int .i64 m.reply, .slice A7 m.likes.length c7] 47)).cell? ⟨w.heap.size, 6, none⟩ = some (.int .i64 m.reply) ∧ (w.alloc (.cells #[.int .i64 m.number, .int .i64 m.sender, .int .i64 m.at_, .string m.text, .int .i64 m.edits, .bool m.gone, .int .i64 m.reply, .slice A7 m.likes.length c7] 47)).cell? ⟨w.heap.size, 7, none⟩ = some (.slice A7 m.likes.length c7) := ⟨HS0.out.at0.cell 0, HS0.out.at0.cell 1, HS0.out.at0.cell 2, HS0.out.at0.cell 3, HS0.out.at0.cell 4, HS0.out.at0.cell 5, HS0.out.at0.cell 6, HS0.out.at0.cell 7⟩
  have yz := HS0.out.at0.lt
  clear h7 hq hs ht
  by_cases hv : validMessageB m = true
  · have HV := hide hv
    obtain ⟨hv1, hv2, hv3⟩ := valid_small hv
    by_cases hqb : queryB q = true
    · have HQB := hide hqb
      by_cases hi : inB a m.at_ 1000000 = true
      · have HI := hide hi
        obtain ⟨hi1, hi2⟩ := inB_iff.1 hi
        have hok := show pfOk m q a = true by unfold pfOk; rw [hv, hqb, hi]; rfl
        have HOK := hide hok
        have HP := hide (show pfV m q a = ptsB m q a by unfold pfV; rw [if_pos hok])
        clear hv hqb hi hok
        go_enter Try.func25, Try.ntmps25
        go_wp2_with (first
          | (go_at_call 65
             refine (specValidMessage_c m _ _ (H7.out.below HS0.out.below) HT.out).mono ?_
             rintro e w1 ⟨rfl, hb⟩
             rw [HV.out]
             have HS1 := hide (HS0.out.by hb)
             clear y0 y1 y2 y3 y4 y5 y6 y7 yz hb
             obtain ⟨y0, y1, y2, y3, y4, y5, y6, y7⟩ : w1.cell? ⟨w.heap.size, 0, none⟩ = some (.int .i64 m.number) ∧ w1.cell? ⟨w.heap.size, 1, none⟩ = some (.int .i64 m.sender) ∧ w1.cell? ⟨w.heap.size, 2, none⟩ = some (.int .i64 m.at_) ∧ w1.cell? ⟨w.heap.size, 3, none⟩ = some (.string m.text) ∧ w1.cell? ⟨w.heap.size, 4, none⟩ = some (.int .i64 m.edits) ∧ w1.cell? ⟨w.heap.size, 5, none⟩ = some (.bool m.gone) ∧ w1.cell? ⟨w.heap.size, 6, none⟩ = some (.int .i64 m.reply) ∧ w1.cell? ⟨w.heap.size, 7, none⟩ = some (.slice A7 m.likes.length c7) := ⟨HS1.out.at0.cell 0, HS1.out.at0.cell 1, HS1.out.at0.cell 2, HS1.out.at0.cell 3, HS1.out.at0.cell 4, HS1.out.at0.cell 5, HS1.out.at0.cell 6, HS1.out.at0.cell 7⟩
             have yz := HS1.out.at0.lt)
          | (go_at_call 50
             refine (l08Query_c q _ _ (HQ.out.below HS1.out.below) HOS.out).mono ?_
             rintro e w2 ⟨rfl, hb⟩
             rw [HQB.out]
             have HS2 := hide (HS1.out.by hb)
             clear y0 y1 y2 y3 y4 y5 y6 y7 yz hb
             obtain ⟨y0, y1, y2, y3, y4, y5, y6, y7⟩ : w2.cell? ⟨w.heap.size, 0, none⟩ = some (.int .i64 m.number) ∧ w2.cell? ⟨w.heap.size, 1, none⟩ = some (.int .i64 m.sender) ∧ w2.cell? ⟨w.heap.size, 2, none⟩ = some (.int .i64 m.at_) ∧ w2.cell? ⟨w.heap.size, 3, none⟩ = some (.string m.text) ∧ w2.cell? ⟨w.heap.size, 4, none⟩ = some (.int .i64 m.edits) ∧ w2.cell? ⟨w.heap.size, 5, none⟩ = some (.bool m.gone) ∧ w2.cell? ⟨w.heap.size, 6, none⟩ = some (.int .i64 m.reply) ∧ w2.cell? ⟨w.heap.size, 7, none⟩ = some (.slice A7 m.likes.length c7) := ⟨HS2.out.at0.cell 0, HS2.out.at0.cell 1, HS2.out.at0.cell 2, HS2.out.at0.cell 3, HS2.out.at0.cell 4, HS2.out.at0.cell 5, HS2.out.at0.cell 6, HS2.out.at0.cell 7⟩
             have yz := HS2.out.at0.lt)
          | (go_at_call 66; refine (l00In_c _ _ _ _).mono ?_; rintro e w' ⟨rfl, rfl⟩; rw [HI.out])
          | (go_at_call 67
             refine (l08Points_c m _ _ q _ a _ (msgRow HS2.out.at0 (H7.out.below HS2.out.below)) (HQ.out.below HS2.out.below) hv1 hv2 hv3 hi1 hi2).mono ?_
             rintro e w3 ⟨rfl, hb⟩
             have HS3 := hide (HS2.out.by hb)
             clear hb))
        go_ret2
        rw [HP.out, HOK.out]
        exact ⟨rfl, HS3.out.below⟩
      · have HI := hide (show inB a m.at_ 1000000 = false by simpa using hi)
        have HOK := hide (show pfOk m q a = false by unfold pfOk; rw [HI.out, Bool.and_false])
        have HP := hide (show pfV m q a = 0 by unfold pfV; rw [HOK.out]; rfl)
        clear hv hqb hi
        go_enter Try.func25, Try.ntmps25
        go_wp2_with (first
          | (go_at_call 65
             refine (specValidMessage_c m _ _ (H7.out.below HS0.out.below) HT.out).mono ?_
             rintro e w1 ⟨rfl, hb⟩
             rw [HV.out]
             have HS1 := hide (HS0.out.by hb)
             clear y0 y1 y2 y3 y4 y5 y6 y7 yz hb
             obtain ⟨y0, y1, y2, y3, y4, y5, y6, y7⟩ : w1.cell? ⟨w.heap.size, 0, none⟩ = some (.int .i64 m.number) ∧ w1.cell? ⟨w.heap.size, 1, none⟩ = some (.int .i64 m.sender) ∧ w1.cell? ⟨w.heap.size, 2, none⟩ = some (.int .i64 m.at_) ∧ w1.cell? ⟨w.heap.size, 3, none⟩ = some (.string m.text) ∧ w1.cell? ⟨w.heap.size, 4, none⟩ = some (.int .i64 m.edits) ∧ w1.cell? ⟨w.heap.size, 5, none⟩ = some (.bool m.gone) ∧ w1.cell? ⟨w.heap.size, 6, none⟩ = some (.int .i64 m.reply) ∧ w1.cell? ⟨w.heap.size, 7, none⟩ = some (.slice A7 m.likes.length c7) := ⟨HS1.out.at0.cell 0, HS1.out.at0.cell 1, HS1.out.at0.cell 2, HS1.out.at0.cell 3, HS1.out.at0.cell 4, HS1.out.at0.cell 5, HS1.out.at0.cell 6, HS1.out.at0.cell 7⟩
             have yz := HS1.out.at0.lt)
          | (go_at_call 50
             refine (l08Query_c q _ _ (HQ.out.below HS1.out.below) HOS.out).mono ?_
             rintro e w2 ⟨rfl, hb⟩
             rw [HQB.out]
             have HS2 := hide (HS1.out.by hb)
             clear y0 y1 y2 y3 y4 y5 y6 y7 yz hb
             obtain ⟨y0, y1, y2, y3, y4, y5, y6, y7⟩ : w2.cell? ⟨w.heap.size, 0, none⟩ = some (.int .i64 m.number) ∧ w2.cell? ⟨w.heap.size, 1, none⟩ = some (.int .i64 m.sender) ∧ w2.cell? ⟨w.heap.size, 2, none⟩ = some (.int .i64 m.at_) ∧ w2.cell? ⟨w.heap.size, 3, none⟩ = some (.string m.text) ∧ w2.cell? ⟨w.heap.size, 4, none⟩ = some (.int .i64 m.edits) ∧ w2.cell? ⟨w.heap.size, 5, none⟩ = some (.bool m.gone) ∧ w2.cell? ⟨w.heap.size, 6, none⟩ = some (.int .i64 m.reply) ∧ w2.cell? ⟨w.heap.size, 7, none⟩ = some (.slice A7 m.likes.length c7) := ⟨HS2.out.at0.cell 0, HS2.out.at0.cell 1, HS2.out.at0.cell 2, HS2.out.at0.cell 3, HS2.out.at0.cell 4, HS2.out.at0.cell 5, HS2.out.at0.cell 6, HS2.out.at0.cell 7⟩
             have yz := HS2.out.at0.lt)
          | (go_at_call 66; refine (l00In_c _ _ _ _).mono ?_; rintro e w' ⟨rfl, rfl⟩; rw [HI.out]))
        go_ret2
        rw [HP.out, HOK.out]
        exact ⟨rfl, HS2.out.below⟩
    · have HQB := hide (show queryB q = false by simpa using hqb)
      have HOK := hide (show pfOk m q a = false by unfold pfOk; rw [HQB.out, Bool.and_false, Bool.false_and])
      have HP := hide (show pfV m q a = 0 by unfold pfV; rw [HOK.out]; rfl)
      clear hv hqb
      go_enter Try.func25, Try.ntmps25
      go_wp2_with (first
        | (go_at_call 65
           refine (specValidMessage_c m _ _ (H7.out.below HS0.out.below) HT.out).mono ?_
           rintro e w1 ⟨rfl, hb⟩
           rw [HV.out]
           have HS1 := hide (HS0.out.by hb)
           clear y0 y1 y2 y3 y4 y5 y6 y7 yz hb
           obtain ⟨y0, y1, y2, y3, y4, y5, y6, y7⟩ : w1.cell? ⟨w.heap.size, 0, none⟩ = some (.int .i64 m.number) ∧ w1.cell? ⟨w.heap.size, 1, none⟩ = some (.int .i64 m.sender) ∧ w1.cell? ⟨w.heap.size, 2, none⟩ = some (.int .i64 m.at_) ∧ w1.cell? ⟨w.heap.size, 3, none⟩ = some (.string m.text) ∧ w1.cell? ⟨w.heap.size, 4, none⟩ = some (.int .i64 m.edits) ∧ w1.cell? ⟨w.heap.size, 5, none⟩ = some (.bool m.gone) ∧ w1.cell? ⟨w.heap.size, 6, none⟩ = some (.int .i64 m.reply) ∧ w1.cell? ⟨w.heap.size, 7, none⟩ = some (.slice A7 m.likes.length c7) := ⟨HS1.out.at0.cell 0, HS1.out.at0.cell 1, HS1.out.at0.cell 2, HS1.out.at0.cell 3, HS1.out.at0.cell 4, HS1.out.at0.cell 5, HS1.out.at0.cell 6, HS1.out.at0.cell 7⟩
           have yz := HS1.out.at0.lt)
        | (go_at_call 50
           refine (l08Query_c q _ _ (HQ.out.below HS1.out.below) HOS.out).mono ?_
           rintro e w2 ⟨rfl, hb⟩
           rw [HQB.out]
           have HS2 := hide (HS1.out.by hb)
           clear y0 y1 y2 y3 y4 y5 y6 y7 yz hb
           obtain ⟨y0, y1, y2, y3, y4, y5, y6, y7⟩ : w2.cell? ⟨w.heap.size, 0, none⟩ = some (.int .i64 m.number) ∧ w2.cell? ⟨w.heap.size, 1, none⟩ = some (.int .i64 m.sender) ∧ w2.cell? ⟨w.heap.size, 2, none⟩ = some (.int .i64 m.at_) ∧ w2.cell? ⟨w.heap.size, 3, none⟩ = some (.string m.text) ∧ w2.cell? ⟨w.heap.size, 4, none⟩ = some (.int .i64 m.edits) ∧ w2.cell? ⟨w.heap.size, 5, none⟩ = some (.bool m.gone) ∧ w2.cell? ⟨w.heap.size, 6, none⟩ = some (.int .i64 m.reply) ∧ w2.cell? ⟨w.heap.size, 7, none⟩ = some (.slice A7 m.likes.length c7) := ⟨HS2.out.at0.cell 0, HS2.out.at0.cell 1, HS2.out.at0.cell 2, HS2.out.at0.cell 3, HS2.out.at0.cell 4, HS2.out.at0.cell 5, HS2.out.at0.cell 6, HS2.out.at0.cell 7⟩
           have yz := HS2.out.at0.lt))
      go_ret2
      rw [HP.out, HOK.out]
      exact ⟨rfl, HS2.out.below⟩
  · have HV := hide (show validMessageB m = false by simpa using hv)
    have HOK := hide (show pfOk m q a = false by unfold pfOk; rw [HV.out]; rfl)
    have HP := hide (show pfV m q a = 0 by unfold pfV; rw [HOK.out]; rfl)
    clear hv
    go_enter Try.func25, Try.ntmps25
    go_wp2_with (first
      | (go_at_call 65
         refine (specValidMessage_c m _ _ (H7.out.below HS0.out.below) HT.out).mono ?_
         rintro e w1 ⟨rfl, hb⟩
         rw [HV.out]
         have HS1 := hide (HS0.out.by hb)
         clear y0 y1 y2 y3 y4 y5 y6 y7 yz hb
         obtain ⟨y0, y1, y2, y3, y4, y5, y6, y7⟩ : w1.cell? ⟨w.heap.size, 0, none⟩ = some (.int .i64 m.number) ∧ w1.cell? ⟨w.heap.size, 1, none⟩ = some (.int .i64 m.sender) ∧ w1.cell? ⟨w.heap.size, 2, none⟩ = some (.int .i64 m.at_) ∧ w1.cell? ⟨w.heap.size, 3, none⟩ = some (.string m.text) ∧ w1.cell? ⟨w.heap.size, 4, none⟩ = some (.int .i64 m.edits) ∧ w1.cell? ⟨w.heap.size, 5, none⟩ = some (.bool m.gone) ∧ w1.cell? ⟨w.heap.size, 6, none⟩ = some (.int .i64 m.reply) ∧ w1.cell? ⟨w.heap.size, 7, none⟩ = some (.slice A7 m.likes.length c7) := ⟨HS1.out.at0.cell 0, HS1.out.at0.cell 1, HS1.out.at0.cell 2, HS1.out.at0.cell 3, HS1.out.at0.cell 4, HS1.out.at0.cell 5, HS1.out.at0.cell 6, HS1.out.at0.cell 7⟩
         have yz := HS1.out.at0.lt))
    go_ret2
    rw [HP.out, HOK.out]
    exact ⟨rfl, HS1.out.below⟩
end Go.Proofs.Yticjphaagmnahaa
