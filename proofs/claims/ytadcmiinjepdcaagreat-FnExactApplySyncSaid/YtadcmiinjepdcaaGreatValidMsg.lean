/- Valid messages and logs: the program's tests and the reference's. -/
import Derived.Test.YtadcmiinjepdcaaGreatCore
import Derived.Test.YtadcmiinjepdcaaGreatSets
import Derived.Test.YtadcmiinjepdcaaGreatTyLog
namespace Go.Proofs.YtadcmiinjepdcaaGreat
open Go Go.RowKit
set_option linter.unusedVariables false
set_option linter.unusedSimpArgs false

def memB (n : Int) : Bool := inB n 1 1000
/-- A valid message. -/
def validMessageB (m : Message) : Bool :=
  inB m.number 1 1000000000 && inB m.sender 1 1000 && inB m.at_ 0 1000000 && textB m.text && inB m.edits 0 1000000000 && inB m.reply 0 (m.number - 1)
    && !(decide (20 < (m.likes.length : Int))) && risesB (fun n => inB n 1 1000) m.likes && !(hasB m.likes m.sender)
    && (!m.gone || (m.text.toList.isEmpty && decide ((m.likes.length : Int) = 0)))
theorem len_beq {α : Type} [DecidableEq α] (l : List α) : ((l.length : Int) == 0) = decide (l = []) := by
  cases l with
  | nil => rfl
  | cons a l => simp; omega

set_option maxHeartbeats 4000000 in
theorem validMessage_c (m : Message) (v7 : Value) (w : World) (h7 : SliceK intD w v7 m.likes) (ht : m.text.size ≤ 9223372036854775807) :
    Calls Tryz.prog 65 #[.agg #[.int .i64 m.number, .int .i64 m.sender, .int .i64 m.at_, .string m.text, .int .i64 m.edits, .bool m.gone, .int .i64 m.reply, v7]] w
      fun e w' => e = .returned (.bool (validMessageB m)) ∧ Below w.heap.size w w' := by
  by_cases hN : inB m.number 1 1000000000 = true
  · have hN2 := inB_iff.1 hN
    have hn1 : 1 ≤ m.number := hN2.1
    have hn2 : m.number ≤ 1000000000 := hN2.2
    obtain ⟨A, c, rfl⟩ := h7.shape
    have hlen := h7.len
    have H7 := hide h7
    clear h7 hN2
    have HB := hide ((Below.refl w.heap.size w).alloc (Nat.le_refl _) (.cells #[.int .i64 m.number, .int .i64 m.sender, .int .i64 m.at_, .string m.text, .int .i64 m.edits, .bool m.gone, .int .i64 m.reply, .slice A m.likes.length c] 90))
    by_cases hL : (m.likes.length : Int) ≤ 20
    · have hL2 : decide ((20 : Int) < (m.likes.length : Int)) = false := by simp; omega
      go_enter Tryz.func65, Tryz.ntmps65
      go_wp2_with (first
        | (go_at_call 39; refine (in_c _ _ _ _).mono ?_; rintro e w' ⟨rfl, rfl⟩)
        | (go_at_call 88; refine (isMember_c _ _).mono ?_; rintro e w' ⟨rfl, rfl⟩)
        | (go_at_call 89; refine (isTick_c _ _).mono ?_; rintro e w' ⟨rfl, rfl⟩)
        | (go_at_call 90; refine (isText_c _ _ ht).mono ?_; rintro e w1 ⟨rfl, hb1⟩; have HN := hide (HB.out.trans (hb1.mono HB.out.size)); obtain ⟨hc1, hf1, hs⟩ := bcell hb1; have hy1 : w.heap.size < w1.heap.size := (by ((try simp only [World.size_alloc] at hs); omega)); clear hs hb1 HB; have HB := HN; clear HN)
        | (go_at_call 91; refine (isMembers_c _ m.likes _ (H7.out.below HB.out)).mono ?_; rintro e w1 ⟨rfl, hb1⟩; have HN := hide (HB.out.trans (hb1.mono HB.out.size)); obtain ⟨hc2, hf2, hs⟩ := bcell hb1; have hy2 : w.heap.size < w1.heap.size := (by omega); clear hs hb1 HB; have HB := HN; clear HN)
        | (go_at_call 92; refine (contains_c _ m.likes _ _ (H7.out.below HB.out)).mono ?_; rintro e w1 ⟨rfl, hb1⟩; have HN := hide (HB.out.trans (hb1.mono HB.out.size)); obtain ⟨hc3, hf3, hs⟩ := bcell hb1; have hy3 : w.heap.size < w1.heap.size := (by omega); clear hs hb1 HB; have HB := HN; clear HN))
      all_goals
        go_ret
        refine ⟨?_, HB.out⟩
        have H0 := inB_iff.2 ⟨hn1, hn2⟩
        try simp only [Bool.not_eq_true', Bool.not_eq_false'] at *
        first
        | (rw [show validMessageB m = false from by simp [validMessageB, *]]; rfl)
        | (rw [show validMessageB m = true from by simp [validMessageB, *]]; rfl)
        | (rw [show validMessageB m = ((m.likes.length : Int) == 0) from by rw [len_beq]; simp [validMessageB, *]]; rfl)
        | skip
    · have hL2 : decide ((20 : Int) < (m.likes.length : Int)) = true := by simp; omega
      go_enter Tryz.func65, Tryz.ntmps65
      go_wp2_with (first
        | (go_at_call 39; refine (in_c _ _ _ _).mono ?_; rintro e w' ⟨rfl, rfl⟩)
        | (go_at_call 88; refine (isMember_c _ _).mono ?_; rintro e w' ⟨rfl, rfl⟩)
        | (go_at_call 89; refine (isTick_c _ _).mono ?_; rintro e w' ⟨rfl, rfl⟩)
        | (go_at_call 90; refine (isText_c _ _ ht).mono ?_; rintro e w1 ⟨rfl, hb1⟩; have HN := hide (HB.out.trans (hb1.mono HB.out.size)); obtain ⟨hc1, hf1, hs⟩ := bcell hb1; have hy1 : w.heap.size < w1.heap.size := (by ((try simp only [World.size_alloc] at hs); omega)); clear hs hb1 HB; have HB := HN; clear HN)
        | (go_at_call 91; refine (isMembers_c _ m.likes _ (H7.out.below HB.out)).mono ?_; rintro e w1 ⟨rfl, hb1⟩; have HN := hide (HB.out.trans (hb1.mono HB.out.size)); obtain ⟨hc2, hf2, hs⟩ := bcell hb1; have hy2 : w.heap.size < w1.heap.size := (by omega); clear hs hb1 HB; have HB := HN; clear HN)
        | (go_at_call 92; refine (contains_c _ m.likes _ _ (H7.out.below HB.out)).mono ?_; rintro e w1 ⟨rfl, hb1⟩; have HN := hide (HB.out.trans (hb1.mono HB.out.size)); obtain ⟨hc3, hf3, hs⟩ := bcell hb1; have hy3 : w.heap.size < w1.heap.size := (by omega); clear hs hb1 HB; have HB := HN; clear HN))
      all_goals
        go_ret
        refine ⟨?_, HB.out⟩
        have H0 := inB_iff.2 ⟨hn1, hn2⟩
        try simp only [Bool.not_eq_true', Bool.not_eq_false'] at *
        first
        | (rw [show validMessageB m = false from by simp [validMessageB, *]]; rfl)
        | (rw [show validMessageB m = true from by simp [validMessageB, *]]; rfl)
        | (rw [show validMessageB m = ((m.likes.length : Int) == 0) from by rw [len_beq]; simp [validMessageB, *]]; rfl)
        | skip
  · have hr := hide (show validMessageB m = false from by simp [validMessageB, hN])
    have hNf : inB m.number 1 1000000000 = false := by simpa using hN
    have HB := hide ((Below.refl w.heap.size w).alloc (Nat.le_refl _) (.cells #[.int .i64 m.number, .int .i64 m.sender, .int .i64 m.at_, .string m.text, .int .i64 m.edits, .bool m.gone, .int .i64 m.reply, v7] 90))
    clear h7 hN
    go_enter Tryz.func65, Tryz.ntmps65
    go_wp2_with (go_at_call 39; refine (in_c _ _ _ _).mono ?_; rintro e w' ⟨rfl, rfl⟩)
    go_ret
    exact ⟨by rw [hr.out]; rfl, HB.out⟩

end Go.Proofs.YtadcmiinjepdcaaGreat
