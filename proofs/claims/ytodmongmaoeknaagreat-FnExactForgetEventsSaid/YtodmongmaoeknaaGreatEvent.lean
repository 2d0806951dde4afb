/- Valid events: the program's tests and the reference's. -/
import Derived.Test.YtodmongmaoeknaaGreatLikeCall
import Derived.Test.YtodmongmaoeknaaGreatPostCall
import Derived.Test.YtodmongmaoeknaaGreatEdit
import Derived.Test.YtodmongmaoeknaaGreatTakeBack
import Derived.Test.YtodmongmaoeknaaGreatRTypes
namespace Go.Proofs.YtodmongmaoeknaaGreat
open Go Go.RowKit
set_option linter.unusedVariables false
set_option linter.unusedSimpArgs false

def evRestB (e : Event) : Bool :=
  if e.kind = 0 then inB e.at_ 0 1000000 && (textB e.text && inB e.reply 0 (e.number - 1))
  else if e.kind = 1 then textB e.text && (decide (e.at_ = 0) && decide (e.reply = 0))
  else decide (e.at_ = 0) && (e.text.toList.isEmpty && decide (e.reply = 0))
/-- A valid event. -/
def eventB (e : Event) : Bool := inB e.kind 0 4 && (inB e.number 1 1000000000 && (inB e.member 1 1000 && evRestB e))
def eventsB (es : List Event) : Bool := decide ((es.length : Int) ≤ 60) && es.all eventB
theorem text_small {t : ByteArray} (h : textB t = true) : t.size ≤ 80 := by
  unfold textB at h
  simp only [Bool.and_eq_true, decide_eq_true_eq] at h
  omega
theorem empty_small {t : ByteArray} (h : t.toList.isEmpty = true) : t.size = 0 := by
  have h1 : t.toList = [] := by simpa using h
  rw [ByteArray.toList_eq] at h1
  have h3 : t.data.toList.length = t.size := by rw [Array.length_toList]; rfl
  rw [← h3, h1]; rfl
theorem event_small {e : Event} (h : eventB e = true) : e.text.size ≤ 80 := by
  unfold eventB evRestB at h
  simp only [Bool.and_eq_true] at h
  have h4 := h.2.2.2
  revert h4
  split
  · simp only [Bool.and_eq_true]; intro h; exact text_small h.2.1
  · split
    · simp only [Bool.and_eq_true]; intro h; exact text_small h.1
    · simp only [Bool.and_eq_true]; intro h; have := empty_small h.2.1; omega

/-- Whether an event can be applied to a valid log, and the log behind it. -/
def applyOk (l : Log) (e : Event) : Bool :=
  if e.kind = 0 then decide (e.number = l.next) && (postC l e.reply && validLogB (postNew l e.member e.at_ e.text e.reply))
  else if e.kind = 1 then wmOk l e.number (edF e.member e.text)
  else if e.kind = 2 then wmOk l e.number (tbF e.member)
  else if e.kind = 3 then wmOk l e.number (liF e.member)
  else wmOk l e.number (unF e.member)
def applyL (l : Log) (e : Event) : Log :=
  if e.kind = 0 then (if applyOk l e then postNew l e.member e.at_ e.text e.reply else noLog)
  else if e.kind = 1 then wmL l e.number (edF e.member e.text)
  else if e.kind = 2 then wmL l e.number (tbF e.member)
  else if e.kind = 3 then wmL l e.number (liF e.member)
  else wmL l e.number (unF e.member)
theorem applyL_no {l : Log} {e : Event} (h : applyOk l e = false) : applyL l e = noLog := by
  unfold applyL
  split
  · rw [h]; rfl
  · rename_i h0
    unfold applyOk at h; rw [if_neg h0] at h
    split
    · rename_i h1; rw [if_pos h1] at h; exact wmL_no h
    · rename_i h1; rw [if_neg h1] at h
      split
      · rename_i h2; rw [if_pos h2] at h; exact wmL_no h
      · rename_i h2; rw [if_neg h2] at h
        split
        · rename_i h3; rw [if_pos h3] at h; exact wmL_no h
        · rename_i h3; rw [if_neg h3] at h; exact wmL_no h
theorem wm_valid {l : Log} {n : Int} {f : Message → Message × Bool} (h : wmOk l n f = true) : validLogB (wmL l n f) = true := by
  unfold wmL; rw [if_pos h]
  simp only [wmOk, Bool.and_eq_true] at h
  revert h
  rcases l.messages.find? (numIs n) with _ | m
  · simp
  · simp only [Bool.and_eq_true]; intro h; exact h.2.2
theorem apply_valid {l : Log} {e : Event} (h : applyOk l e = true) : validLogB (applyL l e) = true := by
  have hh := h
  unfold applyL
  unfold applyOk at h
  split
  · rename_i h0
    rw [if_pos h0] at h
    first
    | (rw [if_pos hh]; simp only [Bool.and_eq_true] at h; exact h.2.2)
    | (simp only [Bool.and_eq_true] at h; exact h.2.2)
  · rename_i h0
    rw [if_neg h0] at h
    split
    · rename_i h1; rw [if_pos h1] at h; exact wm_valid h
    · rename_i h1; rw [if_neg h1] at h
      split
      · rename_i h2; rw [if_pos h2] at h; exact wm_valid h
      · rename_i h2; rw [if_neg h2] at h
        split
        · rename_i h3; rw [if_pos h3] at h; exact wm_valid h
        · rename_i h3; rw [if_neg h3] at h; exact wm_valid h
theorem valid_texts {l : Log} (h : validLogB l = true) : okTexts l.messages := fun m hm => by
  have h1 := valid_msgs h hm
  simp only [validMessageB, Bool.and_eq_true] at h1
  have := text_small h1.1.1.1.1.1.1.2
  omega
theorem noLog_cnt : tcntLog noLog ≤ 1080 := by simp [tcntLog, noLog, cntAll]

/-- ApplyEvent. -/
def evOk (l : Log) (e : Event) : Bool := eventB e && (validLogB l && applyOk l e)
def evL (l : Log) (e : Event) : Log := if evOk l e then applyL l e else noLog
theorem evL_no {l : Log} {e : Event} (h : evOk l e = false) : evL l e = noLog := by simp [evL, h]
theorem evL_eq {l : Log} {e : Event} (h1 : eventB e = true) (h2 : validLogB l = true) : evL l e = applyL l e ∧ evOk l e = applyOk l e := by
  have : evOk l e = applyOk l e := by simp [evOk, h1, h2]
  refine ⟨?_, this⟩
  unfold evL; rw [this]
  by_cases h : applyOk l e = true
  · rw [if_pos h]
  · rw [if_neg h, applyL_no (by simpa using h)]
theorem ev_cnt (l : Log) (e : Event) : tcntLog (evL l e) ≤ 1080 := by
  unfold evL; split
  · rename_i h
    refine valid_cnt (apply_valid ?_)
    simp only [evOk, Bool.and_eq_true] at h; exact h.2.2
  · exact noLog_cnt

/-! ### many events -/
def runOk : Log → List Event → Bool
  | _, [] => true
  | l, e :: es => applyOk l e && runOk (applyL l e) es
def runL : Log → List Event → Log
  | l, [] => l
  | l, e :: es => runL (applyL l e) es
theorem runL_app : ∀ (a b : List Event) (l : Log), runL l (a ++ b) = runL (runL l a) b
  | [], b, l => rfl
  | e :: a, b, l => runL_app a b (applyL l e)
theorem runOk_app : ∀ (a b : List Event) (l : Log), runOk l (a ++ b) = (runOk l a && runOk (runL l a) b)
  | [], b, l => by simp [runOk, runL]
  | e :: a, b, l => by rw [List.cons_append, runOk, runOk, runOk_app a b (applyL l e), Bool.and_assoc]; rfl
theorem run_step {l : Log} {es : List Event} {k : Nat} {e : Event} (hx : es[k]? = some e) :
    runL l (es.take (k + 1)) = applyL (runL l (es.take k)) e ∧ runOk l (es.take (k + 1)) = (runOk l (es.take k) && applyOk (runL l (es.take k)) e) := by
  obtain ⟨hk, rfl⟩ := List.getElem?_eq_some_iff.1 hx
  rw [List.take_succ_eq_append_getElem hk, runL_app, runOk_app]
  exact ⟨rfl, by simp [runOk]⟩
theorem run_fail {l : Log} {es : List Event} {k : Nat} {e : Event} (hx : es[k]? = some e) (h : applyOk (runL l (es.take k)) e = false) : runOk l es = false := by
  have h1 := (run_step (l := l) hx).2
  rw [h, Bool.and_false] at h1
  rw [← List.take_append_drop (k + 1) es, runOk_app, h1, Bool.false_and]
theorem run_valid : ∀ (es : List Event) (l : Log), validLogB l = true → runOk l es = true → validLogB (runL l es) = true
  | [], l, h, _ => h
  | e :: es, l, h, h2 => by
    simp only [runOk, Bool.and_eq_true] at h2
    exact run_valid es _ (apply_valid h2.1) h2.2
/-- RunEvents. -/
def reOk (l : Log) (es : List Event) : Bool := eventsB es && (validLogB l && runOk l es)
def reL (l : Log) (es : List Event) : Log := if reOk l es then runL l es else noLog
theorem reL_no {l : Log} {es : List Event} (h : reOk l es = false) : reL l es = noLog := by simp [reL, h]
theorem reL_yes {l : Log} {es : List Event} (h : reOk l es = true) : reL l es = runL l es := by simp [reL, h]
theorem re_eq {l : Log} {es : List Event} (h1 : eventsB es = true) (h2 : validLogB l = true) : reOk l es = runOk l es := by simp [reOk, h1, h2]
theorem re_valid {l : Log} {es : List Event} (h : reOk l es = true) : validLogB (reL l es) = true := by
  rw [reL_yes h]
  simp only [reOk, Bool.and_eq_true] at h
  exact run_valid es l h.2.1 h.2.2
theorem re_cnt (l : Log) (es : List Event) : tcntLog (reL l es) ≤ 1080 := by
  by_cases h : reOk l es = true
  · exact valid_cnt (re_valid h)
  · rw [reL_no (by simpa using h)]; exact noLog_cnt
open Go Go.RowKit Go.BigFrame
attribute [local go_sem] Calm.cell Calm.frozen
set_option linter.unusedVariables false
set_option linter.unusedSimpArgs false

theorem kin0 : inB 0 0 4 = true := rfl
theorem kin1 : inB 1 0 4 = true := rfl
theorem kin2 : inB 2 0 4 = true := rfl
theorem kin3 : inB 3 0 4 = true := rfl
theorem kin4 : inB 4 0 4 = true := rfl
theorem idx_any {α : Type} (p : α → Bool) (l : List α) : decide (0 ≤ idxP p l) = l.any p := by
  rcases idxP_cases p l with h | ⟨k, x, h, hl, hx, hp⟩
  · rw [h]
    have : l.any p = false := by
      rw [List.any_eq_false]
      intro x hx hp
      obtain ⟨j, hj⟩ := List.getElem?_of_mem hx
      have h2 : 0 ≤ idxP p l := by
        unfold idxP
        rcases hf : l.findIdx? p with _ | k
        · rw [List.findIdx?_eq_none_iff] at hf
          have := hf x hx; rw [hp] at this; cases this
        · simp
      omega
    rw [this]; rfl
  · rw [h]
    have : l.any p = true := List.any_eq_true.2 ⟨x, List.mem_of_getElem? hx, hp⟩
    rw [this]; simp

set_option maxHeartbeats 4000000 in
theorem validEvent_c (m : Event) (w : World) (ht : m.text.size ≤ 9223372036854775807) :
    Calls Tryz.prog 56 #[.agg #[.int .i64 m.kind, .int .i64 m.number, .int .i64 m.member, .int .i64 m.at_, .string m.text, .int .i64 m.reply]] w fun e w' => e = .returned (.bool (eventB m)) ∧ Below w.heap.size w w' := by
  have HB := hide ((Below.refl w.heap.size w).alloc (Nat.le_refl _) (.cells #[.int .i64 m.kind, .int .i64 m.number, .int .i64 m.member, .int .i64 m.at_, .string m.text, .int .i64 m.reply] 55))
  by_cases hN : inB m.number 1 1000000000 = true
  · have hN2 := inB_iff.1 hN
    have hn1 : 1 ≤ m.number := hN2.1
    have hn2 : m.number ≤ 1000000000 := hN2.2
    clear hN2
    by_cases h0 : m.kind = 0
    · have hk : inB m.kind 0 4 = true := by rw [h0]; rfl
      rw [h0] at HB
      go_enter Tryz.func56, Tryz.ntmps56
      go_wp2_with (first | (go_at_call 19; refine (in_c _ _ _ _).mono ?_; rintro e w' ⟨rfl, rfl⟩) | (go_at_call 79; refine (isMember_c _ _).mono ?_; rintro e w' ⟨rfl, rfl⟩) | (go_at_call 80; refine (isTick_c _ _).mono ?_; rintro e w' ⟨rfl, rfl⟩) | (go_at_call 81; refine (isText_c _ _ ht).mono ?_; rintro e w1 ⟨rfl, hb1⟩; have HN := hide (HB.out.trans (hb1.mono HB.out.size)); obtain ⟨hc1, hf1, hs⟩ := bcell hb1; have hy1 : w.heap.size < w1.heap.size := (by ((try simp only [World.size_alloc] at hs); omega)); clear hs hb1 HB; have HB := HN; clear HN))
      all_goals (go_ret; refine ⟨?_, by first | exact HB.out | exact (Below.refl _ _).alloc (Nat.le_refl _) _⟩; have H0 := inB_iff.2 ⟨hn1, hn2⟩; (try simp only [Bool.not_eq_true', Bool.not_eq_false'] at *); (first | (rw [show eventB m = false from by simp [eventB, evRestB, kin0, kin1, kin2, kin3, kin4, *]]; rfl) | (rw [show eventB m = true from by simp [eventB, evRestB, kin0, kin1, kin2, kin3, kin4, *]]; rfl) | (refine ret_bool ?_; simp [eventB, evRestB, kin0, kin1, kin2, kin3, kin4, *]; done) | (refine ret_bool ?_; rw [Bool.eq_iff_iff]; simp [eventB, evRestB, kin0, kin1, kin2, kin3, kin4, *]; done) | (exfalso; simp [inB] at *; omega)))
    · by_cases h1 : m.kind = 1
      · have hk : inB m.kind 0 4 = true := by rw [h1]; rfl
        rw [h1] at HB
        go_enter Tryz.func56, Tryz.ntmps56
        go_wp2_with (first | (go_at_call 19; refine (in_c _ _ _ _).mono ?_; rintro e w' ⟨rfl, rfl⟩) | (go_at_call 79; refine (isMember_c _ _).mono ?_; rintro e w' ⟨rfl, rfl⟩) | (go_at_call 80; refine (isTick_c _ _).mono ?_; rintro e w' ⟨rfl, rfl⟩) | (go_at_call 81; refine (isText_c _ _ ht).mono ?_; rintro e w1 ⟨rfl, hb1⟩; have HN := hide (HB.out.trans (hb1.mono HB.out.size)); obtain ⟨hc1, hf1, hs⟩ := bcell hb1; have hy1 : w.heap.size < w1.heap.size := (by ((try simp only [World.size_alloc] at hs); omega)); clear hs hb1 HB; have HB := HN; clear HN))
        all_goals (go_ret; refine ⟨?_, by first | exact HB.out | exact (Below.refl _ _).alloc (Nat.le_refl _) _⟩; have H0 := inB_iff.2 ⟨hn1, hn2⟩; (try simp only [Bool.not_eq_true', Bool.not_eq_false'] at *); (first | (rw [show eventB m = false from by simp [eventB, evRestB, kin0, kin1, kin2, kin3, kin4, *]]; rfl) | (rw [show eventB m = true from by simp [eventB, evRestB, kin0, kin1, kin2, kin3, kin4, *]]; rfl) | (refine ret_bool ?_; simp [eventB, evRestB, kin0, kin1, kin2, kin3, kin4, *]; done) | (refine ret_bool ?_; rw [Bool.eq_iff_iff]; simp [eventB, evRestB, kin0, kin1, kin2, kin3, kin4, *]; done) | (exfalso; simp [inB] at *; omega)))
      · go_enter Tryz.func56, Tryz.ntmps56
        go_wp2_with (first | (go_at_call 19; refine (in_c _ _ _ _).mono ?_; rintro e w' ⟨rfl, rfl⟩) | (go_at_call 79; refine (isMember_c _ _).mono ?_; rintro e w' ⟨rfl, rfl⟩) | (go_at_call 80; refine (isTick_c _ _).mono ?_; rintro e w' ⟨rfl, rfl⟩) | (go_at_call 81; refine (isText_c _ _ ht).mono ?_; rintro e w1 ⟨rfl, hb1⟩; have HN := hide (HB.out.trans (hb1.mono HB.out.size)); obtain ⟨hc1, hf1, hs⟩ := bcell hb1; have hy1 : w.heap.size < w1.heap.size := (by ((try simp only [World.size_alloc] at hs); omega)); clear hs hb1 HB; have HB := HN; clear HN))
        all_goals (go_ret; refine ⟨?_, by first | exact HB.out | exact (Below.refl _ _).alloc (Nat.le_refl _) _⟩; have H0 := inB_iff.2 ⟨hn1, hn2⟩; (try simp only [Bool.not_eq_true', Bool.not_eq_false'] at *); (first | (rw [show eventB m = false from by simp [eventB, evRestB, kin0, kin1, kin2, kin3, kin4, *]]; rfl) | (rw [show eventB m = true from by simp [eventB, evRestB, kin0, kin1, kin2, kin3, kin4, *]]; rfl) | (refine ret_bool ?_; simp [eventB, evRestB, kin0, kin1, kin2, kin3, kin4, *]; done) | (refine ret_bool ?_; rw [Bool.eq_iff_iff]; simp [eventB, evRestB, kin0, kin1, kin2, kin3, kin4, *]; done) | (exfalso; simp [inB] at *; omega)))
  · have hNf : inB m.number 1 1000000000 = false := by simpa using hN
    have hr : eventB m = false := by simp [eventB, hNf]
    have HR := hide hr
    clear hN hr
    go_enter Tryz.func56, Tryz.ntmps56
    go_wp2_with (first | (go_at_call 19; refine (in_c _ _ _ _).mono ?_; rintro e w' ⟨rfl, rfl⟩) | (go_at_call 79; refine (isMember_c _ _).mono ?_; rintro e w' ⟨rfl, rfl⟩) | (go_at_call 80; refine (isTick_c _ _).mono ?_; rintro e w' ⟨rfl, rfl⟩) | (go_at_call 81; refine (isText_c _ _ ht).mono ?_; rintro e w1 ⟨rfl, hb1⟩; have HN := hide (HB.out.trans (hb1.mono HB.out.size)); obtain ⟨hc1, hf1, hs⟩ := bcell hb1; have hy1 : w.heap.size < w1.heap.size := (by ((try simp only [World.size_alloc] at hs); omega)); clear hs hb1 HB; have HB := HN; clear HN))
    all_goals
      go_ret
      exact ⟨by rw [HR.out]; rfl, HB.out⟩
set_option maxHeartbeats 4000000 in
theorem l07Event_c (m : Event) (b o : Nat) (w : World) (hp : RowAt eventD w b o [m]) (ht : m.text.size ≤ 9223372036854775807) :
    Calls Tryz.prog 47 #[.pointer (some ⟨b, o, none⟩)] w fun e w' => e = .returned (.bool (eventB m)) ∧ Below w.heap.size w w' := by
  have HB := hide (Below.refl w.heap.size w)
  obtain ⟨hq, hc0, hc1, hc2, hc3, hc4, hc5⟩ := event_at hp (Below.refl _ _) (j := 0) rfl
  simp only [Nat.zero_mul, Nat.add_zero] at hc0 hc1 hc2 hc3 hc4 hc5
  clear hp
  by_cases hN : inB m.number 1 1000000000 = true
  · have hN2 := inB_iff.1 hN
    have hn1 : 1 ≤ m.number := hN2.1
    have hn2 : m.number ≤ 1000000000 := hN2.2
    clear hN2
    by_cases h0 : m.kind = 0
    · have hk : inB m.kind 0 4 = true := by rw [h0]; rfl
      have fin3 : ∀ b : Bool, b = true ∨ b = false := fun b => by cases b <;> simp
      rcases fin3 (inB m.at_ 0 1000000) with a3 | a3
      · rcases fin3 (textB m.text) with a4 | a4
        · clear fin3
          go_enter Tryz.func47, Tryz.ntmps47
          go_wp2_with (first | (go_at_call 14; refine (l00In_c _ _ _ _).mono ?_; rintro e w' ⟨rfl, rfl⟩) | (go_at_call 68; refine (l01Member_c _ _).mono ?_; rintro e w' ⟨rfl, rfl⟩) | (go_at_call 69; refine (l01Tick_c _ _).mono ?_; rintro e w' ⟨rfl, rfl⟩) | (go_at_call 70; refine (l01IsText_c _ _ ht).mono ?_; rintro e w1 ⟨rfl, hb1⟩; have HN := hide (HB.out.trans (hb1.mono HB.out.size)); obtain ⟨hc1, hf1, hs⟩ := bcell hb1; clear hs hb1 HB; have HB := HN; clear HN))
          all_goals
            first
            | ((go_ret; refine ⟨?_, by first | exact HB.out | exact (Below.refl _ _).alloc (Nat.le_refl _) _⟩; have H0 := inB_iff.2 ⟨hn1, hn2⟩; (try simp only [Bool.not_eq_true', Bool.not_eq_false'] at *); (first | (rw [show eventB m = false from by simp [eventB, evRestB, kin0, kin1, kin2, kin3, kin4, *]]; rfl) | (rw [show eventB m = true from by simp [eventB, evRestB, kin0, kin1, kin2, kin3, kin4, *]]; rfl) | (refine ret_bool ?_; simp [eventB, evRestB, kin0, kin1, kin2, kin3, kin4, *]; done) | (refine ret_bool ?_; rw [Bool.eq_iff_iff]; simp [eventB, evRestB, kin0, kin1, kin2, kin3, kin4, *]; done) | (exfalso; simp [inB] at *; omega))))
            | (((refine wp_region_calm (by kernel_rfl) (by kernel_rfl) ?_; (repeat (first | go_big_quiet_skip | (go_big_quiet_want; go_big_quiet_op; (first | go_big_quiet_on | (apply Exists.intro; refine ⟨fun ic => ?_, ?_⟩; (focus (first | (go_at_call 14; refine (l00In_c _ _ _ _).mono ?_; rintro e w2 ⟨rfl, rfl⟩; (try rw [a3]); exact ⟨rfl, Calm.same _⟩) | (go_at_call 69; refine (l01Tick_c _ _).mono ?_; rintro e w2 ⟨rfl, rfl⟩; (try rw [a3]); exact ⟨rfl, Calm.same _⟩) | (go_at_call 70; refine (l01IsText_c _ _ ht).mono ?_; rintro e w2 ⟨rfl, hb⟩; (try rw [a4]); exact ⟨rfl, Calm.next _ hb⟩); done)); go_big_quiet_on))))); refine wpQuiet_nil ?_; intro wq hwq; obtain ⟨iq, hwe⟩ := hwq; subst hwe); have HN := hide (HB.out.trans (iq.below.mono HB.out.size)); clear HB; have HB := HN; clear HN; have hz := iq.size; go_wp2_with fail); (go_ret; refine ⟨?_, by first | exact HB.out | exact (Below.refl _ _).alloc (Nat.le_refl _) _⟩; have H0 := inB_iff.2 ⟨hn1, hn2⟩; (try simp only [Bool.not_eq_true', Bool.not_eq_false'] at *); (first | (rw [show eventB m = false from by simp [eventB, evRestB, kin0, kin1, kin2, kin3, kin4, *]]; rfl) | (rw [show eventB m = true from by simp [eventB, evRestB, kin0, kin1, kin2, kin3, kin4, *]]; rfl) | (refine ret_bool ?_; simp [eventB, evRestB, kin0, kin1, kin2, kin3, kin4, *]; done) | (refine ret_bool ?_; rw [Bool.eq_iff_iff]; simp [eventB, evRestB, kin0, kin1, kin2, kin3, kin4, *]; done) | (exfalso; simp [inB] at *; omega))))
        · clear fin3
          go_enter Tryz.func47, Tryz.ntmps47
          go_wp2_with (first | (go_at_call 14; refine (l00In_c _ _ _ _).mono ?_; rintro e w' ⟨rfl, rfl⟩) | (go_at_call 68; refine (l01Member_c _ _).mono ?_; rintro e w' ⟨rfl, rfl⟩) | (go_at_call 69; refine (l01Tick_c _ _).mono ?_; rintro e w' ⟨rfl, rfl⟩) | (go_at_call 70; refine (l01IsText_c _ _ ht).mono ?_; rintro e w1 ⟨rfl, hb1⟩; have HN := hide (HB.out.trans (hb1.mono HB.out.size)); obtain ⟨hc1, hf1, hs⟩ := bcell hb1; clear hs hb1 HB; have HB := HN; clear HN))
          all_goals
            first
            | ((go_ret; refine ⟨?_, by first | exact HB.out | exact (Below.refl _ _).alloc (Nat.le_refl _) _⟩; have H0 := inB_iff.2 ⟨hn1, hn2⟩; (try simp only [Bool.not_eq_true', Bool.not_eq_false'] at *); (first | (rw [show eventB m = false from by simp [eventB, evRestB, kin0, kin1, kin2, kin3, kin4, *]]; rfl) | (rw [show eventB m = true from by simp [eventB, evRestB, kin0, kin1, kin2, kin3, kin4, *]]; rfl) | (refine ret_bool ?_; simp [eventB, evRestB, kin0, kin1, kin2, kin3, kin4, *]; done) | (refine ret_bool ?_; rw [Bool.eq_iff_iff]; simp [eventB, evRestB, kin0, kin1, kin2, kin3, kin4, *]; done) | (exfalso; simp [inB] at *; omega))))
            | (((refine wp_region_calm (by kernel_rfl) (by kernel_rfl) ?_; (repeat (first | go_big_quiet_skip | (go_big_quiet_want; go_big_quiet_op; (first | go_big_quiet_on | (apply Exists.intro; refine ⟨fun ic => ?_, ?_⟩; (focus (first | (go_at_call 14; refine (l00In_c _ _ _ _).mono ?_; rintro e w2 ⟨rfl, rfl⟩; (try rw [a3]); exact ⟨rfl, Calm.same _⟩) | (go_at_call 69; refine (l01Tick_c _ _).mono ?_; rintro e w2 ⟨rfl, rfl⟩; (try rw [a3]); exact ⟨rfl, Calm.same _⟩) | (go_at_call 70; refine (l01IsText_c _ _ ht).mono ?_; rintro e w2 ⟨rfl, hb⟩; (try rw [a4]); exact ⟨rfl, Calm.next _ hb⟩); done)); go_big_quiet_on))))); refine wpQuiet_nil ?_; intro wq hwq; obtain ⟨iq, hwe⟩ := hwq; subst hwe); have HN := hide (HB.out.trans (iq.below.mono HB.out.size)); clear HB; have HB := HN; clear HN; have hz := iq.size; go_wp2_with fail); (go_ret; refine ⟨?_, by first | exact HB.out | exact (Below.refl _ _).alloc (Nat.le_refl _) _⟩; have H0 := inB_iff.2 ⟨hn1, hn2⟩; (try simp only [Bool.not_eq_true', Bool.not_eq_false'] at *); (first | (rw [show eventB m = false from by simp [eventB, evRestB, kin0, kin1, kin2, kin3, kin4, *]]; rfl) | (rw [show eventB m = true from by simp [eventB, evRestB, kin0, kin1, kin2, kin3, kin4, *]]; rfl) | (refine ret_bool ?_; simp [eventB, evRestB, kin0, kin1, kin2, kin3, kin4, *]; done) | (refine ret_bool ?_; rw [Bool.eq_iff_iff]; simp [eventB, evRestB, kin0, kin1, kin2, kin3, kin4, *]; done) | (exfalso; simp [inB] at *; omega))))
      · clear fin3
        go_enter Tryz.func47, Tryz.ntmps47
        go_wp2_with (first | (go_at_call 14; refine (l00In_c _ _ _ _).mono ?_; rintro e w' ⟨rfl, rfl⟩) | (go_at_call 68; refine (l01Member_c _ _).mono ?_; rintro e w' ⟨rfl, rfl⟩) | (go_at_call 69; refine (l01Tick_c _ _).mono ?_; rintro e w' ⟨rfl, rfl⟩) | (go_at_call 70; refine (l01IsText_c _ _ ht).mono ?_; rintro e w1 ⟨rfl, hb1⟩; have HN := hide (HB.out.trans (hb1.mono HB.out.size)); obtain ⟨hc1, hf1, hs⟩ := bcell hb1; clear hs hb1 HB; have HB := HN; clear HN))
        all_goals
          first
          | ((go_ret; refine ⟨?_, by first | exact HB.out | exact (Below.refl _ _).alloc (Nat.le_refl _) _⟩; have H0 := inB_iff.2 ⟨hn1, hn2⟩; (try simp only [Bool.not_eq_true', Bool.not_eq_false'] at *); (first | (rw [show eventB m = false from by simp [eventB, evRestB, kin0, kin1, kin2, kin3, kin4, *]]; rfl) | (rw [show eventB m = true from by simp [eventB, evRestB, kin0, kin1, kin2, kin3, kin4, *]]; rfl) | (refine ret_bool ?_; simp [eventB, evRestB, kin0, kin1, kin2, kin3, kin4, *]; done) | (refine ret_bool ?_; rw [Bool.eq_iff_iff]; simp [eventB, evRestB, kin0, kin1, kin2, kin3, kin4, *]; done) | (exfalso; simp [inB] at *; omega))))
          | (((refine wp_region_calm (by kernel_rfl) (by kernel_rfl) ?_; (repeat (first | go_big_quiet_skip | (go_big_quiet_want; go_big_quiet_op; (first | go_big_quiet_on | (apply Exists.intro; refine ⟨fun ic => ?_, ?_⟩; (focus (first | (go_at_call 14; refine (l00In_c _ _ _ _).mono ?_; rintro e w2 ⟨rfl, rfl⟩; (try rw [a3]); exact ⟨rfl, Calm.same _⟩) | (go_at_call 69; refine (l01Tick_c _ _).mono ?_; rintro e w2 ⟨rfl, rfl⟩; (try rw [a3]); exact ⟨rfl, Calm.same _⟩) | (go_at_call 70; refine (l01IsText_c _ _ ht).mono ?_; rintro e w2 ⟨rfl, hb⟩; (try rw [a4]); exact ⟨rfl, Calm.next _ hb⟩); done)); go_big_quiet_on))))); refine wpQuiet_nil ?_; intro wq hwq; obtain ⟨iq, hwe⟩ := hwq; subst hwe); have HN := hide (HB.out.trans (iq.below.mono HB.out.size)); clear HB; have HB := HN; clear HN; have hz := iq.size; go_wp2_with fail); (go_ret; refine ⟨?_, by first | exact HB.out | exact (Below.refl _ _).alloc (Nat.le_refl _) _⟩; have H0 := inB_iff.2 ⟨hn1, hn2⟩; (try simp only [Bool.not_eq_true', Bool.not_eq_false'] at *); (first | (rw [show eventB m = false from by simp [eventB, evRestB, kin0, kin1, kin2, kin3, kin4, *]]; rfl) | (rw [show eventB m = true from by simp [eventB, evRestB, kin0, kin1, kin2, kin3, kin4, *]]; rfl) | (refine ret_bool ?_; simp [eventB, evRestB, kin0, kin1, kin2, kin3, kin4, *]; done) | (refine ret_bool ?_; rw [Bool.eq_iff_iff]; simp [eventB, evRestB, kin0, kin1, kin2, kin3, kin4, *]; done) | (exfalso; simp [inB] at *; omega))))
    · by_cases h1 : m.kind = 1
      · have hk : inB m.kind 0 4 = true := by rw [h1]; rfl
        go_enter Tryz.func47, Tryz.ntmps47
        go_wp2_with (first | (go_at_call 14; refine (l00In_c _ _ _ _).mono ?_; rintro e w' ⟨rfl, rfl⟩) | (go_at_call 68; refine (l01Member_c _ _).mono ?_; rintro e w' ⟨rfl, rfl⟩) | (go_at_call 69; refine (l01Tick_c _ _).mono ?_; rintro e w' ⟨rfl, rfl⟩) | (go_at_call 70; refine (l01IsText_c _ _ ht).mono ?_; rintro e w1 ⟨rfl, hb1⟩; have HN := hide (HB.out.trans (hb1.mono HB.out.size)); obtain ⟨hc1, hf1, hs⟩ := bcell hb1; clear hs hb1 HB; have HB := HN; clear HN))
        all_goals (go_ret; refine ⟨?_, by first | exact HB.out | exact (Below.refl _ _).alloc (Nat.le_refl _) _⟩; have H0 := inB_iff.2 ⟨hn1, hn2⟩; (try simp only [Bool.not_eq_true', Bool.not_eq_false'] at *); (first | (rw [show eventB m = false from by simp [eventB, evRestB, kin0, kin1, kin2, kin3, kin4, *]]; rfl) | (rw [show eventB m = true from by simp [eventB, evRestB, kin0, kin1, kin2, kin3, kin4, *]]; rfl) | (refine ret_bool ?_; simp [eventB, evRestB, kin0, kin1, kin2, kin3, kin4, *]; done) | (refine ret_bool ?_; rw [Bool.eq_iff_iff]; simp [eventB, evRestB, kin0, kin1, kin2, kin3, kin4, *]; done) | (exfalso; simp [inB] at *; omega)))
      · by_cases hk : inB m.kind 0 4 = true
        · have hk2 := inB_iff.1 hk
          have h234 : m.kind = 2 ∨ m.kind = 3 ∨ m.kind = 4 := by omega
          clear hk2
          rcases h234 with h2 | h2 | h2
          all_goals
            go_enter Tryz.func47, Tryz.ntmps47
            go_wp2_with (first | (go_at_call 14; refine (l00In_c _ _ _ _).mono ?_; rintro e w' ⟨rfl, rfl⟩) | (go_at_call 68; refine (l01Member_c _ _).mono ?_; rintro e w' ⟨rfl, rfl⟩) | (go_at_call 69; refine (l01Tick_c _ _).mono ?_; rintro e w' ⟨rfl, rfl⟩) | (go_at_call 70; refine (l01IsText_c _ _ ht).mono ?_; rintro e w1 ⟨rfl, hb1⟩; have HN := hide (HB.out.trans (hb1.mono HB.out.size)); obtain ⟨hc1, hf1, hs⟩ := bcell hb1; clear hs hb1 HB; have HB := HN; clear HN))
            all_goals (go_ret; refine ⟨?_, by first | exact HB.out | exact (Below.refl _ _).alloc (Nat.le_refl _) _⟩; have H0 := inB_iff.2 ⟨hn1, hn2⟩; (try simp only [Bool.not_eq_true', Bool.not_eq_false'] at *); (first | (rw [show eventB m = false from by simp [eventB, evRestB, kin0, kin1, kin2, kin3, kin4, *]]; rfl) | (rw [show eventB m = true from by simp [eventB, evRestB, kin0, kin1, kin2, kin3, kin4, *]]; rfl) | (refine ret_bool ?_; simp [eventB, evRestB, kin0, kin1, kin2, kin3, kin4, *]; done) | (refine ret_bool ?_; rw [Bool.eq_iff_iff]; simp [eventB, evRestB, kin0, kin1, kin2, kin3, kin4, *]; done) | (exfalso; simp [inB] at *; omega)))
        · have hk' : inB m.kind 0 4 = false := by simpa using hk
          have h2 : ¬ m.kind = 2 := fun h => by rw [h] at hk; exact hk rfl
          have h3 : ¬ m.kind = 3 := fun h => by rw [h] at hk; exact hk rfl
          have h4 : ¬ m.kind = 4 := fun h => by rw [h] at hk; exact hk rfl
          have hr : eventB m = false := by simp [eventB, hk']
          have HR := hide hr
          clear hk hk' hr
          go_enter Tryz.func47, Tryz.ntmps47
          go_wp2_with (first | (go_at_call 14; refine (l00In_c _ _ _ _).mono ?_; rintro e w' ⟨rfl, rfl⟩) | (go_at_call 68; refine (l01Member_c _ _).mono ?_; rintro e w' ⟨rfl, rfl⟩) | (go_at_call 69; refine (l01Tick_c _ _).mono ?_; rintro e w' ⟨rfl, rfl⟩) | (go_at_call 70; refine (l01IsText_c _ _ ht).mono ?_; rintro e w1 ⟨rfl, hb1⟩; have HN := hide (HB.out.trans (hb1.mono HB.out.size)); obtain ⟨hc1, hf1, hs⟩ := bcell hb1; clear hs hb1 HB; have HB := HN; clear HN))
          all_goals
            go_ret
            exact ⟨by rw [HR.out]; rfl, HB.out⟩
  · have hNf : inB m.number 1 1000000000 = false := by simpa using hN
    have hr : eventB m = false := by simp [eventB, hNf]
    have HR := hide hr
    clear hN hr
    go_enter Tryz.func47, Tryz.ntmps47
    go_wp2_with (first | (go_at_call 14; refine (l00In_c _ _ _ _).mono ?_; rintro e w' ⟨rfl, rfl⟩) | (go_at_call 68; refine (l01Member_c _ _).mono ?_; rintro e w' ⟨rfl, rfl⟩) | (go_at_call 69; refine (l01Tick_c _ _).mono ?_; rintro e w' ⟨rfl, rfl⟩) | (go_at_call 70; refine (l01IsText_c _ _ ht).mono ?_; rintro e w1 ⟨rfl, hb1⟩; have HN := hide (HB.out.trans (hb1.mono HB.out.size)); obtain ⟨hc1, hf1, hs⟩ := bcell hb1; clear hs hb1 HB; have HB := HN; clear HN))
    all_goals
      go_ret
      exact ⟨by rw [HR.out]; rfl, HB.out⟩
theorem eventsOk1_c (m : Event) (W : World) (ht : m.text.size ≤ 9223372036854775807) : Calls Tryz.prog 55 (#[.agg #[.int .i64 m.kind, .int .i64 m.number, .int .i64 m.member, .int .i64 m.at_, .string m.text, .int .i64 m.reply]] ++ #[]) W fun e W' => e = .returned (.bool (!eventB m)) ∧ Below W.heap.size W W' := by
  show Calls Tryz.prog 55 #[.agg #[.int .i64 m.kind, .int .i64 m.number, .int .i64 m.member, .int .i64 m.at_, .string m.text, .int .i64 m.reply]] W _
  have HT := hide ht
  clear ht
  go_enter Tryz.func55, Tryz.ntmps55
  go_wp2_with (go_at_call 56; refine (validEvent_c m _ HT.out).mono ?_; rintro e w1 ⟨rfl, hb1⟩; have HN := hide (((Below.refl W.heap.size W).alloc (Nat.le_refl _) _).trans (hb1.mono (by simp))); clear hb1)
  go_ret
  exact ⟨rfl, HN.out⟩
set_option maxHeartbeats 4000000 in
theorem indexEvent_c (g : Nat) (caps : Array Value) (p : Event → Bool) (ms : List Event) (v : Value) (w : World) (hm : SliceK eventD w v ms)
    (eg : ∀ args w, (callFunc g args).run Tryz.prog w = .ok (.enter g args) w)
    (hc : ∀ (m : Event), m ∈ ms → ∀ (W : World), Below w.heap.size w W → Calls Tryz.prog g (#[.agg #[.int .i64 m.kind, .int .i64 m.number, .int .i64 m.member, .int .i64 m.at_, .string m.text, .int .i64 m.reply]] ++ caps) W fun e W' => e = .returned (.bool (p m)) ∧ Below W.heap.size W W') :
    Calls Tryz.prog 78 #[v, .func (.func g) #[] caps] w fun e w' => e = .returned (.int .i64 (idxP p ms)) ∧ Below w.heap.size w w' := by
  obtain ⟨A, c, rfl, hl, hmx, hra⟩ := hm
  have HA := hide hra
  have HC := hide hc
  clear hra hc
  go_enter Tryz.func78, Tryz.ntmps78
  go_wp2_with fail
  go_loopg [8] ms.length (fun gg s8 wr => ∃ k : Nat, k ≤ ms.length ∧ ms.length - k ≤ gg ∧ s8 = .int .i64 k ∧ Hid (∀ j y, j < k → ms[j]? = some y → p y = false) ∧ Hid (Below w.heap.size w wr))
  case atStart => exact ⟨0, Nat.zero_le _, by omega, rfl, hide (by intro j y hj; omega), Below.refl _ _⟩
  case round =>
    obtain ⟨k, hk, hg, rfl, HT, HB⟩ := hrel
    by_cases hlt : k < ms.length
    · obtain ⟨m, hx⟩ : ∃ m, ms[k]? = some m := ⟨_, List.getElem?_eq_getElem hlt⟩
      rcases HA.out with hnil | ⟨q, o2, rfl, hra⟩
      · rw [hnil] at hlt; simp at hlt
      obtain ⟨hq, hc0, hc1, hc2, hc3, hc4, hc5⟩ := event_at hra HB.out hx
      have HX := hide hx
      have hlt2 : (k : Int) < (ms.length : Int) := by omega
      clear hx hra HA
      by_cases hpm : p m = true
      · have HPM := hide hpm
        clear hpm
        go_wp2_with (first
          | (go_at_fn g
             refine (HC.out m (List.mem_of_getElem? HX.out) _ HB.out).mono ?_
             rintro e w1 ⟨rfl, hb⟩
             rw [HPM.out]
             have HN := hide (HB.out.trans (hb.mono HB.out.size))
             clear hb))
        go_ret
        exact ⟨by rw [idxP_hit HT.out HX.out HPM.out]; rfl, HN.out⟩
      · have HPM := hide (show p m = false by simpa using hpm)
        clear hpm
        go_wp2_with (first
          | (go_at_fn g
             refine (HC.out m (List.mem_of_getElem? HX.out) _ HB.out).mono ?_
             rintro e w1 ⟨rfl, hb⟩
             rw [HPM.out]
             have HN := hide (HB.out.trans (hb.mono HB.out.size))
             clear hb))
        go_roundg (ms.length - (k + 1))
        case measure => omega
        case rel => exact ⟨k + 1, by omega, by omega, by go_num, hide (idxP_step HT.out HX.out HPM.out), HN⟩
    · have : k = ms.length := by omega
      subst this
      have hr := hide (idxP_miss HT.out)
      clear HA HC
      go_wp2_with fail
      go_ret
      exact ⟨by rw [hr.out]; rfl, HB.out⟩

set_option maxHeartbeats 4000000 in
theorem containsEvent_c (g : Nat) (caps : Array Value) (p : Event → Bool) (ms : List Event) (v : Value) (w : World) (hm : SliceK eventD w v ms)
    (eg : ∀ args w, (callFunc g args).run Tryz.prog w = .ok (.enter g args) w)
    (hc : ∀ (m : Event), m ∈ ms → ∀ (W : World), Below w.heap.size w W → Calls Tryz.prog g (#[.agg #[.int .i64 m.kind, .int .i64 m.number, .int .i64 m.member, .int .i64 m.at_, .string m.text, .int .i64 m.reply]] ++ caps) W fun e W' => e = .returned (.bool (p m)) ∧ Below W.heap.size W W') :
    Calls Tryz.prog 54 #[v, .func (.func g) #[] caps] w fun e w' => e = .returned (.bool (decide (0 ≤ idxP p ms))) ∧ Below w.heap.size w w' := by
  obtain ⟨A, c, rfl⟩ := hm.shape
  have HM := hide hm
  have HC := hide hc
  clear hm hc
  go_enter Tryz.func54, Tryz.ntmps54
  go_wp2_with (go_at_call 78
               refine (indexEvent_c g caps p ms _ _ HM.out eg HC.out).mono ?_
               rintro e w1 ⟨rfl, hb⟩
               have HN := hide hb
               clear hb)
  go_ret
  exact ⟨rfl, HN.out⟩

def okEvents (es : List Event) : Prop := ∀ e ∈ es, e.text.size ≤ 9223372036854775807
set_option maxHeartbeats 1000000 in
theorem eventsOk_c (es : List Event) (v : Value) (w : World) (h : SliceK eventD w v es) (ht : okEvents es) : Calls Tryz.prog 36 #[v] w fun e w' => e = .returned (.bool (eventsB es)) ∧ Below w.heap.size w w' := by
  obtain ⟨A, c, rfl⟩ := h.shape
  have H := hide h
  have HT := hide ht
  clear h ht
  have eg := enters_of Tryz.func55 (by kernel_rfl) rfl
  have HX := hide (show (!es.any fun m => !eventB m) = es.all eventB by rw [List.not_any_eq_all_not]; simp)
  by_cases hl : (es.length : Int) ≤ 60
  · have HE := hide (show eventsB es = es.all eventB by simp [eventsB, hl])
    go_enter Tryz.func36, Tryz.ntmps36
    go_wp2_with (
      go_at_call 54
      refine (containsEvent_c _ #[] (fun m => !eventB m) es _ _ H.out eg (fun m hm W _ => eventsOk1_c m W (HT.out m hm))).mono ?_
      rintro e w1 ⟨rfl, hb1⟩
      rw [idx_any]
      have HN := hide hb1
      clear hb1)
    go_ret
    exact ⟨by rw [HE.out, ← HX.out]; rfl, HN.out⟩
  · have HE := hide (show eventsB es = false by simp [eventsB, hl])
    go_enter Tryz.func36, Tryz.ntmps36
    go_wp2_with fail
    go_ret
    exact ⟨by rw [HE.out]; rfl, Below.refl _ _⟩
set_option maxHeartbeats 1000000 in
theorem l07Events_c (es : List Event) (v : Value) (w : World) (h : SliceK eventD w v es) (ht : okEvents es) : Calls Tryz.prog 31 #[v] w fun e w' => e = .returned (.bool (eventsB es)) ∧ Below w.heap.size w w' := by
  obtain ⟨A, c, rfl, hl, hmx, hra⟩ := h
  have HA := hide hra
  have HT := hide ht
  clear hra ht
  go_enter Tryz.func31, Tryz.ntmps31
  go_wp2_with fail
  go_loopg [6] es.length (fun gg s8 wr => ∃ k : Nat, k ≤ es.length ∧ es.length - k ≤ gg ∧ s8 = .int .i64 k ∧ Hid (∀ j y, j < k → es[j]? = some y → eventB y = true) ∧ Hid (Below w.heap.size w wr))
  case atStart => exact ⟨0, Nat.zero_le _, by omega, rfl, hide (by intro j y hj; omega), Below.refl _ _⟩
  case round =>
    obtain ⟨k, hk, hg, rfl, HV, HB⟩ := hrel
    by_cases hlt : k < es.length
    · obtain ⟨m, hx⟩ : ∃ m, es[k]? = some m := ⟨_, List.getElem?_eq_getElem hlt⟩
      rcases HA.out with hnil | ⟨q, o2, rfl, hra⟩
      · rw [hnil] at hlt; simp at hlt
      have HP := hide (hra.ptr hx)
      have HM := hide (HT.out m (List.mem_of_getElem? hx))
      have HX := hide hx
      have hlt2 : (k : Int) < (es.length : Int) := by omega
      clear hx hra HA
      by_cases hv : eventB m = true
      · have HVM := hide hv
        clear hv
        go_wp2_with (go_at_call 47; refine (l07Event_c m _ _ _ (HP.out.below HB.out) HM.out).mono ?_; rintro e w1 ⟨rfl, hb⟩; rw [HVM.out]; have HN := hide (HB.out.trans (hb.mono HB.out.size)); clear hb)
        go_roundg (es.length - (k + 1))
        case measure => omega
        case rel => exact ⟨k + 1, by omega, by omega, by go_num, hide (fun j y hj hy => by
          by_cases e : j = k
          · subst e; rw [HX.out] at hy; cases hy; exact HVM.out
          · exact HV.out j y (by omega) hy), HN⟩
      · have HVM := hide (show eventB m = false by simpa using hv)
        clear hv
        have HR := hide (show eventsB es = false by
          unfold eventsB
          rw [Bool.and_eq_false_iff]; right
          rw [List.all_eq_false]; exact ⟨m, List.mem_of_getElem? HX.out, by rw [HVM.out]; simp⟩)
        go_wp2_with (go_at_call 47; refine (l07Event_c m _ _ _ (HP.out.below HB.out) HM.out).mono ?_; rintro e w1 ⟨rfl, hb⟩; rw [HVM.out]; have HN := hide (HB.out.trans (hb.mono HB.out.size)); clear hb)
        go_ret
        exact ⟨by rw [HR.out]; rfl, HN.out⟩
    · have : k = es.length := by omega
      subst this
      have HR := hide (show eventsB es = decide ((es.length : Int) ≤ 60) by
        unfold eventsB
        rw [List.all_eq_true.2 fun x hx => by obtain ⟨j, hj⟩ := List.getElem?_of_mem hx; exact HV.out j x (List.getElem?_eq_some_iff.1 hj).1 hj, Bool.and_true])
      clear HA HT
      go_wp2_with fail
      go_ret
      exact ⟨by rw [HR.out]; rfl, HB.out⟩
end Go.Proofs.YtodmongmaoeknaaGreat
