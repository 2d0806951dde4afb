/- Numbers, texts and sets: the smallest functions of the program and of the reference. -/
import Derived.Test.YtccgjnanphonnaaProg
import Derived.Test.YtccgjnanphonnaaBase
import Derived.Test.YtccgjnanphonnaaRow
namespace Go.Proofs.Ytccgjnanphonnaa
open Go Go.RowKit
set_option linter.unusedVariables false
set_option linter.unusedSimpArgs false

/-! ### plain words -/
def inB (n lo hi : Int) : Bool := decide (lo ≤ n) && decide (n ≤ hi)
theorem inB_iff {n lo hi : Int} : inB n lo hi = true ↔ lo ≤ n ∧ n ≤ hi := by simp [inB]
/-- What stands before place j. -/
def prevAt {α : Type} (l : List α) (j : Nat) : Option α := if j = 0 then none else l[j - 1]?
/-- A test of each element beside the one before it. -/
def adjB {α : Type} (f : α → Option α → Bool) : Option α → List α → Bool
  | _, [] => true
  | p, x :: t => f x p && adjB f (some x) t
theorem adjB_iff {α : Type} (f : α → Option α → Bool) : ∀ (l : List α) (p : Option α), adjB f p l = true ↔ ∀ j x, l[j]? = some x → f x (if j = 0 then p else l[j - 1]?) = true
  | [], p => by simp [adjB]
  | y :: t, p => by
    rw [adjB, Bool.and_eq_true, adjB_iff f t (some y)]
    constructor
    · rintro ⟨h1, h2⟩ j x hj
      cases j with
      | zero => simp at hj; subst hj; simpa using h1
      | succ j =>
        have h3 := h2 j x (by simpa using hj)
        rw [if_neg (by omega), Nat.add_sub_cancel]
        cases j with
        | zero => simpa using h3
        | succ j => rw [if_neg (by omega)] at h3; simpa using h3
    · intro h
      refine ⟨by simpa using h 0 y rfl, fun j x hj => ?_⟩
      have h3 := h (j + 1) x (by simpa using hj)
      rw [if_neg (by omega), Nat.add_sub_cancel] at h3
      cases j with
      | zero => simpa using h3
      | succ j => rw [if_neg (by omega)]; simpa using h3
theorem adj_all {α : Type} {f : α → Option α → Bool} {l : List α} (h : ∀ j x, j < l.length → l[j]? = some x → f x (prevAt l j) = true) : adjB f none l = true :=
  (adjB_iff f l none).2 fun j x hj => by simpa [prevAt] using h j x (List.getElem?_eq_some_iff.1 hj).1 hj
theorem adj_fail {α : Type} {f : α → Option α → Bool} {l : List α} {j : Nat} {x : α} (hx : l[j]? = some x) (h : f x (prevAt l j) = false) : adjB f none l = false := by
  rw [Bool.eq_false_iff]
  intro ht
  have := (adjB_iff f l none).1 ht j x hx
  unfold prevAt at h
  rw [h] at this; cases this
theorem adj_step {α : Type} {f : α → Option α → Bool} {l : List α} {k : Nat} {x : α} (h : ∀ j y, j < k → l[j]? = some y → f y (prevAt l j) = true) (hx : l[k]? = some x) (hf : f x (prevAt l k) = true) :
    ∀ j y, j < k + 1 → l[j]? = some y → f y (prevAt l j) = true := by
  intro j y hj hy
  by_cases e : j = k
  · subst e; rw [hx] at hy; cases hy; exact hf
  · exact h j y (by omega) hy
theorem prevAt_zero {α : Type} (l : List α) : prevAt l 0 = none := rfl
theorem prevAt_succ {α : Type} {l : List α} {j : Nat} {y : α} (hj : 0 < j) (h : l[j - 1]? = some y) : prevAt l j = some y := by unfold prevAt; rw [if_neg (by omega), h]
/-- Rising numbers of which p holds. -/
def riseF (p : Int → Bool) (x : Int) (q : Option Int) : Bool := p x && match q with | none => true | some y => decide (y < x)
def risesB (p : Int → Bool) (l : List Int) : Bool := adjB (riseF p) none l
/-- A text. -/
def charB (c : UInt8) : Bool := decide (32 ≤ c.toNat) && decide (c.toNat ≤ 126)
def textB (s : ByteArray) : Bool := s.data.toList.all charB && decide ((s.size : Int) ≤ 80)
theorem text_fail {s : ByteArray} {k : Nat} (hk : k < s.size) (h : charB s[k] = false) : textB s = false := by
  unfold textB
  rw [Bool.and_eq_false_iff]; left
  rw [List.all_eq_false]
  exact ⟨s[k], by rw [ByteArray.getElem_eq_getElem_data]; simp, by simp [h]⟩
theorem text_all {s : ByteArray} (h : ∀ k (hk : k < s.size), charB s[k] = true) : textB s = decide ((s.size : Int) ≤ 80) := by
  unfold textB
  rw [List.all_eq_true.2, Bool.true_and]
  intro c hc
  obtain ⟨i, hi, rfl⟩ := List.mem_iff_getElem.1 hc
  have := h i (by simpa using hi)
  rwa [ByteArray.getElem_eq_getElem_data] at this

/-! ### numbers -/
set_option maxHeartbeats 400000 in
theorem in_c (n lo hi : Int) (w : World) : Calls Try.prog 81 #[.int .i64 n, .int .i64 lo, .int .i64 hi] w fun e w' => e = .returned (.bool (inB n lo hi)) ∧ w = w' := by
  by_cases h1 : lo ≤ n
  · have hr := hide (show inB n lo hi = decide (n ≤ hi) by simp [inB, h1])
    go_enter Try.func81, Try.ntmps81
    go_wp2
    go_ret
    exact ⟨by rw [hr.out]; rfl, rfl⟩
  · have hr := hide (show inB n lo hi = false by simp [inB, h1])
    go_enter Try.func81, Try.ntmps81
    go_wp2
    go_ret
    exact ⟨by rw [hr.out]; rfl, rfl⟩
set_option maxHeartbeats 400000 in
theorem l00In_c (n lo hi : Int) (w : World) : Calls Try.prog 78 #[.int .i64 n, .int .i64 lo, .int .i64 hi] w fun e w' => e = .returned (.bool (inB n lo hi)) ∧ w = w' := by
  by_cases h1 : lo ≤ n
  · have hr := hide (show inB n lo hi = decide (n ≤ hi) by simp [inB, h1])
    go_enter Try.func78, Try.ntmps78
    go_wp2
    go_ret
    exact ⟨by rw [hr.out]; rfl, rfl⟩
  · have hr := hide (show inB n lo hi = false by simp [inB, h1])
    go_enter Try.func78, Try.ntmps78
    go_wp2
    go_ret
    exact ⟨by rw [hr.out]; rfl, rfl⟩
theorem l00In_is {n lo hi : Int} {b : Bool} (h : inB n lo hi = b) (w : World) : Calls Try.prog 78 #[.int .i64 n, .int .i64 lo, .int .i64 hi] w fun e w' => e = .returned (.bool b) ∧ w = w' := by
  subst h; exact l00In_c n lo hi w
theorem isMember_c (n : Int) (w : World) : Calls Try.prog 84 #[.int .i64 n] w fun e w' => e = .returned (.bool (inB n 1 1000)) ∧ w = w' := by
  go_enter Try.func84, Try.ntmps84
  go_wp2_with (go_at_call 81; refine (in_c _ _ _ _).mono ?_; rintro e w' ⟨rfl, rfl⟩)
  go_ret
  exact ⟨rfl, rfl⟩
theorem isTick_c (n : Int) (w : World) : Calls Try.prog 50 #[.int .i64 n] w fun e w' => e = .returned (.bool (inB n 0 1000000)) ∧ w = w' := by
  go_enter Try.func50, Try.ntmps50
  go_wp2_with (go_at_call 81; refine (in_c _ _ _ _).mono ?_; rintro e w' ⟨rfl, rfl⟩)
  go_ret
  exact ⟨rfl, rfl⟩
theorem roleOk_c (n : Int) (w : World) : Calls Try.prog 57 #[.int .i64 n] w fun e w' => e = .returned (.bool (inB n 0 3)) ∧ w = w' := by
  go_enter Try.func57, Try.ntmps57
  go_wp2_with (go_at_call 81; refine (in_c _ _ _ _).mono ?_; rintro e w' ⟨rfl, rfl⟩)
  go_ret
  exact ⟨rfl, rfl⟩
theorem l02Id_c (n : Int) (w : World) : Calls Try.prog 65 #[.int .i64 n] w fun e w' => e = .returned (.bool (inB n 1 1000)) ∧ w = w' := by
  go_enter Try.func65, Try.ntmps65
  go_wp2_with (go_at_call 78; refine (l00In_c _ _ _ _).mono ?_; rintro e w' ⟨rfl, rfl⟩)
  go_ret
  exact ⟨rfl, rfl⟩
theorem l02Tick_c (n : Int) (w : World) : Calls Try.prog 44 #[.int .i64 n] w fun e w' => e = .returned (.bool (inB n 0 1000000)) ∧ w = w' := by
  go_enter Try.func44, Try.ntmps44
  go_wp2_with (go_at_call 78; refine (l00In_c _ _ _ _).mono ?_; rintro e w' ⟨rfl, rfl⟩)
  go_ret
  exact ⟨rfl, rfl⟩
theorem l02Role_c (n : Int) (w : World) : Calls Try.prog 55 #[.int .i64 n] w fun e w' => e = .returned (.bool (inB n 0 3)) ∧ w = w' := by
  go_enter Try.func55, Try.ntmps55
  go_wp2_with (go_at_call 78; refine (l00In_c _ _ _ _).mono ?_; rintro e w' ⟨rfl, rfl⟩)
  go_ret
  exact ⟨rfl, rfl⟩
/-! ### texts -/

/-! ### lists of numbers -/
def hasB (l : List Int) (n : Int) : Bool := decide (n ∈ l)
/-- The first place of a number; -1 without one. -/
def idxI (l : List Int) (n : Int) : Int := if n ∈ l then (l.idxOf n : Int) else -1
theorem idxI_hit {l : List Int} {n : Int} {k : Nat} (h : ∀ j y, j < k → l[j]? = some y → y ≠ n) (hk : l[k]? = some n) : idxI l n = (k : Int) := by
  unfold idxI
  rw [if_pos (List.mem_of_getElem? hk)]
  congr 1
  induction l generalizing k with
  | nil => simp at hk
  | cons a l ih =>
    cases k with
    | zero => simp at hk; subst hk; simp
    | succ k =>
      have hne : a ≠ n := h 0 a (by omega) rfl
      have := ih (k := k) (fun j y hj hy => h (j + 1) y (by omega) (by simpa using hy)) (by simpa using hk)
      rw [List.idxOf_cons, this]
      rw [show (a == n) = false from beq_eq_false_iff_ne.2 hne]; rfl
theorem idxI_miss {l : List Int} {n : Int} (h : ∀ j y, j < l.length → l[j]? = some y → y ≠ n) : idxI l n = -1 := by
  unfold idxI
  rw [if_neg]
  intro hm
  obtain ⟨j, hj⟩ := List.getElem?_of_mem hm
  exact h j n (List.getElem?_eq_some_iff.1 hj).1 hj rfl
theorem idxI_nn (l : List Int) (n : Int) : decide (0 ≤ idxI l n) = hasB l n := by
  unfold idxI hasB
  by_cases h : n ∈ l
  · rw [if_pos h, decide_eq_true h, decide_eq_true (by omega)]
  · rw [if_neg h, decide_eq_false h]; rfl

end Go.Proofs.Ytccgjnanphonnaa
