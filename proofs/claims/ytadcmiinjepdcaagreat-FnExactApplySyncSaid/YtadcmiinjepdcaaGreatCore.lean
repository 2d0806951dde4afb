/- Numbers, texts and sets: the smallest functions of the program and of the reference. -/
import Derived.Test.YtadcmiinjepdcaaGreatProg
import Derived.Test.YtadcmiinjepdcaaGreatBase
import Derived.Test.YtadcmiinjepdcaaGreatRow
namespace Go.Proofs.YtadcmiinjepdcaaGreat
open Go Go.RowKit
set_option linter.unusedVariables false
set_option linter.unusedSimpArgs false

/-! ### plain words -/
def inB (n lo hi : Int) : Bool := decide (lo ≤ n) && decide (n ≤ hi)
theorem inB_iff {n lo hi : Int} : inB n lo hi = true ↔ lo ≤ n ∧ n ≤ hi := by simp [inB]
/-- What stands before place j. -/
def prevAt {α : Type} (l : List α) (j : Nat) : Option α := if j = 0 then none else l[j - 1]?
/-- A test of each element beside the one before it. -/
def adjB {α : Type} (f : α → Option α → Bool) : Option α → List α → Bool
  | _, [] => true
  | p, x :: t => f x p && adjB f (some x) t
theorem adjB_iff {α : Type} (f : α → Option α → Bool) : ∀ (l : List α) (p : Option α), adjB f p l = true ↔ ∀ j x, l[j]? = some x → f x (if j = 0 then p else l[j - 1]?) = true
  | [], p => by simp [adjB]
  | y :: t, p => by
    rw [adjB, Bool.and_eq_true, adjB_iff f t (some y)]
    constructor
    · rintro ⟨h1, h2⟩ j x hj
      cases j with
      | zero => simp at hj; subst hj; simpa using h1
      | succ j =>
        have h3 := h2 j x (by simpa using hj)
        rw [if_neg (by omega), Nat.add_sub_cancel]
        cases j with
        | zero => simpa using h3
        | succ j => rw [if_neg (by omega)] at h3; simpa using h3
    · intro h
      refine ⟨by simpa using h 0 y rfl, fun j x hj => ?_⟩
      have h3 := h (j + 1) x (by simpa using hj)
      rw [if_neg (by omega), Nat.add_sub_cancel] at h3
      cases j with
      | zero => simpa using h3
      | succ j => rw [if_neg (by omega)]; simpa using h3
theorem adj_all {α : Type} {f : α → Option α → Bool} {l : List α} (h : ∀ j x, j < l.length → l[j]? = some x → f x (prevAt l j) = true) : adjB f none l = true :=
  (adjB_iff f l none).2 fun j x hj => by simpa [prevAt] using h j x (List.getElem?_eq_some_iff.1 hj).1 hj
theorem adj_fail {α : Type} {f : α → Option α → Bool} {l : List α} {j : Nat} {x : α} (hx : l[j]? = some x) (h : f x (prevAt l j) = false) : adjB f none l = false := by
  rw [Bool.eq_false_iff]
  intro ht
  have := (adjB_iff f l none).1 ht j x hx
  unfold prevAt at h
  rw [h] at this; cases this
theorem adj_step {α : Type} {f : α → Option α → Bool} {l : List α} {k : Nat} {x : α} (h : ∀ j y, j < k → l[j]? = some y → f y (prevAt l j) = true) (hx : l[k]? = some x) (hf : f x (prevAt l k) = true) :
    ∀ j y, j < k + 1 → l[j]? = some y → f y (prevAt l j) = true := by
  intro j y hj hy
  by_cases e : j = k
  · subst e; rw [hx] at hy; cases hy; exact hf
  · exact h j y (by omega) hy
theorem prevAt_zero {α : Type} (l : List α) : prevAt l 0 = none := rfl
theorem prevAt_succ {α : Type} {l : List α} {j : Nat} {y : α} (hj : 0 < j) (h : l[j - 1]? = some y) : prevAt l j = some y := by unfold prevAt; rw [if_neg (by omega), h]
/-- Rising numbers of which p holds. -/
def riseF (p : Int → Bool) (x : Int) (q : Option Int) : Bool := p x && match q with | none => true | some y => decide (y < x)
def risesB (p : Int → Bool) (l : List Int) : Bool := adjB (riseF p) none l
/-- A text. -/
def charB (c : UInt8) : Bool := decide (32 ≤ c.toNat) && decide (c.toNat ≤ 126)
def textB (s : ByteArray) : Bool := s.data.toList.all charB && decide ((s.size : Int) ≤ 80)
theorem text_fail {s : ByteArray} {k : Nat} (hk : k < s.size) (h : charB s[k] = false) : textB s = false := by
  unfold textB
  rw [Bool.and_eq_false_iff]; left
  rw [List.all_eq_false]
  exact ⟨s[k], by rw [ByteArray.getElem_eq_getElem_data]; simp, by simp [h]⟩
theorem text_all {s : ByteArray} (h : ∀ k (hk : k < s.size), charB s[k] = true) : textB s = decide ((s.size : Int) ≤ 80) := by
  unfold textB
  rw [List.all_eq_true.2, Bool.true_and]
  intro c hc
  obtain ⟨i, hi, rfl⟩ := List.mem_iff_getElem.1 hc
  have := h i (by simpa using hi)
  rwa [ByteArray.getElem_eq_getElem_data] at this

/-! ### numbers -/
set_option maxHeartbeats 400000 in
theorem in_c (n lo hi : Int) (w : World) : Calls Tryz.prog 39 #[.int .i64 n, .int .i64 lo, .int .i64 hi] w fun e w' => e = .returned (.bool (inB n lo hi)) ∧ w = w' := by
  by_cases h1 : lo ≤ n
  · have hr := hide (show inB n lo hi = decide (n ≤ hi) by simp [inB, h1])
    go_enter Tryz.func39, Tryz.ntmps39
    go_wp2
    go_ret
    exact ⟨by rw [hr.out]; rfl, rfl⟩
  · have hr := hide (show inB n lo hi = false by simp [inB, h1])
    go_enter Tryz.func39, Tryz.ntmps39
    go_wp2
    go_ret
    exact ⟨by rw [hr.out]; rfl, rfl⟩
set_option maxHeartbeats 400000 in
theorem l00In_c (n lo hi : Int) (w : World) : Calls Tryz.prog 36 #[.int .i64 n, .int .i64 lo, .int .i64 hi] w fun e w' => e = .returned (.bool (inB n lo hi)) ∧ w = w' := by
  by_cases h1 : lo ≤ n
  · have hr := hide (show inB n lo hi = decide (n ≤ hi) by simp [inB, h1])
    go_enter Tryz.func36, Tryz.ntmps36
    go_wp2
    go_ret
    exact ⟨by rw [hr.out]; rfl, rfl⟩
  · have hr := hide (show inB n lo hi = false by simp [inB, h1])
    go_enter Tryz.func36, Tryz.ntmps36
    go_wp2
    go_ret
    exact ⟨by rw [hr.out]; rfl, rfl⟩
theorem l00In_is {n lo hi : Int} {b : Bool} (h : inB n lo hi = b) (w : World) : Calls Tryz.prog 36 #[.int .i64 n, .int .i64 lo, .int .i64 hi] w fun e w' => e = .returned (.bool b) ∧ w = w' := by
  subst h; exact l00In_c n lo hi w
theorem isMember_c (n : Int) (w : World) : Calls Tryz.prog 88 #[.int .i64 n] w fun e w' => e = .returned (.bool (inB n 1 1000)) ∧ w = w' := by
  go_enter Tryz.func88, Tryz.ntmps88
  go_wp2_with (go_at_call 39; refine (in_c _ _ _ _).mono ?_; rintro e w' ⟨rfl, rfl⟩)
  go_ret
  exact ⟨rfl, rfl⟩
theorem isTick_c (n : Int) (w : World) : Calls Tryz.prog 89 #[.int .i64 n] w fun e w' => e = .returned (.bool (inB n 0 1000000)) ∧ w = w' := by
  go_enter Tryz.func89, Tryz.ntmps89
  go_wp2_with (go_at_call 39; refine (in_c _ _ _ _).mono ?_; rintro e w' ⟨rfl, rfl⟩)
  go_ret
  exact ⟨rfl, rfl⟩
theorem l01Member_c (n : Int) (w : World) : Calls Tryz.prog 82 #[.int .i64 n] w fun e w' => e = .returned (.bool (inB n 1 1000)) ∧ w = w' := by
  go_enter Tryz.func82, Tryz.ntmps82
  go_wp2_with (go_at_call 36; refine (l00In_c _ _ _ _).mono ?_; rintro e w' ⟨rfl, rfl⟩)
  go_ret
  exact ⟨rfl, rfl⟩
theorem l01Tick_c (n : Int) (w : World) : Calls Tryz.prog 83 #[.int .i64 n] w fun e w' => e = .returned (.bool (inB n 0 1000000)) ∧ w = w' := by
  go_enter Tryz.func83, Tryz.ntmps83
  go_wp2_with (go_at_call 36; refine (l00In_c _ _ _ _).mono ?_; rintro e w' ⟨rfl, rfl⟩)
  go_ret
  exact ⟨rfl, rfl⟩
/-! ### texts -/
set_option maxHeartbeats 1000000 in
theorem isText_c (s : ByteArray) (w : World) (hs : s.size ≤ 9223372036854775807) : Calls Tryz.prog 90 #[.string s] w fun e w' => e = .returned (.bool (textB s)) ∧ Below w.heap.size w w' := by
  go_enter Tryz.func90, Tryz.ntmps90
  go_wp2
  go_loopg [6] s.size (fun gg s6 wr => ∃ k : Nat, k ≤ s.size ∧ s.size - k ≤ gg ∧ s6 = .int .i64 k ∧ Hid (∀ j (hj : j < s.size), j < k → charB s[j] = true) ∧ Hid (Below w.heap.size w wr))
  case atStart => exact ⟨0, Nat.zero_le _, by omega, rfl, hide (by intro j hj h; omega), Below.refl _ _⟩
  case round =>
    obtain ⟨k, hk, hg, rfl, HT, HB⟩ := hrel
    by_cases hlt : k < s.size
    · by_cases hc : charB s[k] = true
      · have h1 : ¬ ((s[k].toNat : Int) < 32) := by simp [charB] at hc; omega
        have h2 : ¬ ((126 : Int) < (s[k].toNat : Int)) := by simp [charB] at hc; omega
        have HC := hide hc
        clear hc
        go_wp2
        all_goals try go_quiet (fail)
        all_goals go_wp2
        go_roundg (s.size - (k + 1))
        case measure => omega
        case rel =>
          exact ⟨k + 1, by omega, by omega, by go_num, hide (fun j hj h => by
            by_cases e : j = k
            · subst e; exact HC.out
            · exact HT.out j hj (by omega)), by first | exact HB | exact hide (below_drewN HB.out _)⟩
      · have hcf : charB s[k] = false := by simpa using hc
        have HC := hide hcf
        by_cases h1 : (s[k].toNat : Int) < 32
        · clear hc hcf
          go_wp2
          all_goals try go_quiet (fail)
          all_goals go_wp2
          all_goals go_ret
          exact ⟨by rw [text_fail hlt HC.out]; rfl, by first | exact HB.out | exact below_drewN HB.out _⟩
        · have h2 : (126 : Int) < (s[k].toNat : Int) := by simp [charB] at hc; omega
          clear hc hcf
          go_wp2
          all_goals try go_quiet (fail)
          all_goals go_wp2
          all_goals go_ret
          exact ⟨by rw [text_fail hlt HC.out]; rfl, by first | exact HB.out | exact below_drewN HB.out _⟩
    · have : k = s.size := by omega
      subst this
      have hr := hide (text_all fun j hj => HT.out j hj hj)
      go_wp2
      go_ret
      refine ⟨?_, HB.out⟩
      rw [hr.out]
      rfl
set_option maxHeartbeats 1000000 in
theorem l01IsText_c (s : ByteArray) (w : World) (hs : s.size ≤ 9223372036854775807) : Calls Tryz.prog 84 #[.string s] w fun e w' => e = .returned (.bool (textB s)) ∧ Below w.heap.size w w' := by
  go_enter Tryz.func84, Tryz.ntmps84
  go_wp2
  go_loopg [3] s.size (fun gg s6 wr => ∃ k : Nat, k ≤ s.size ∧ s.size - k ≤ gg ∧ s6 = .int .i64 k ∧ Hid (∀ j (hj : j < s.size), j < k → charB s[j] = true) ∧ Hid (Below w.heap.size w wr))
  case atStart => exact ⟨0, Nat.zero_le _, by omega, rfl, hide (by intro j hj h; omega), Below.refl _ _⟩
  case round =>
    obtain ⟨k, hk, hg, rfl, HT, HB⟩ := hrel
    by_cases hlt : k < s.size
    · by_cases hc : charB s[k] = true
      · have h1 : ¬ ((s[k].toNat : Int) < 32) := by simp [charB] at hc; omega
        have h2 : ¬ ((126 : Int) < (s[k].toNat : Int)) := by simp [charB] at hc; omega
        have HC := hide hc
        clear hc
        go_wp2
        all_goals try go_quiet (fail)
        all_goals go_wp2
        go_roundg (s.size - (k + 1))
        case measure => omega
        case rel =>
          exact ⟨k + 1, by omega, by omega, by go_num, hide (fun j hj h => by
            by_cases e : j = k
            · subst e; exact HC.out
            · exact HT.out j hj (by omega)), by first | exact HB | exact hide (below_drewN HB.out _)⟩
      · have hcf : charB s[k] = false := by simpa using hc
        have HC := hide hcf
        by_cases h1 : (s[k].toNat : Int) < 32
        · clear hc hcf
          go_wp2
          all_goals try go_quiet (fail)
          all_goals go_wp2
          all_goals go_ret
          exact ⟨by rw [text_fail hlt HC.out]; rfl, by first | exact HB.out | exact below_drewN HB.out _⟩
        · have h2 : (126 : Int) < (s[k].toNat : Int) := by simp [charB] at hc; omega
          clear hc hcf
          go_wp2
          all_goals try go_quiet (fail)
          all_goals go_wp2
          all_goals go_ret
          exact ⟨by rw [text_fail hlt HC.out]; rfl, by first | exact HB.out | exact below_drewN HB.out _⟩
    · have : k = s.size := by omega
      subst this
      have hr := hide (text_all fun j hj => HT.out j hj hj)
      go_wp2
      go_ret
      refine ⟨?_, HB.out⟩
      rw [hr.out]
      rfl

/-! ### lists of numbers -/
def hasB (l : List Int) (n : Int) : Bool := decide (n ∈ l)
/-- The first place of a number; -1 without one. -/
def idxI (l : List Int) (n : Int) : Int := if n ∈ l then (l.idxOf n : Int) else -1
theorem idxI_hit {l : List Int} {n : Int} {k : Nat} (h : ∀ j y, j < k → l[j]? = some y → y ≠ n) (hk : l[k]? = some n) : idxI l n = (k : Int) := by
  unfold idxI
  rw [if_pos (List.mem_of_getElem? hk)]
  congr 1
  induction l generalizing k with
  | nil => simp at hk
  | cons a l ih =>
    cases k with
    | zero => simp at hk; subst hk; simp
    | succ k =>
      have hne : a ≠ n := h 0 a (by omega) rfl
      have := ih (k := k) (fun j y hj hy => h (j + 1) y (by omega) (by simpa using hy)) (by simpa using hk)
      rw [List.idxOf_cons, this]
      rw [show (a == n) = false from beq_eq_false_iff_ne.2 hne]; rfl
theorem idxI_miss {l : List Int} {n : Int} (h : ∀ j y, j < l.length → l[j]? = some y → y ≠ n) : idxI l n = -1 := by
  unfold idxI
  rw [if_neg]
  intro hm
  obtain ⟨j, hj⟩ := List.getElem?_of_mem hm
  exact h j n (List.getElem?_eq_some_iff.1 hj).1 hj rfl
theorem idxI_nn (l : List Int) (n : Int) : decide (0 ≤ idxI l n) = hasB l n := by
  unfold idxI hasB
  by_cases h : n ∈ l
  · rw [if_pos h, decide_eq_true h, decide_eq_true (by omega)]
  · rw [if_neg h, decide_eq_false h]; rfl
set_option maxHeartbeats 1000000 in
theorem index_c (v : Value) (l : List Int) (n : Int) (w : World) (h : SliceK intD w v l) : Calls Tryz.prog 109 #[v, .int .i64 n] w fun e w' => e = .returned (.int .i64 (idxI l n)) ∧ Below w.heap.size w w' := by
  obtain ⟨A, c, rfl, hl, hm, hra⟩ := h
  have HA := hide hra
  clear hra
  go_enter Tryz.func109, Tryz.ntmps109
  go_wp2
  go_loopg [8] l.length (fun gg s6 wr => ∃ k : Nat, k ≤ l.length ∧ l.length - k ≤ gg ∧ s6 = .int .i64 k ∧ Hid (∀ j y, j < k → l[j]? = some y → y ≠ n) ∧ Hid (Below w.heap.size w wr))
  case atStart => exact ⟨0, Nat.zero_le _, by omega, rfl, hide (by intro j y hj; omega), Below.refl _ _⟩
  case round =>
    obtain ⟨k, hk, hg, rfl, HT, HB⟩ := hrel
    by_cases hlt : k < l.length
    · obtain ⟨x, hx⟩ : ∃ x, l[k]? = some x := ⟨_, List.getElem?_eq_getElem hlt⟩
      rcases HA.out with rfl | ⟨p, o, rfl, hra⟩
      · simp at hlt
      obtain ⟨hp, hc⟩ := int_at hra HB.out hx
      have HX := hide hx
      clear hx hra HA
      by_cases hxn : x = n
      · subst hxn
        go_wp2
        all_goals go_ret
        exact ⟨by rw [idxI_hit HT.out HX.out]; rfl, HB.out⟩
      · have hne : (n == x) = false := beq_eq_false_iff_ne.2 (Ne.symm hxn)
        have HNE := hide hxn
        clear hxn
        go_wp2
        go_roundg (l.length - (k + 1))
        case measure => omega
        case rel =>
          exact ⟨k + 1, by omega, by omega, by go_num, hide (fun j y hj hy => by
            by_cases e : j = k
            · subst e; rw [HX.out] at hy; cases hy; exact HNE.out
            · exact HT.out j y (by omega) hy), HB⟩
    · have : k = l.length := by omega
      subst this
      have hr := hide (idxI_miss HT.out)
      go_wp2
      go_ret
      exact ⟨by rw [hr.out]; rfl, HB.out⟩
theorem contains_c (v : Value) (l : List Int) (n : Int) (w : World) (h : SliceK intD w v l) : Calls Tryz.prog 92 #[v, .int .i64 n] w fun e w' => e = .returned (.bool (hasB l n)) ∧ Below w.heap.size w w' := by
  have hr := hide (idxI_nn l n)
  have H := hide h
  clear h
  go_enter Tryz.func92, Tryz.ntmps92
  go_wp2_with (go_at_call 109; refine (index_c _ l _ _ H.out).mono ?_; rintro e w1 ⟨rfl, hb⟩; have HB := hide hb; clear hb)
  go_ret
  exact ⟨by rw [← hr.out]; rfl, HB.out⟩
set_option maxHeartbeats 1000000 in
theorem l00Has_c (v : Value) (l : List Int) (n : Int) (w : World) (h : SliceK intD w v l) : Calls Tryz.prog 86 #[v, .int .i64 n] w fun e w' => e = .returned (.bool (hasB l n)) ∧ Below w.heap.size w w' := by
  obtain ⟨A, c, rfl, hl, hm, hra⟩ := h
  have HA := hide hra
  clear hra
  go_enter Tryz.func86, Tryz.ntmps86
  go_wp2
  go_loopg [5] l.length (fun gg s6 wr => ∃ k : Nat, k ≤ l.length ∧ l.length - k ≤ gg ∧ s6 = .int .i64 k ∧ Hid (∀ j y, j < k → l[j]? = some y → y ≠ n) ∧ Hid (Below w.heap.size w wr))
  case atStart => exact ⟨0, Nat.zero_le _, by omega, rfl, hide (by intro j y hj; omega), Below.refl _ _⟩
  case round =>
    obtain ⟨k, hk, hg, rfl, HT, HB⟩ := hrel
    by_cases hlt : k < l.length
    · obtain ⟨x, hx⟩ : ∃ x, l[k]? = some x := ⟨_, List.getElem?_eq_getElem hlt⟩
      rcases HA.out with rfl | ⟨p, o, rfl, hra⟩
      · simp at hlt
      obtain ⟨hp, hc⟩ := int_at hra HB.out hx
      have HX := hide hx
      clear hx hra HA
      by_cases hxn : x = n
      · subst hxn
        go_wp2
        all_goals go_ret
        exact ⟨by rw [show hasB l x = true from decide_eq_true (List.mem_of_getElem? HX.out)]; rfl, HB.out⟩
      · have hne : (x == n) = false := beq_eq_false_iff_ne.2 hxn
        have HNE := hide hxn
        clear hxn
        go_wp2
        go_roundg (l.length - (k + 1))
        case measure => omega
        case rel =>
          exact ⟨k + 1, by omega, by omega, by go_num, hide (fun j y hj hy => by
            by_cases e : j = k
            · subst e; rw [HX.out] at hy; cases hy; exact HNE.out
            · exact HT.out j y (by omega) hy), HB⟩
    · have : k = l.length := by omega
      subst this
      have hr := hide (show hasB l n = false from by rw [← idxI_nn, idxI_miss HT.out]; rfl)
      go_wp2
      go_ret
      exact ⟨by rw [hr.out]; rfl, HB.out⟩

end Go.Proofs.YtadcmiinjepdcaaGreat
