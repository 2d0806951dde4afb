/- Binary search in a rising row of numbers. -/
import Derived.Test.YticjphaagmnahaaRGround
namespace Go.Proofs.Yticjphaagmnahaa
open Go Go.RowKit Go.BigFrame
attribute [local go_sem] Calm.cell Calm.frozen
set_option linter.unusedVariables false
set_option linter.unusedSimpArgs false

theorem cmpIsNaN_c (x : Int) (w : World) : Calls Try.prog 143 #[.int .i64 x] w fun e w' => e = .returned (.bool false) ∧ w = w' := by
  go_enter Try.func143, Try.ntmps143
  go_wp2_with fail
  go_ret
  exact ⟨ret_bool (by simp), rfl⟩
theorem slIsNaN_c (x : Int) (w : World) : Calls Try.prog 171 #[.int .i64 x] w fun e w' => e = .returned (.bool false) ∧ w = w' := by
  go_enter Try.func171, Try.ntmps171
  go_wp2_with fail
  go_ret
  exact ⟨ret_bool (by simp), rfl⟩
theorem cmpLess_c (x y : Int) (w : World) : Calls Try.prog 162 #[.int .i64 x, .int .i64 y] w fun e w' => e = .returned (.bool (decide (x < y))) ∧ w = w' := by
  go_enter Try.func162, Try.ntmps162
  go_wp2_with (go_at_call 143; refine (cmpIsNaN_c _ _).mono ?_; rintro e w' ⟨rfl, rfl⟩)
  all_goals
    go_ret
    exact ⟨rfl, rfl⟩
/-- Where a number stands or would stand. -/
def isLb (xs : List Int) (n : Int) (i : Nat) : Prop := i ≤ xs.length ∧ (∀ (t : Nat) (y : Int), t < i → xs[t]? = some y → y < n) ∧ (∀ (t : Nat) (y : Int), i ≤ t → xs[t]? = some y → n ≤ y)
/-- Rising. -/
def Rises (xs : List Int) : Prop := ∀ (s t : Nat) (x y : Int), s < t → xs[s]? = some x → xs[t]? = some y → x < y
set_option maxHeartbeats 4000000 in
theorem binSearch_c (v : Value) (l : List Int) (n : Int) (w : World) (h : SliceK intD w v l) (hr : Rises l) (hlen : l.length ≤ 1048576) :
    Calls Try.prog 139 #[v, .int .i64 n] w fun e w' => (∃ i : Nat, isLb l n i ∧ e = .returned (.tuple #[.int .i64 i, .bool (hasB l n)])) ∧ w = w' := by
  obtain ⟨A, c, rfl, hl, hm, hra⟩ := h
  have HA := hide hra
  have HR := hide hr
  clear hra hr
  go_enter Try.func139, Try.ntmps139
  go_wp2_with fail
  go_loopg [7, 8] l.length (fun gg s7 s8 wr => ∃ i j : Nat, i ≤ j ∧ j ≤ l.length ∧ j - i ≤ gg ∧ s7 = .int .i64 i ∧ s8 = .int .i64 j ∧ Hid (∀ (t : Nat) (y : Int), t < i → l[t]? = some y → y < n) ∧ Hid (∀ (t : Nat) (y : Int), j ≤ t → l[t]? = some y → n ≤ y) ∧ w = wr)
  case atStart => exact ⟨0, l.length, Nat.zero_le _, Nat.le_refl _, by omega, rfl, rfl, hide (by intro t y ht; omega), hide (by intro t y ht hy; have := (List.getElem?_eq_some_iff.1 hy).1; omega), rfl⟩
  case round =>
    obtain ⟨i, j, hij, hj, hg, rfl, rfl, HL, HU, rfl⟩ := hrel
    by_cases hlt : i < j
    · have hlt2 : (i : Int) < (j : Int) := by omega
      obtain ⟨k, hk⟩ : ∃ k : Nat, k = (i + j) / 2 := ⟨_, rfl⟩
      have hki : i ≤ k := by omega
      have hkj : k < j := by omega
      obtain ⟨x, hx⟩ : ∃ x, l[k]? = some x := ⟨_, List.getElem?_eq_getElem (by omega)⟩
      rcases HA.out with hnil | ⟨q, o2, rfl, hra⟩
      · rw [hnil] at hj; simp at hj; omega
      have hc := (int_at hra (Below.refl _ _) hx).2
      have hw1 : IntKind.i64.wrap ((i : Int) + (j : Int)) = (i : Int) + (j : Int) := IntWalk.i64_in _ (by omega)
      have hkl : (k : Int) < (l.length : Int) := by omega
      have HX := hide hx
      subst hk
      have hw2 : IntKind.i64.wrap (((i : Int) + (j : Int)) / 2 + 1) = ((i : Int) + (j : Int)) / 2 + 1 := IntWalk.i64_in _ (by omega)
      clear hra HA hx
      by_cases hxn : x < n
      · go_wp2_with (go_at_call 162; refine (cmpLess_c _ _ _).mono ?_; rintro e w' ⟨rfl, rfl⟩)
        go_roundg (j - ((i + j) / 2 + 1))
        case measure => omega
        case rel =>
          refine ⟨(i + j) / 2 + 1, j, by omega, hj, by omega, by go_num, rfl, hide (fun t y ht hy => ?_), HU, rfl⟩
          by_cases e : t = (i + j) / 2
          · subst e; rw [HX.out] at hy; cases hy; exact hxn
          · exact Int.lt_trans (HR.out t ((i + j) / 2) y x (by omega) hy HX.out) hxn
      · go_wp2_with (go_at_call 162; refine (cmpLess_c _ _ _).mono ?_; rintro e w' ⟨rfl, rfl⟩)
        go_roundg ((i + j) / 2 - i)
        case measure => omega
        case rel =>
          refine ⟨i, (i + j) / 2, by omega, by omega, by omega, rfl, by go_num, HL, hide (fun t y ht hy => ?_), rfl⟩
          by_cases e : t = (i + j) / 2
          · subst e; rw [HX.out] at hy; cases hy; omega
          · have := HR.out ((i + j) / 2) t x y (by omega) HX.out hy; omega
    · have : i = j := by omega
      subst this
      have HLB := hide (show isLb l n i from ⟨hj, HL.out, HU.out⟩)
      by_cases hil : i < l.length
      · obtain ⟨x, hx⟩ : ∃ x, l[i]? = some x := ⟨_, List.getElem?_eq_getElem hil⟩
        rcases HA.out with hnil | ⟨q, o2, rfl, hra⟩
        · rw [hnil] at hil; simp at hil
        have hc := (int_at hra (Below.refl _ _) hx).2
        have hil2 : (i : Int) < (l.length : Int) := by omega
        have HX := hide hx
        clear hra HA hx hlt
        by_cases hxn : x = n
        · have HB := hide (show hasB l n = true by unfold hasB; rw [decide_eq_true_eq]; exact hxn ▸ List.mem_of_getElem? HX.out)
          go_wp2_with (go_at_call 171; refine (slIsNaN_c _ _).mono ?_; rintro e w' ⟨rfl, rfl⟩)
          go_ret2
          exact ⟨⟨i, HLB.out, by rw [HB.out]; rfl⟩, rfl⟩
        · have hxb : (x == n) = false := by simpa using hxn
          have HB := hide (show hasB l n = false by
            unfold hasB; rw [decide_eq_false_iff_not]; intro hm
            obtain ⟨t, ht⟩ := List.getElem?_of_mem hm
            rcases Nat.lt_trichotomy t i with h | h | h
            · have := HLB.out.2.1 t n h ht; omega
            · subst h; rw [HX.out] at ht; cases ht; exact hxn rfl
            · have h1 := HR.out i t x n h HX.out ht
              have h2 := HLB.out.2.2 i x (Nat.le_refl _) HX.out; omega)
          go_wp2_with (go_at_call 171; refine (slIsNaN_c _ _).mono ?_; rintro e w' ⟨rfl, rfl⟩)
          go_ret2
          exact ⟨⟨i, HLB.out, by rw [HB.out]; rfl⟩, rfl⟩
      · have hil2 : ¬ (i : Int) < (l.length : Int) := by omega
        have HB := hide (show hasB l n = false by
          unfold hasB; rw [decide_eq_false_iff_not]; intro hm
          obtain ⟨t, ht⟩ := List.getElem?_of_mem hm
          have h1 := (List.getElem?_eq_some_iff.1 ht).1
          have := HLB.out.2.1 t n (by omega) ht; omega)
        clear HA hlt
        go_wp2_with fail
        go_ret2
        exact ⟨⟨i, HLB.out, by rw [HB.out]; rfl⟩, rfl⟩
end Go.Proofs.Yticjphaagmnahaa
