/- The laws' own helpers on lists of whole numbers: size, copy, equality, marks. -/
import Derived.Test.YtadcmiinjepdcaaGreatProg
import Derived.Test.YtadcmiinjepdcaaGreatBase
namespace Go.Proofs.YtadcmiinjepdcaaGreat
open Go Go.RowKit
set_option linter.unusedVariables false
set_option linter.unusedSimpArgs false

/-- What is left of 'left' behind s more; -1 where that is too much. -/
def szR (left : Int) (s : Nat) : Int := if (s : Int) ≤ left then left - s else -1
theorem szR_add {left : Int} {s t : Nat} (h : 0 ≤ szR left s) : szR (szR left s) t = szR left (s + t) := by
  unfold szR at *; split at h
  · rename_i h1; rw [if_pos h1]; split
    · rw [if_pos (by omega)]; omega
    · rw [if_neg (by omega)]
  · omega
theorem szR_neg {left : Int} {s : Nat} (h0 : 0 ≤ left) (h : szR left s < 0) (t : Nat) : szR left (s + t) = -1 := by
  unfold szR at *; split at h
  · omega
  · rw [if_neg (by omega)]
theorem szR_ge {left : Int} {s : Nat} (h : 0 ≤ szR left s) : (s : Int) ≤ left ∧ szR left s = left - s := by
  unfold szR at *; split at h
  · rename_i h1; exact ⟨h1, by rw [if_pos h1]⟩
  · omega

theorem szR_bd {left : Int} {s : Nat} {r : Int} (h : r = szR left s) (h0 : 0 ≤ left) : -1 ≤ r ∧ r ≤ left := by
  subst h; unfold szR; split <;> omega
theorem szR_spec {left : Int} {s : Nat} {r : Int} (h : r = szR left s) (h0 : 0 ≤ left) : (r = left - s ∧ (s : Int) ≤ left) ∨ (r = -1 ∧ left < s) := by
  subst h; unfold szR; split <;> omega
/-- A returned size's rest. -/
def RetSz (left : Int) (s : Nat) (e : Ending) : Prop := ∃ r, e = .returned (.int .i64 r) ∧ r = szR left s
theorem szInt64S_c (v : Value) (a : List Int) (left : Int) (w : World) (ha : SliceK intD w v a) (h0 : 0 ≤ left) (h1 : left ≤ 1048576) :
    Calls Tryz.prog 81 #[v, .int .i64 left] w fun e w' => RetSz left a.length e ∧ Below w.heap.size w w' := by
  obtain ⟨A, c, rfl, hl1, hm1, hra⟩ := ha
  clear hra
  by_cases h : (a.length : Int) ≤ left
  · have hr : szR left a.length = left - a.length := if_pos h
    have HR := hide hr
    have h2 : ¬ (left - (a.length : Int) < 0) := by omega
    clear hr
    go_enter Tryz.func81, Tryz.ntmps81
    go_wp2
    go_ret
    exact ⟨⟨_, rfl, HR.out.symm⟩, Below.refl _ _⟩
  · have hr : szR left a.length = -1 := if_neg h
    have HR := hide hr
    have h2 : (left - (a.length : Int) < 0) := by omega
    clear hr
    go_enter Tryz.func81, Tryz.ntmps81
    go_wp2
    go_ret
    exact ⟨⟨_, rfl, HR.out.symm⟩, Below.refl _ _⟩

theorem bytes_eq {a b : ByteArray} : a.toList = b.toList ↔ a = b := ⟨fun h => by
  rw [ByteArray.toList_eq, ByteArray.toList_eq] at h
  cases a; cases b; congr; exact Array.ext' h, fun h => by rw [h]⟩
theorem eqAll_pre {α : Type} [DecidableEq α] {a b : List α} {k : Nat} {x y : α} (h : a.take k = b.take k) (hx : a[k]? = some x) (hy : b[k]? = some y) (hne : x ≠ y) : decide (a = b) = false := by
  refine decide_eq_false ?_
  rintro rfl
  rw [hx] at hy
  exact hne (by simpa using hy)
def sizeAll {α : Type} (f : α → Nat) : List α → Nat
  | [] => 0
  | x :: xs => f x + sizeAll f xs
theorem sizeAll_take {α : Type} (f : α → Nat) : ∀ (xs : List α) (k : Nat) (x : α), xs[k]? = some x → sizeAll f (xs.take (k + 1)) = sizeAll f (xs.take k) + f x
  | [], k, x, h => by simp at h
  | y :: xs, 0, x, h => by simp at h; subst h; simp [sizeAll]
  | y :: xs, k + 1, x, h => by
    have := sizeAll_take f xs k x (by simpa using h)
    simp only [List.take_succ_cons, sizeAll, this]
    omega
theorem sizeAll_le {α : Type} (f : α → Nat) : ∀ (xs : List α) (k : Nat), sizeAll f (xs.take k) ≤ sizeAll f xs
  | [], k => by simp
  | y :: xs, 0 => by simp [sizeAll]
  | y :: xs, k + 1 => by have := sizeAll_le f xs k; simp only [List.take_succ_cons, sizeAll]; omega
theorem sizeAll_mem {α : Type} (f : α → Nat) : ∀ (xs : List α) (x : α), x ∈ xs → f x ≤ sizeAll f xs
  | y :: xs, x, h => by
    rcases List.mem_cons.1 h with rfl | h
    · simp only [sizeAll]; omega
    · have := sizeAll_mem f xs x h; simp only [sizeAll]; omega
theorem eqInts_pre {a b : List Int} {k : Nat} {x y : Int} (h : a.take k = b.take k) (hx : a[k]? = some x) (hy : b[k]? = some y) (hne : x ≠ y) : decide (a = b) = false := by
  refine decide_eq_false ?_
  rintro rfl
  rw [hx] at hy
  exact hne (by simpa using hy)

set_option maxHeartbeats 1000000 in
theorem eqInt64S_c (va vb : Value) (a b : List Int) (w : World) (ha : SliceK intD w va a) (hb : SliceK intD w vb b) :
    Calls Tryz.prog 76 #[va, vb] w fun e w' => e = .returned (.bool (decide (a = b))) ∧ Below w.heap.size w w' := by
  obtain ⟨A, c, rfl, hl1, hm1, hra⟩ := ha
  obtain ⟨B, c', rfl, hl2, hm2, hrb⟩ := hb
  by_cases hlen : a.length = b.length
  · have hne : (((a.length : Nat) : Int) != ((b.length : Nat) : Int)) = false := by simp [hlen]
    have HL := hide hlen
    have HA := hide hra
    have HB := hide hrb
    clear hlen hra hrb
    go_enter Tryz.func76, Tryz.ntmps76
    go_wp2
    go_loopg [5] a.length (fun gg s5 wr => ∃ k : Nat, k ≤ a.length ∧ a.length - k ≤ gg ∧ s5 = .int .i64 k ∧ Hid (a.take k = b.take k) ∧ Hid (Below w.heap.size w wr))
    case atStart => exact ⟨0, Nat.zero_le _, by omega, rfl, rfl, Below.refl _ _⟩
    case round =>
      obtain ⟨k, hk, hg, rfl, HT, HW⟩ := hrel
      by_cases hlt : k < a.length
      · obtain ⟨x, hx⟩ : ∃ x, a[k]? = some x := ⟨_, List.getElem?_eq_getElem hlt⟩
        obtain ⟨y, hy⟩ : ∃ y, b[k]? = some y := ⟨_, List.getElem?_eq_getElem (by have := HL.out; omega)⟩
        have hkb : k < b.length := by have := HL.out; omega
        rcases HA.out with rfl | ⟨p, o, rfl, hra⟩
        · simp at hlt
        rcases HB.out with rfl | ⟨p', o', rfl, hrb⟩
        · simp at hkb
        obtain ⟨hp, hc⟩ := int_at hra HW.out hx
        obtain ⟨hp', hc'⟩ := int_at hrb HW.out hy
        have HX := hide hx
        have HY := hide hy
        clear hx hy hra hrb HA HB
        by_cases hxy : x = y
        · subst hxy
          go_wp2
          go_quiet (fail)
          go_wp2
          go_roundg (a.length - (k + 1))
          case measure => omega
          case rel => exact ⟨k + 1, by omega, by omega, by go_num, hide (by rw [List.take_add_one, List.take_add_one, HX.out, HY.out, HT.out]), hide (below_drewN HW.out _)⟩
        · have hb0 : (x != y) = true := by simpa using hxy
          have HXY := hide hxy
          clear hxy
          go_wp2
          go_quiet (fail)
          go_wp2
          go_ret
          exact ⟨by rw [eqInts_pre HT.out HX.out HY.out HXY.out]; rfl, below_drewN HW.out _⟩
      · have : k = a.length := by omega
        subst this
        go_wp2
        go_ret
        exact ⟨by rw [show decide (a = b) = true from by rw [decide_eq_true_iff]; have := HT.out; rw [List.take_length] at this; rw [this, HL.out, List.take_length]]; rfl, HW.out⟩
  · have hne : (((a.length : Nat) : Int) != ((b.length : Nat) : Int)) = true := by simp; omega
    have he : decide (a = b) = false := by exact decide_eq_false (by rintro rfl; exact hlen rfl)
    have HE := hide he
    clear he hlen hra hrb
    go_enter Tryz.func76, Tryz.ntmps76
    go_wp2
    go_ret
    exact ⟨by rw [HE.out]; rfl, Below.refl _ _⟩

/-! ### copy -/
theorem take_set_int {cur : List Value} {xs : List Int} {k : Nat} {x : Int} (h : cur.take k = (xs.take k).map (Value.int .i64)) (hx : xs[k]? = some x) (hk : k < cur.length) :
    (cur.set k (.int .i64 x)).take (k + 1) = (xs.take (k + 1)).map (Value.int .i64) := by
  rw [List.take_add_one, List.take_add_one, hx, List.take_set_of_le (Nat.le_refl _), h]
  simp [hk]
theorem ints_flat (xs : List Int) : (xs.map fun x : Int => [Value.int .i64 x]).flatten = xs.map (Value.int .i64) := by
  induction xs with
  | nil => rfl
  | cons x xs ih => simp [ih]
theorem int_M_mk {w : World} {e : TypeId} {xs : List Int} {b cap : Nat} {cur : Array Value} (h2 : xs.length ≤ cap) (h3 : cap ≤ 9223372036854775807) (hh : w.heap[b]? = some (.cells cur e (0, 0)))
    (h4 : cur.size = cap) (h5 : cur.toList.take xs.length = xs.map (Value.int .i64)) : SliceM intD e w (.slice (some ⟨b, 0, none⟩) xs.length cap) xs [b] :=
  flat_M_mk h2 h3 hh (by omega) (by rw [Nat.mul_one, h5, ints_flat])
theorem int_M {w : World} {e : TypeId} {v : Value} {xs : List Int} {F : List Nat} (h : SliceM intD e w v xs F) :
    (v = .slice none 0 0 ∧ xs = [] ∧ F = []) ∨ ∃ b cap cur, v = .slice (some ⟨b, 0, none⟩) xs.length cap ∧ xs.length ≤ cap ∧ cap ≤ 9223372036854775807 ∧
      w.heap[b]? = some (.cells cur e (0, 0)) ∧ cur.size = cap ∧ cur.toList.take xs.length = xs.map (Value.int .i64) ∧ F = [b] := by
  rcases flat_M h with h | ⟨b, cap, cur, hv, h2, h3, hh, h4, h5, hF⟩
  · exact .inl h
  · exact .inr ⟨b, cap, cur, hv, h2, h3, hh, by omega, by rw [Nat.mul_one, ints_flat] at h5; exact h5, hF⟩

theorem infoInt : (Tryz.prog.info? 2).map (fun i => (i.zero, i.size, i.bytes)) = some (some (.int .i64 0), 1, 8) := by kernel_rfl
set_option maxHeartbeats 1000000 in
theorem toInt64S_c (v : Value) (a : List Int) (w : World) (ha : SliceK intD w v a) (hn : a.length ≤ 1048576) :
    Calls Tryz.prog 87 #[v] w (RetMade intD 2 w a) := by
  obtain ⟨A, c, rfl, hl1, hm1, hra⟩ := ha
  have HA := hide hra
  have hmk := run_mk (P := Tryz.prog) 88 2 (.int .i64 0) 1 8 Tryz.underlying88 infoInt a.length (by omega) (by omega)
  clear hra
  go_enter Tryz.func87, Tryz.ntmps87
  go_wp2_with fail
  obtain ⟨B, hB⟩ : ∃ B, B = w.heap.size := ⟨_, rfl⟩
  have HBs := hide hB
  rw [← hB]
  have H0 : ∃ cur, (w.alloc (Obj.cells (mkRow (.int .i64 0) a.length) 2)).heap[B]? = some (.cells cur 2 (0, 0)) ∧ cur.size = a.length ∧ cur.toList.take 0 = (a.take 0).map (Value.int .i64) :=
    ⟨_, by rw [hB]; exact alloc_new w _, by rw [size_mkRow], rfl⟩
  have H0 := hide H0
  clear hB
  go_loopg [4] a.length (fun gg s4 wr => ∃ k : Nat, k ≤ a.length ∧ a.length - k ≤ gg ∧ s4 = .int .i64 k ∧ Hid (∃ cur, wr.heap[B]? = some (.cells cur 2 (0, 0)) ∧ cur.size = a.length ∧ cur.toList.take k = (a.take k).map (Value.int .i64)) ∧ Hid (Below w.heap.size w wr))
  case atStart => exact ⟨0, Nat.zero_le _, by omega, rfl, H0, (Below.refl _ _).alloc (Nat.le_refl _) _⟩
  case round =>
    obtain ⟨k, hk, hg, rfl, HR, HW⟩ := hrel
    clear H0 hmk
    by_cases hlt : k < a.length
    · obtain ⟨x, hx⟩ : ∃ x, a[k]? = some x := ⟨_, List.getElem?_eq_getElem hlt⟩
      rcases HA.out with rfl | ⟨p, o, rfl, hra⟩
      · simp at hlt
      obtain ⟨hp, hc⟩ := int_at hra HW.out hx
      obtain ⟨cur, hcur, hsz, htk⟩ := HR.out
      have hlB := block_lt hcur
      obtain ⟨u0, hcB⟩ : ∃ u, wr.cell? ⟨B, k, none⟩ = some u := ⟨cur[k]'(by omega), by rw [cell_block hcur]; exact Array.getElem?_eq_getElem (by omega)⟩
      have hfB : wr.frozen? ⟨B, k, none⟩ = false := frozen_block hcur
      have HC := hide (And.intro hcur (And.intro hsz (And.intro htk hx)))
      clear HR hcur hsz htk hx hra HA
      go_wp2_with fail
      obtain ⟨hcur, hsz, htk, hx⟩ := HC.out
      have hge : w.heap.size ≤ B := Nat.le_of_eq HBs.out.symm
      go_roundg (a.length - (k + 1))
      case measure => omega
      case rel =>
        refine ⟨k + 1, by omega, by omega, by go_num, hide ⟨_, setCell_block _ _ _ _ hcur, by simp [hsz], ?_⟩, hide (HW.out.setCell hge _)⟩
        rw [Array.toList_setIfInBounds]
        exact take_set_int htk hx (by simp [hsz]; omega)
    · have : k = a.length := by omega
      subst this
      go_wp2
      go_ret
      obtain ⟨cur, hcur, hsz, htk⟩ := HR.out
      refine ⟨_, rfl, ⟨[B], int_M_mk (Nat.le_refl _) (by omega) hcur hsz (by rw [htk, List.take_length]), by simp, ?_⟩, HW.out⟩
      intro b hb
      rw [List.mem_singleton.1 hb, HBs.out]
      exact Nat.le_refl _

/-! ### marks -/
/-- k, k + 1, .. -/
def marks (k : Int) (n : Nat) : List Int := (List.range n).map fun i : Nat => k + (i : Int)
theorem marks_len (k : Int) (n : Nat) : (marks k n).length = n := by simp [marks]
theorem marks_succ (k : Int) (n : Nat) : marks k (n + 1) = marks k n ++ [k + (n : Int)] := by simp [marks, List.range_succ]
theorem marks_get (k : Int) (n i : Nat) (h : i < n) : (marks k n)[i]? = some (k + (i : Int)) := by simp [marks, h]
/-- A call that marks a row: the last mark, and where it may have written. -/
def RetMark (w : World) (v : Value) (F : List Nat) (k : Int) (n : Nat) (r : Ending) (w' : World) : Prop :=
  r = .returned (.int .i64 (k + n)) ∧ SliceM intD 2 w' v (marks k n) F ∧ Chg F w w'
theorem take_mark {cur : List Value} {xs : List Int} {k : Int} {i : Nat} (h : cur.take xs.length = (marks k i ++ xs.drop i).map (Value.int .i64)) (hi : i < xs.length) (hl : xs.length ≤ cur.length) :
    (cur.set i (.int .i64 (k + (i : Int)))).take xs.length = (marks k (i + 1) ++ xs.drop (i + 1)).map (Value.int .i64) := by
  rw [List.take_set, h, marks_succ, List.drop_eq_getElem_cons hi, List.map_append, List.map_cons, List.set_append]
  simp [marks_len]

set_option maxHeartbeats 1000000 in
theorem markInt64S_c (v : Value) (xs : List Int) (F : List Nat) (k : Int) (w : World) (h : SliceM intD 2 w v xs F) (h0 : 0 ≤ k) (h1 : k + xs.length ≤ 1000000000000) :
    Calls Tryz.prog 58 #[v, .int .i64 k] w (RetMark w v F k xs.length) := by
  rcases int_M h with ⟨rfl, rfl, rfl⟩ | ⟨B, cap, cur, rfl, hl, hm, hcur, hsz, htk, rfl⟩
  · go_enter Tryz.func58, Tryz.ntmps58
    go_wp2
    go_loopg [1, 5] 0 (fun gg s1 s5 wr => s1 = .int .i64 k ∧ s5 = .int .i64 0 ∧ w = wr)
    case atStart => exact ⟨rfl, rfl, rfl⟩
    case round =>
      obtain ⟨rfl, rfl, rfl⟩ := hrel
      go_wp2
      go_ret
      exact ⟨by simp, .inl ⟨rfl, by simp [marks], rfl⟩, Chg.refl _ _⟩
  · have HS := hide h
    have H0 := hide (show ∃ cur, w.heap[B]? = some (.cells cur 2 (0, 0)) ∧ cur.size = cap ∧ cur.toList.take xs.length = (marks k 0 ++ xs.drop 0).map (Value.int .i64) from ⟨cur, hcur, hsz, by simpa [marks] using htk⟩)
    clear h hcur hsz htk
    go_enter Tryz.func58, Tryz.ntmps58
    go_wp2
    go_loopg [1, 5] xs.length (fun gg s1 s5 wr => ∃ i : Nat, i ≤ xs.length ∧ xs.length - i ≤ gg ∧ s1 = .int .i64 (k + (i : Int)) ∧ s5 = .int .i64 i ∧
      Hid (∃ cur, wr.heap[B]? = some (.cells cur 2 (0, 0)) ∧ cur.size = cap ∧ cur.toList.take xs.length = (marks k i ++ xs.drop i).map (Value.int .i64)) ∧ Hid (Chg [B] w wr))
    case atStart => exact ⟨0, Nat.zero_le _, by omega, by simp, rfl, H0, Chg.refl _ _⟩
    case round =>
      obtain ⟨i, hi, hg, rfl, rfl, HR, HW⟩ := hrel
      clear H0
      by_cases hlt : i < xs.length
      · obtain ⟨cur, hcur, hsz, htk⟩ := HR.out
        have hlB := block_lt hcur
        obtain ⟨u0, hcB⟩ : ∃ u, wr.cell? ⟨B, i, none⟩ = some u := ⟨cur[i]'(by omega), by rw [cell_block hcur]; exact Array.getElem?_eq_getElem (by omega)⟩
        have hfB : wr.frozen? ⟨B, i, none⟩ = false := frozen_block hcur
        have HC := hide (And.intro hcur (And.intro hsz htk))
        clear HR hcur hsz htk
        go_wp2_with fail
        obtain ⟨hcur, hsz, htk⟩ := HC.out
        go_roundg (xs.length - (i + 1))
        case measure => omega
        case rel =>
          refine ⟨i + 1, by omega, by omega, by go_num, by go_num, hide ⟨_, setCell_block _ _ _ _ hcur, by simp [hsz], ?_⟩, hide (HW.out.setCell (.inl (by simp)) _)⟩
          rw [Array.toList_setIfInBounds]
          exact take_mark htk hlt (by simp [hsz]; omega)
      · have : i = xs.length := by omega
        subst this
        go_wp2
        go_ret
        obtain ⟨cur, hcur, hsz, htk⟩ := HR.out
        refine ⟨rfl, ?_, HW.out⟩
        have hS := int_M_mk (w := wr) (e := 2) (xs := marks k xs.length) (b := B) (cap := cap) (cur := cur) (by rw [marks_len]; exact hl) hm hcur hsz (by rw [marks_len, htk]; simp)
        rwa [marks_len] at hS

/-- What is told behind marks that were laid from k on: the next mark; -1 where one is another. -/
def heldI (k : Int) (xs : List Int) : Int := if xs = marks k xs.length then k + xs.length else -1
theorem heldI_neg {k : Int} {xs : List Int} {i : Nat} {x : Int} (hx : xs[i]? = some x) (hne : x ≠ k + (i : Int)) : heldI k xs = -1 := by
  refine if_neg fun h => hne ?_
  have hi := (List.getElem?_eq_some_iff.1 hx).1
  rw [h, marks_get _ _ _ hi] at hx
  simpa using hx.symm

set_option maxHeartbeats 1000000 in
theorem heldInt64S_c (v : Value) (xs : List Int) (k : Int) (w : World) (h : SliceK intD w v xs) (h0 : 0 ≤ k) (h1 : k + xs.length ≤ 1000000000000) :
    Calls Tryz.prog 59 #[v, .int .i64 k] w fun e w' => e = .returned (.int .i64 (heldI k xs)) ∧ Below w.heap.size w w' := by
  obtain ⟨A, c, rfl, hl, hm, hra⟩ := h
  have HA := hide hra
  clear hra
  go_enter Tryz.func59, Tryz.ntmps59
  go_wp2
  go_loopg [1, 5] xs.length (fun gg s1 s5 wr => ∃ i : Nat, i ≤ xs.length ∧ xs.length - i ≤ gg ∧ s1 = .int .i64 (k + (i : Int)) ∧ s5 = .int .i64 i ∧ Hid (xs.take i = marks k i) ∧ Hid (Below w.heap.size w wr))
  case atStart => exact ⟨0, Nat.zero_le _, by omega, by simp, rfl, hide (by simp [marks]), Below.refl _ _⟩
  case round =>
    obtain ⟨i, hi, hg, rfl, rfl, HT, HW⟩ := hrel
    by_cases hlt : i < xs.length
    · obtain ⟨x, hx⟩ : ∃ x, xs[i]? = some x := ⟨_, List.getElem?_eq_getElem hlt⟩
      rcases HA.out with rfl | ⟨p, o, rfl, hra⟩
      · simp at hlt
      obtain ⟨hp, hc⟩ := int_at hra HW.out hx
      have HX := hide hx
      clear hx hra HA
      by_cases hxy : x = k + (i : Int)
      · subst hxy
        go_wp2
        go_roundg (xs.length - (i + 1))
        case measure => omega
        case rel => exact ⟨i + 1, by omega, by omega, by go_num, by go_num, hide (by rw [List.take_add_one, HX.out, HT.out, marks_succ]; rfl), HW⟩
      · have hb0 : (x != k + (i : Int)) = true := by simpa using hxy
        have HXY := hide hxy
        clear hxy
        go_wp2
        go_ret
        exact ⟨by rw [heldI_neg HX.out HXY.out]; rfl, HW.out⟩
    · have : i = xs.length := by omega
      subst this
      go_wp2
      go_ret
      exact ⟨by rw [show heldI k xs = k + xs.length from if_pos (by have := HT.out; rwa [List.take_length] at this)]; rfl, HW.out⟩
theorem heldI_nn {k : Int} (h : 0 ≤ k) (xs : List Int) : heldI k xs < 0 ↔ ¬ xs = marks k xs.length := by
  unfold heldI; split
  · rename_i h1; constructor
    · intro h2; omega
    · intro h2; exact absurd h1 h2
  · rename_i h1; exact ⟨fun _ => h1, fun _ => by omega⟩
theorem heldI_spec {k r : Int} {xs : List Int} (h : r = heldI k xs) (h0 : 0 ≤ k) : (r = k + xs.length ∧ xs = marks k xs.length) ∨ (r = -1 ∧ ¬ xs = marks k xs.length) := by
  subst h; unfold heldI; split
  · rename_i h1; exact .inl ⟨rfl, h1⟩
  · rename_i h1; exact .inr ⟨rfl, h1⟩
end Go.Proofs.YtadcmiinjepdcaaGreat
