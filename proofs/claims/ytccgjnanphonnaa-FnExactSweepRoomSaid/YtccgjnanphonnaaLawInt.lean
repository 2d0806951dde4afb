/- The laws' own helpers on lists of whole numbers: size, copy, equality, marks. -/
import Derived.Test.YtccgjnanphonnaaProg
import Derived.Test.YtccgjnanphonnaaBase
namespace Go.Proofs.Ytccgjnanphonnaa
open Go Go.RowKit
set_option linter.unusedVariables false
set_option linter.unusedSimpArgs false

/-- What is left of 'left' behind s more; -1 where that is too much. -/
def szR (left : Int) (s : Nat) : Int := if (s : Int) ≤ left then left - s else -1
theorem szR_add {left : Int} {s t : Nat} (h : 0 ≤ szR left s) : szR (szR left s) t = szR left (s + t) := by
  unfold szR at *; split at h
  · rename_i h1; rw [if_pos h1]; split
    · rw [if_pos (by omega)]; omega
    · rw [if_neg (by omega)]
  · omega
theorem szR_neg {left : Int} {s : Nat} (h0 : 0 ≤ left) (h : szR left s < 0) (t : Nat) : szR left (s + t) = -1 := by
  unfold szR at *; split at h
  · omega
  · rw [if_neg (by omega)]
theorem szR_ge {left : Int} {s : Nat} (h : 0 ≤ szR left s) : (s : Int) ≤ left ∧ szR left s = left - s := by
  unfold szR at *; split at h
  · rename_i h1; exact ⟨h1, by rw [if_pos h1]⟩
  · omega

theorem szR_bd {left : Int} {s : Nat} {r : Int} (h : r = szR left s) (h0 : 0 ≤ left) : -1 ≤ r ∧ r ≤ left := by
  subst h; unfold szR; split <;> omega
theorem szR_spec {left : Int} {s : Nat} {r : Int} (h : r = szR left s) (h0 : 0 ≤ left) : (r = left - s ∧ (s : Int) ≤ left) ∨ (r = -1 ∧ left < s) := by
  subst h; unfold szR; split <;> omega
/-- A returned size's rest. -/
def RetSz (left : Int) (s : Nat) (e : Ending) : Prop := ∃ r, e = .returned (.int .i64 r) ∧ r = szR left s
theorem bytes_eq {a b : ByteArray} : a.toList = b.toList ↔ a = b := ⟨fun h => by
  rw [ByteArray.toList_eq, ByteArray.toList_eq] at h
  cases a; cases b; congr; exact Array.ext' h, fun h => by rw [h]⟩
theorem eqAll_pre {α : Type} [DecidableEq α] {a b : List α} {k : Nat} {x y : α} (h : a.take k = b.take k) (hx : a[k]? = some x) (hy : b[k]? = some y) (hne : x ≠ y) : decide (a = b) = false := by
  refine decide_eq_false ?_
  rintro rfl
  rw [hx] at hy
  exact hne (by simpa using hy)
def sizeAll {α : Type} (f : α → Nat) : List α → Nat
  | [] => 0
  | x :: xs => f x + sizeAll f xs
theorem sizeAll_take {α : Type} (f : α → Nat) : ∀ (xs : List α) (k : Nat) (x : α), xs[k]? = some x → sizeAll f (xs.take (k + 1)) = sizeAll f (xs.take k) + f x
  | [], k, x, h => by simp at h
  | y :: xs, 0, x, h => by simp at h; subst h; simp [sizeAll]
  | y :: xs, k + 1, x, h => by
    have := sizeAll_take f xs k x (by simpa using h)
    simp only [List.take_succ_cons, sizeAll, this]
    omega
theorem sizeAll_le {α : Type} (f : α → Nat) : ∀ (xs : List α) (k : Nat), sizeAll f (xs.take k) ≤ sizeAll f xs
  | [], k => by simp
  | y :: xs, 0 => by simp [sizeAll]
  | y :: xs, k + 1 => by have := sizeAll_le f xs k; simp only [List.take_succ_cons, sizeAll]; omega
theorem sizeAll_mem {α : Type} (f : α → Nat) : ∀ (xs : List α) (x : α), x ∈ xs → f x ≤ sizeAll f xs
  | y :: xs, x, h => by
    rcases List.mem_cons.1 h with rfl | h
    · simp only [sizeAll]; omega
    · have := sizeAll_mem f xs x h; simp only [sizeAll]; omega
theorem eqInts_pre {a b : List Int} {k : Nat} {x y : Int} (h : a.take k = b.take k) (hx : a[k]? = some x) (hy : b[k]? = some y) (hne : x ≠ y) : decide (a = b) = false := by
  refine decide_eq_false ?_
  rintro rfl
  rw [hx] at hy
  exact hne (by simpa using hy)

/-! ### copy -/
theorem take_set_int {cur : List Value} {xs : List Int} {k : Nat} {x : Int} (h : cur.take k = (xs.take k).map (Value.int .i64)) (hx : xs[k]? = some x) (hk : k < cur.length) :
    (cur.set k (.int .i64 x)).take (k + 1) = (xs.take (k + 1)).map (Value.int .i64) := by
  rw [List.take_add_one, List.take_add_one, hx, List.take_set_of_le (Nat.le_refl _), h]
  simp [hk]
theorem ints_flat (xs : List Int) : (xs.map fun x : Int => [Value.int .i64 x]).flatten = xs.map (Value.int .i64) := by
  induction xs with
  | nil => rfl
  | cons x xs ih => simp [ih]
theorem int_M_mk {w : World} {e : TypeId} {xs : List Int} {b cap : Nat} {cur : Array Value} (h2 : xs.length ≤ cap) (h3 : cap ≤ 9223372036854775807) (hh : w.heap[b]? = some (.cells cur e (0, 0)))
    (h4 : cur.size = cap) (h5 : cur.toList.take xs.length = xs.map (Value.int .i64)) : SliceM intD e w (.slice (some ⟨b, 0, none⟩) xs.length cap) xs [b] :=
  flat_M_mk h2 h3 hh (by omega) (by rw [Nat.mul_one, h5, ints_flat])
theorem int_M {w : World} {e : TypeId} {v : Value} {xs : List Int} {F : List Nat} (h : SliceM intD e w v xs F) :
    (v = .slice none 0 0 ∧ xs = [] ∧ F = []) ∨ ∃ b cap cur, v = .slice (some ⟨b, 0, none⟩) xs.length cap ∧ xs.length ≤ cap ∧ cap ≤ 9223372036854775807 ∧
      w.heap[b]? = some (.cells cur e (0, 0)) ∧ cur.size = cap ∧ cur.toList.take xs.length = xs.map (Value.int .i64) ∧ F = [b] := by
  rcases flat_M h with h | ⟨b, cap, cur, hv, h2, h3, hh, h4, h5, hF⟩
  · exact .inl h
  · exact .inr ⟨b, cap, cur, hv, h2, h3, hh, by omega, by rw [Nat.mul_one, ints_flat] at h5; exact h5, hF⟩

/-! ### marks -/
/-- k, k + 1, .. -/
def marks (k : Int) (n : Nat) : List Int := (List.range n).map fun i : Nat => k + (i : Int)
theorem marks_len (k : Int) (n : Nat) : (marks k n).length = n := by simp [marks]
theorem marks_succ (k : Int) (n : Nat) : marks k (n + 1) = marks k n ++ [k + (n : Int)] := by simp [marks, List.range_succ]
theorem marks_get (k : Int) (n i : Nat) (h : i < n) : (marks k n)[i]? = some (k + (i : Int)) := by simp [marks, h]
/-- A call that marks a row: the last mark, and where it may have written. -/
def RetMark (w : World) (v : Value) (F : List Nat) (k : Int) (n : Nat) (r : Ending) (w' : World) : Prop :=
  r = .returned (.int .i64 (k + n)) ∧ SliceM intD 2 w' v (marks k n) F ∧ Chg F w w'
theorem take_mark {cur : List Value} {xs : List Int} {k : Int} {i : Nat} (h : cur.take xs.length = (marks k i ++ xs.drop i).map (Value.int .i64)) (hi : i < xs.length) (hl : xs.length ≤ cur.length) :
    (cur.set i (.int .i64 (k + (i : Int)))).take xs.length = (marks k (i + 1) ++ xs.drop (i + 1)).map (Value.int .i64) := by
  rw [List.take_set, h, marks_succ, List.drop_eq_getElem_cons hi, List.map_append, List.map_cons, List.set_append]
  simp [marks_len]

/-- What is told behind marks that were laid from k on: the next mark; -1 where one is another. -/
def heldI (k : Int) (xs : List Int) : Int := if xs = marks k xs.length then k + xs.length else -1
theorem heldI_neg {k : Int} {xs : List Int} {i : Nat} {x : Int} (hx : xs[i]? = some x) (hne : x ≠ k + (i : Int)) : heldI k xs = -1 := by
  refine if_neg fun h => hne ?_
  have hi := (List.getElem?_eq_some_iff.1 hx).1
  rw [h, marks_get _ _ _ hi] at hx
  simpa using hx.symm

theorem heldI_nn {k : Int} (h : 0 ≤ k) (xs : List Int) : heldI k xs < 0 ↔ ¬ xs = marks k xs.length := by
  unfold heldI; split
  · rename_i h1; constructor
    · intro h2; omega
    · intro h2; exact absurd h1 h2
  · rename_i h1; exact ⟨fun _ => h1, fun _ => by omega⟩
theorem heldI_spec {k r : Int} {xs : List Int} (h : r = heldI k xs) (h0 : 0 ≤ k) : (r = k + xs.length ∧ xs = marks k xs.length) ∨ (r = -1 ∧ ¬ xs = marks k xs.length) := by
  subst h; unfold heldI; split
  · rename_i h1; exact .inl ⟨rfl, h1⟩
  · rename_i h1; exact .inr ⟨rfl, h1⟩
end Go.Proofs.Ytccgjnanphonnaa
