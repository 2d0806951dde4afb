/- Two texts are compared: the library's word, and the order of texts. -/
import Derived.Test.YticjphaagmnahaaRGround
import Derived.Lib.Bytealg
import Derived.Laws.Externs
import Derived.Sort.Walk0
namespace Go.Proofs.Yticjphaagmnahaa
open Go Go.RowKit
set_option linter.unusedVariables false
set_option linter.unusedSimpArgs false

/-! ### the order of texts -/
def txLt (a b : ByteArray) : Bool := Op.bytesLess a.toList b.toList
theorem txLt_iff {a b : ByteArray} : txLt a b = true ↔ a.toList < b.toList := by
  unfold txLt
  rw [bytesLess_eq, decide_eq_true_iff]
theorem ba_toList (a : ByteArray) : a.toList = a.data.toList := ByteArray.toList_eq a
theorem tx_eq {a b : ByteArray} (h : a.toList = b.toList) : a = b := by
  rw [ba_toList, ba_toList] at h
  cases a; cases b
  simp at h
  rw [h]
theorem txLt_trans {a b c : ByteArray} (h : txLt a b = true) (h2 : txLt b c = true) : txLt a c = true := by
  rw [txLt_iff] at *; exact List.lt_trans h h2
theorem txLt_irrefl (a : ByteArray) : txLt a a = false := by
  rw [Bool.eq_false_iff]; intro h; rw [txLt_iff] at h; exact List.lt_irrefl _ h
theorem txLt_asymm {a b : ByteArray} (h : txLt a b = true) : txLt b a = false := by
  rw [Bool.eq_false_iff]; intro h2
  have := txLt_trans h h2
  rw [txLt_irrefl] at this; cases this
theorem txLt_total {a b : ByteArray} (h : txLt a b = false) (h2 : txLt b a = false) : a = b := by
  have h3 : ¬ a.toList < b.toList := fun h4 => by rw [txLt_iff.2 h4] at h; cases h
  have h4 : ¬ b.toList < a.toList := fun h5 => by rw [txLt_iff.2 h5] at h2; cases h2
  exact tx_eq (List.le_antisymm (List.not_lt.1 h4) (List.not_lt.1 h3))
theorem cmpB_lt : ∀ (a b : List UInt8), Lib.compareBytes a b < 0 ↔ a < b
  | [], [] => by simp [Lib.compareBytes]
  | [], _ :: _ => by simp [Lib.compareBytes]
  | _ :: _, [] => by simp [Lib.compareBytes]
  | x :: a, y :: b => by
    rw [List.cons_lt_cons_iff]
    unfold Lib.compareBytes
    by_cases h : x < y
    · simp [h]
    · by_cases h2 : y < x
      · have h3 : x ≠ y := fun e => by subst e; exact h h2
        simp [h, h2, h3]
      · have h3 : x = y := UInt8.le_antisymm (UInt8.not_lt.1 h2) (UInt8.not_lt.1 h)
        subst h3
        simp [h, cmpB_lt a b]
theorem cmpB_zero : ∀ (a b : List UInt8), Lib.compareBytes a b = 0 ↔ a = b
  | [], [] => by simp [Lib.compareBytes]
  | [], _ :: _ => by simp [Lib.compareBytes]
  | _ :: _, [] => by simp [Lib.compareBytes]
  | x :: a, y :: b => by
    unfold Lib.compareBytes
    by_cases h : x < y
    · have h3 : x ≠ y := fun e => by subst e; exact UInt8.lt_irrefl _ h
      simp [h, h3]
    · by_cases h2 : y < x
      · have h3 : x ≠ y := fun e => by subst e; exact h h2
        simp [h, h2, h3]
      · have h3 : x = y := UInt8.le_antisymm (UInt8.not_lt.1 h2) (UInt8.not_lt.1 h)
        subst h3
        simp [h, cmpB_zero a b]
/-- What strings.Compare says. -/
def cmpT (a b : ByteArray) : Int := Lib.compareBytes a.data.toList b.data.toList
theorem cmpT_neg (a b : ByteArray) : cmpT a b < 0 ↔ txLt a b = true := by
  unfold cmpT; rw [cmpB_lt, txLt_iff, ba_toList, ba_toList]
theorem cmpT_zero (a b : ByteArray) : cmpT a b = 0 ↔ a = b := by
  unfold cmpT; rw [cmpB_zero]
  constructor
  · intro h; exact tx_eq (by rw [ba_toList, ba_toList, h])
  · rintro rfl; rfl
set_option maxHeartbeats 1000000 in
set_option maxRecDepth 100000 in
theorem compareString_c (a b : ByteArray) (w : World) : Calls Try.prog 183 #[.string a, .string b] w fun e w' => e = .returned (.int .i64 (cmpT a b)) ∧ w = w' := by
  go_enter Try.func183, Try.ntmps183
  go_wp2
  rw [run_callFunc_extern Try.func195 (by kernel_rfl) (by kernel_rfl) (by kernel_rfl) (e := Extern.BytealgCompare.compare) (by kernel_rfl), Lib.run_compareString]
  simp only [Result.andThen]
  rw [Oper.upon_value]
  go_wp2
  go_ret
  exact ⟨rfl, rfl⟩
theorem stringsCompare_c (a b : ByteArray) (w : World) : Calls Try.prog 149 #[.string a, .string b] w fun e w' => e = .returned (.int .i64 (cmpT a b)) ∧ w = w' := by
  go_enter Try.func149, Try.ntmps149
  go_wp2_with (go_at_call 183; refine (compareString_c _ _ _).mono ?_; rintro e w' ⟨rfl, rfl⟩)
  go_ret
  exact ⟨rfl, rfl⟩
end Go.Proofs.Yticjphaagmnahaa
