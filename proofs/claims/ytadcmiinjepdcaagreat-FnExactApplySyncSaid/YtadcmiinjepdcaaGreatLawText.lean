/- The laws' own helper markText: the letter m and a number's digits. -/
import Derived.Test.YtadcmiinjepdcaaGreatProg
import Derived.Test.YtadcmiinjepdcaaGreatBase
import Derived.Laws.IdiomStrings
namespace Go.Proofs.YtadcmiinjepdcaaGreat
open Go Go.RowKit
set_option linter.unusedVariables false
set_option linter.unusedSimpArgs false

def digsD : Nat → Nat → ByteArray → ByteArray
  | 0, _, o => o
  | g + 1, n, o => if n = 0 then o else digsD g (n / 10) (⟨#[UInt8.ofNat (48 + n % 10)]⟩ ++ o)
theorem digsD_zero (g : Nat) (o : ByteArray) : digsD g 0 o = o := by cases g <;> simp [digsD]
/-- The text of a mark. -/
def markT (k : Int) : ByteArray := if k ≤ 0 then ⟨#[109, 48]⟩ else ⟨#[109]⟩ ++ digsD 14 k.toNat ⟨#[]⟩

set_option maxHeartbeats 1000000 in
set_option maxRecDepth 100000 in
theorem markText_c (k : Int) (w : World) (h0 : 0 ≤ k) (h1 : k ≤ 1000000000000) :
    Calls Tryz.prog 57 #[.int .i64 k] w fun e w' => e = .returned (.string (markT k)) ∧ Below w.heap.size w w' := by
  obtain ⟨n, rfl⟩ := Int.eq_ofNat_of_zero_le h0
  by_cases hp : 0 < n
  · have HT := hide (show markT (n : Int) = ⟨#[109]⟩ ++ digsD 14 n ⟨#[]⟩ by unfold markT; rw [if_neg (by omega), Int.toNat_natCast])
    have HP := hide (show n < 10 ^ 14 by omega)
    have hp' : (0 : Int) < (n : Int) := by omega
    go_enter Tryz.func57, Tryz.ntmps57
    go_wp2_with fail
    go_loopg [0, 3] 14 (fun gg s0 s3 wr => ∃ (j : Nat) (o : ByteArray), s0 = .int .i64 j ∧ s3 = .string o ∧ (j : Int) ≤ 1000000000000 ∧ o.size + gg ≤ 20 ∧ Hid (j < 10 ^ gg) ∧ Hid (digsD gg j o = digsD 14 n ⟨#[]⟩) ∧ Hid (Below w.heap.size w wr))
    case atStart => exact ⟨n, ⟨#[]⟩, rfl, rfl, h1, by decide, HP, rfl, Below.refl _ _⟩
    case round =>
      obtain ⟨j, o, rfl, rfl, hj, ho, HG, HD, HW⟩ := hrel
      by_cases hlt : 0 < j
      · have hz : (0 : Int) < (j : Int) := by omega
        obtain ⟨g, rfl⟩ : ∃ g, gk = g + 1 := by
          cases gk with
          | zero => have := HG.out; simp at this; omega
          | succ g => exact ⟨g, rfl⟩
        obtain ⟨c, hcv, hcn⟩ : ∃ c : UInt8, (c.toNat : Int) = 48 + (j : Int) % 10 ∧ c = UInt8.ofNat (48 + j % 10) := ⟨_, by simp; omega, rfl⟩
        have kc : ∀ W : World, (convert 112 9 (.slice (some ⟨W.heap.size, 0, none⟩) 1 1)).run Tryz.prog (W.alloc (.cells #[.int .u8 (48 + (j : Int) % 10)] 5)) = .ok (.string ⟨#[c]⟩) (W.alloc (.cells #[.int .u8 (48 + (j : Int) % 10)] 5)) :=
          fun W => run_convert_bytes_back _ 112 9 5 ⟨W.heap.size, 0, none⟩ 1 [c] Tryz.underlying112 Tryz.underlying5 Tryz.underlying9 (fun i hi => by
            obtain rfl : i = 0 := by simpa using hi
            rw [← hcv]; simp [Addr.add])
        have HC := hide hcn
        clear hcv hcn
        go_wp2_with fail
        go_roundg g
        case measure => omega
        case rel =>
          refine ⟨j / 10, ⟨#[c]⟩ ++ o, by simp, rfl, by omega, ?_, hide (by have := HG.out; rw [Nat.pow_succ] at this; omega), hide ?_, hide (HW.out.alloc HW.out.size _)⟩
          · simp only [ByteArray.size_append]
            have : (ByteArray.mk #[c]).size = 1 := rfl
            omega
          · rw [← HD.out, HC.out]
            simp only [digsD]
            rw [if_neg (by omega)]
      · have : j = 0 := by omega
        subst this
        have ho2 : o.size ≤ 20 := by omega
        go_wp2_with fail
        go_ret
        exact ⟨by rw [HT.out, ← HD.out, digsD_zero]; rfl, HW.out⟩
  · obtain rfl : n = 0 := by omega
    go_enter Tryz.func57, Tryz.ntmps57
    go_wp2_with fail
    go_ret
    exact ⟨rfl, Below.refl _ _⟩
end Go.Proofs.YtadcmiinjepdcaaGreat
