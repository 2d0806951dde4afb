/- What the laws over indexes share. -/
import Derived.Test.YticjphaagmnahaaRGround
import Derived.Test.YticjphaagmnahaaRTypes
namespace Go.Proofs.Yticjphaagmnahaa
open Go Go.RowKit
set_option linter.unusedVariables false

theorem index_MK {w : World} {x : Index} {v0 : Value} {F : List Nat} (h : indexD.M w x [v0] F) : SliceK entryD w v0 x.entries := by
  obtain ⟨u1, h1, h2⟩ := index_K (indexD.M_K h)
  simp only [List.cons.injEq, and_true] at h1
  subst h1
  exact h2
theorem sizeAll_getE (f : Entry → Nat) : ∀ (xs : List Entry) (x : Entry), x ∈ xs → f x ≤ sizeAll f xs := sizeAll_mem f
theorem fewIndex_of {l : Index} (h : sizeIndex l ≤ 1048576) : fewIndex l := by
  unfold sizeIndex at h
  refine ⟨by omega, fun y hy => ?_⟩
  have := sizeAll_mem sizeEntry _ y hy
  have h2 : sizeEntry y = y.word.size + y.numbers.length := rfl
  unfold fewEntry
  omega
theorem cntEntries_le : ∀ xs : List Entry, cntAll cntEntry xs ≤ xs.length + sizeAll sizeEntry xs
  | [] => Nat.le_refl _
  | x :: xs => by
    have h1 : cntEntry x = 1 + x.numbers.length := rfl
    have h2 : sizeEntry x = x.word.size + x.numbers.length := rfl
    have := cntEntries_le xs
    simp only [cntAll, sizeAll, List.length_cons]
    omega
theorem tcntIndex_le (l : Index) : tcntIndex l ≤ 8 * sizeIndex l := by
  have := cntEntries_le l.entries
  unfold tcntIndex sizeIndex; omega
end Go.Proofs.Yticjphaagmnahaa
