/- What the laws over presences share. -/
import Derived.Test.YtodmongmaoeknaaRGround
import Derived.Test.YtodmongmaoeknaaRTypes
namespace Go.Proofs.Ytodmongmaoeknaa
open Go Go.RowKit
set_option linter.unusedVariables false

theorem cntAll_const {α : Type} {cnt : α → Nat} {c : Nat} (h : ∀ x, cnt x = c) : ∀ xs : List α, cntAll cnt xs = c * xs.length
  | [] => by simp [cntAll]
  | x :: xs => by rw [cntAll, h, cntAll_const h xs, List.length_cons, Nat.mul_add]; omega
theorem presence_MK {w : World} {x : Presence} {v0 v1 v2 : Value} {F : List Nat} (h : presenceD.M w x [v0, v1, v2] F) : SliceK leaseD w v0 x.here ∧ SliceK leaseD w v1 x.typing ∧ SliceK markD w v2 x.marks := by
  obtain ⟨u0, u1, u2, h1, h2, h3, h4⟩ := presence_K (presenceD.M_K h)
  simp only [List.cons.injEq, and_true] at h1
  obtain ⟨rfl, rfl, rfl⟩ := h1
  exact ⟨h2, h3, h4⟩
theorem fewPresence_of {l : Presence} (h : sizePresence l ≤ 1048576) : fewPresence l := by
  unfold sizePresence at h
  exact ⟨by omega, by omega, by omega⟩
theorem tcntPresence_le (l : Presence) : tcntPresence l ≤ 8 * sizePresence l := by
  have h1 := cntAll_const (cnt := cntLease) (c := 2) (fun _ => rfl) l.here
  have h2 := cntAll_const (cnt := cntLease) (c := 2) (fun _ => rfl) l.typing
  have h3 := cntAll_const (cnt := cntMark) (c := 2) (fun _ => rfl) l.marks
  unfold tcntPresence sizePresence; omega
end Go.Proofs.Ytodmongmaoeknaa
