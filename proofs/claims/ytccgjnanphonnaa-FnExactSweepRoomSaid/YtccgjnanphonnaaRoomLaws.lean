/- What the laws over rooms share. -/
import Derived.Test.YtccgjnanphonnaaLawWalk
import Derived.Test.YtccgjnanphonnaaLawRoom
namespace Go.Proofs.Ytccgjnanphonnaa
open Go Go.RowKit
set_option linter.unusedVariables false

theorem fewRoom_of {l : Room} (h : sizeRoom l ≤ 1048576) : fewRoom l := by
  unfold sizeRoom at h
  exact ⟨by omega, by omega, by omega⟩
theorem cntAll_const {α : Type} {cnt : α → Nat} {c : Nat} (h : ∀ x, cnt x = c) : ∀ xs : List α, cntAll cnt xs = c * xs.length
  | [] => by simp [cntAll]
  | x :: xs => by rw [cntAll, h, cntAll_const h xs, List.length_cons, Nat.mul_add]; omega
theorem tcntRoom_le (l : Room) : tcntRoom l ≤ 4 * sizeRoom l := by
  have h1 := cntAll_const (cnt := cntMember) (c := 4) (fun _ => rfl) l.members
  have h2 := cntAll_const (cnt := cntInvite) (c := 3) (fun _ => rfl) l.invites
  have h3 := cntAll_const (cnt := cntBan) (c := 2) (fun _ => rfl) l.bans
  unfold tcntRoom sizeRoom; omega
theorem room_MK {w : World} {x : Room} {v1 v2 v3 : Value} {F : List Nat} (h : roomD.M w x [.bool x.open_, v1, v2, v3] F) : SliceK memberD w v1 x.members ∧ SliceK inviteD w v2 x.invites ∧ SliceK banD w v3 x.bans := by
  obtain ⟨u1, u2, u3, h1, h2, h3, h4⟩ := room_K (roomD.M_K h)
  simp only [List.cons.injEq, and_true, true_and] at h1
  obtain ⟨rfl, rfl, rfl⟩ := h1
  exact ⟨h2, h3, h4⟩
end Go.Proofs.Ytccgjnanphonnaa
