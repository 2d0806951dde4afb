/- How many members have each role: the program's call and the reference's. -/
import Derived.Test.YtglhepbcbildpaaSpecRoom
import Derived.Test.YtglhepbcbildpaaRGround
namespace Go.Proofs.Ytglhepbcbildpaa
open Go Go.RowKit Go.BigFrame
attribute [local go_sem] Calm.cell Calm.frozen
set_option linter.unusedVariables false
set_option linter.unusedSimpArgs false

theorem MadeNone {α : Type} {d : Dt α} {e : TypeId} (w w' : World) : Made d e w w' (.slice none 0 0) [] := ⟨[], .inl ⟨rfl, rfl, rfl⟩, by simp, by simp⟩
/-- A returned row that was made behind w, and a Bool; nothing else has turned. -/
def RetRow2 {α : Type} (d : Dt α) (e : TypeId) (w : World) (xs : List α) (ok : Bool) (r : Ending) (w' : World) : Prop :=
  ∃ v, r = .returned (.tuple #[v, .bool ok]) ∧ Made d e w w' v xs ∧ Below w.heap.size w w'
def countL (r : Room) : List Int := if validRoomB r then rolesL r.members else []
theorem countL_len (r : Room) : (countL r).length ≤ 4 := by
  unfold countL; split <;> simp [rolesL]
theorem valid_mems {r : Room} (h : validRoomB r = true) : (∀ m ∈ r.members, inB m.role 0 3 = true) ∧ r.members.length ≤ 32 := by
  simp only [validRoomB, Bool.and_eq_true, decide_eq_true_eq] at h
  exact ⟨mem_roles h.1.1.1.2, by omega⟩
set_option maxHeartbeats 4000000 in
theorem countRoles_c (r : Room) (v1 v2 v3 : Value) (w : World) (h1 : SliceK memberD w v1 r.members) (h2 : SliceK inviteD w v2 r.invites) (h3 : SliceK banD w v3 r.bans) :
    Calls Try.prog 9 #[.agg #[.bool r.open_, v1, v2, v3]] w (RetRow2 intD 2 w (countL r) (validRoomB r)) := by
  obtain ⟨A1, c1, rfl⟩ := h1.shape
  obtain ⟨A2, c2, rfl⟩ := h2.shape
  obtain ⟨A3, c3, rfl⟩ := h3.shape
  have HW := hide ((Below.refl w.heap.size w).alloc (Nat.le_refl _) (.cells #[.bool r.open_, .slice A1 r.members.length c1, .slice A2 r.invites.length c2, .slice A3 r.bans.length c3] 28))
  have HBX := hide (RowAt.box (d := roomD) (x := r) (room_K_mk h1 h2 h3) (arr := #[.bool r.open_, .slice A1 r.members.length c1, .slice A2 r.invites.length c2, .slice A3 r.bans.length c3]) rfl 28)
  have HK := hide (And.intro (h1.below HW.out) (And.intro (h2.below HW.out) (h3.below HW.out)))
  clear h1 h2 h3
  by_cases hv : validRoomB r = true
  · have HV := hide hv
    have HR := hide (show countL r = rolesL r.members by unfold countL; rw [hv]; rfl)
    have HVM := hide (valid_mems hv)
    clear hv
    go_enter Try.func9, Try.ntmps9
    go_wp2_with (first
      | (go_at_call 11
         refine (validRoom_c r _ _ _ _ HK.out.1 HK.out.2.1 HK.out.2.2).mono ?_
         rintro e w1 ⟨rfl, hb⟩
         rw [HV.out]
         have HB1 := hide hb
         clear hb)
      | (go_at_call 24
         refine (roles_c r _ _ _ (HBX.out.below HB1.out) HVM.out.1 (by have := HVM.out.2; omega)).mono ?_
         rintro e w2 ⟨v, rfl, hmade, hb⟩
         obtain ⟨A, c, rfl⟩ := hmade.shape
         have HM := hide hmade
         have HB2 := hide hb
         clear hmade hb))
    go_ret2
    rw [HR.out, HV.out]
    have hs := below_step HW.out HB1.out
    exact ⟨_, rfl, HM.out.lower hs.size, below_step hs HB2.out⟩
  · have HV := hide (show validRoomB r = false by simpa using hv)
    have HR := hide (show countL r = [] by unfold countL; rw [HV.out]; rfl)
    clear hv
    go_enter Try.func9, Try.ntmps9
    go_wp2_with (
      go_at_call 11
      refine (validRoom_c r _ _ _ _ HK.out.1 HK.out.2.1 HK.out.2.2).mono ?_
      rintro e w1 ⟨rfl, hb⟩
      rw [HV.out]
      have HB1 := hide (below_step HW.out hb)
      clear hb)
    go_ret2
    rw [HR.out, HV.out]
    exact ⟨_, rfl, MadeNone _ _, HB1.out⟩
end Go.Proofs.Ytglhepbcbildpaa
