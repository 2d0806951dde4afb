/- Ranks: the program's call and the reference's. -/
import Derived.Test.YtglhepbcbildpaaRest
import Derived.Test.YtglhepbcbildpaaRoles
import Derived.Test.YtglhepbcbildpaaRanks
import Derived.Test.YtglhepbcbildpaaSpecRoom
namespace Go.Proofs.Ytglhepbcbildpaa
open Go Go.RowKit Go.BigFrame
set_option linter.unusedVariables false
set_option linter.unusedSimpArgs false
def ranksV (r : Room) : List Int := if validRoomB r then (rankS r.members).map Member.id else []
theorem ranksV_len (r : Room) : (ranksV r).length ≤ 32 := by
  unfold ranksV
  split
  · rename_i h
    rw [List.length_map, (rankS_perm _).length_eq]
    exact (valid_iff.1 h).m32
  · simp
set_option maxHeartbeats 4000000 in
theorem ranksOf_c (r : Room) (v1 v2 v3 : Value) (w : World) (h1 : SliceK memberD w v1 r.members) (h2 : SliceK inviteD w v2 r.invites) (h3 : SliceK banD w v3 r.bans) :
    Calls Try.prog 8 #[.agg #[.bool r.open_, v1, v2, v3]] w (RetRow2 intD 2 w (ranksV r) (validRoomB r)) := by
  obtain ⟨A1, c1, rfl⟩ := h1.shape
  obtain ⟨A2, c2, rfl⟩ := h2.shape
  obtain ⟨A3, c3, rfl⟩ := h3.shape
  have HW := hide ((Below.refl w.heap.size w).alloc (Nat.le_refl _) (.cells #[.bool r.open_, .slice A1 r.members.length c1, .slice A2 r.invites.length c2, .slice A3 r.bans.length c3] 28))
  have HBX := hide (RowAt.box (d := roomD) (x := r) (room_K_mk h1 h2 h3) (arr := #[.bool r.open_, .slice A1 r.members.length c1, .slice A2 r.invites.length c2, .slice A3 r.bans.length c3]) rfl 28)
  have HK := hide (And.intro (h1.below HW.out) (And.intro (h2.below HW.out) (h3.below HW.out)))
  clear h1 h2 h3
  by_cases hv : validRoomB r = true
  · have HV := hide hv
    have HR := hide (show ranksV r = (rankS r.members).map Member.id by unfold ranksV; rw [hv]; rfl)
    have HFE := hide (fewR_of hv)
    have HD := hide (show DistId r.members from (valid_iff.1 hv).mp)
    clear hv
    go_enter Try.func8, Try.ntmps8
    go_wp2_with (first
      | (go_at_call 11
         refine (validRoom_c r _ _ _ _ HK.out.1 HK.out.2.1 HK.out.2.2).mono ?_
         rintro e w1 ⟨rfl, hb⟩
         rw [HV.out]
         have HB1 := hide hb
         clear hb)
      | (go_at_call 23
         refine (ranks_c r _ _ _ (HBX.out.below HB1.out) HFE.out HD.out).mono ?_
         rintro e w2 ⟨v, rfl, hmade, hb⟩
         obtain ⟨A, c, rfl⟩ := hmade.shape
         simp only [List.length_map] at hmade
         have HM := hide hmade
         have HB2 := hide hb
         clear hmade hb))
    go_ret2
    rw [HR.out, HV.out]
    have hs := below_step HW.out HB1.out
    exact ⟨_, rfl, HM.out.lower hs.size, below_step hs HB2.out⟩
  · have HV := hide (show validRoomB r = false by simpa using hv)
    have HR := hide (show ranksV r = [] by unfold ranksV; rw [HV.out]; rfl)
    clear hv
    go_enter Try.func8, Try.ntmps8
    go_wp2_with (
      go_at_call 11
      refine (validRoom_c r _ _ _ _ HK.out.1 HK.out.2.1 HK.out.2.2).mono ?_
      rintro e w1 ⟨rfl, hb⟩
      rw [HV.out]
      have HB1 := hide (below_step HW.out hb)
      clear hb)
    go_ret2
    rw [HR.out, HV.out]
    exact ⟨_, rfl, MadeNone _ _, HB1.out⟩
end Go.Proofs.Ytglhepbcbildpaa
