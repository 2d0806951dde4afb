/- A room is copied: the reference. -/
import Derived.Test.YtglhepbcbildpaaRoomCopy
import Derived.Test.YtglhepbcbildpaaRGround
namespace Go.Proofs.Ytglhepbcbildpaa
open Go Go.RowKit Go.BigFrame
set_option linter.unusedVariables false
set_option linter.unusedSimpArgs false
theorem St.room {w0 w : World} {L : List Piece} {x : Room} {v1 v2 v3 : Value} {F1 F2 F3 : List Nat} (h : St w0 w (own banD 41 v3 x.bans F3 :: own inviteD 39 v2 x.invites F2 :: own memberD 55 v1 x.members F1 :: L)) :
    St w0 w (ownD roomD x [.bool x.open_, v1, v2, v3] (F1 ++ (F2 ++ F3)) :: L) := by
  have h1 := h.drop.drop
  have h2 := h.drop
  have hf : (feet (ownD roomD x [.bool x.open_, v1, v2, v3] (F1 ++ (F2 ++ F3)) :: L)).Perm (feet (own banD 41 v3 x.bans F3 :: own inviteD 39 v2 x.invites F2 :: own memberD 55 v1 x.members F1 :: L)) := by
    simp only [feet_cons, ownD, own]
    rw [← List.append_assoc, ← List.append_assoc, ← List.append_assoc]
    refine List.Perm.append_right _ ?_
    rw [List.append_assoc]
    refine List.perm_append_comm.trans ?_
    refine List.Perm.append_right _ List.perm_append_comm |>.trans ?_
    exact List.Perm.refl _
  refine ⟨h.below, fun p hp => ?_, hf.nodup_iff.2 h.nodup, fun b hb => h.ge b (hf.mem_iff.1 hb)⟩
  rcases List.mem_cons.1 hp with rfl | hp
  · exact room_M_mk h1.head h2.head h.head
  · exact h1.all p (List.mem_cons_of_mem _ hp)
end Go.Proofs.Ytglhepbcbildpaa
