/- A ban is lifted: the reference. -/
import Derived.Test.YtglhepbcbildpaaLift
import Derived.Test.YtglhepbcbildpaaGive
import Derived.Deep.RegionLaw
namespace Go.Proofs.Ytglhepbcbildpaa
open Go Go.RowKit Go.BigFrame
set_option linter.unusedVariables false
set_option linter.unusedSimpArgs false
theorem hasId_of {r : Room} {n : Int} (h : hasId r n = false) : dropP (idIs n) r.members = r.members := dropP_none (by unfold hasId at h; simpa using h)
theorem invd_of {r : Room} {n : Int} (h : invd r n = false) : dropP (invIs n) r.invites = r.invites := dropP_none (by unfold invd at h; simpa using h)
theorem lift_eq {r : Room} {n : Int} (hv : validRoomB r = true) (hb : bannd r n = true) : withoutR r n = { r with bans := dropP (banIs n) r.bans } := by
  have hV := valid_iff.1 hv
  unfold bannd at hb
  obtain ⟨k, b, _, _, hx, hp⟩ := idxP_found (of_decide_eq_true hb)
  have h1 := hV.bok b (List.mem_of_getElem? hx)
  have e : b.id = n := by simpa [banIs] using hp
  simp only [banOkB, Bool.and_eq_true, Bool.not_eq_true'] at h1
  rw [e] at h1
  unfold withoutR
  rw [hasId_of h1.1.2, invd_of h1.2]
theorem lift_valid {r : Room} (hv : validRoomB r = true) (p : Ban → Bool) : validRoomB { r with bans := dropP p r.bans } = true := by
  have hV := valid_iff.1 hv
  exact valid_iff.2 ⟨hV.m1, hV.m32, hV.i16, Nat.le_trans (dropP_le _ _) hV.b16, hV.mok, hV.mp, hV.iok, hV.ip, fun b hb => hV.bok b ((List.mem_filter.1 hb).1), hV.bp.filter _, hV.own⟩
end Go.Proofs.Ytglhepbcbildpaa
