/- Somebody joins, is invited or banned: the program. -/
import Derived.Test.YtglhepbcbildpaaSortFn
import Derived.Test.YtglhepbcbildpaaWithout
import Derived.Test.YtglhepbcbildpaaMayTo
import Derived.Test.YtglhepbcbildpaaRoomPlain2
import Derived.Deep.RegionLaw
import Derived.Deep.DrawnRows
namespace Go.Proofs.Ytglhepbcbildpaa
open Go Go.RowKit Go.BigFrame
set_option linter.unusedVariables false
set_option linter.unusedSimpArgs false
attribute [local go_sem ↓] Go.wp_at_zero Go.wp_at_succ
def bannB (r : Room) (n : Int) : Bool := decide (0 ≤ idxP (banIs n) r.bans)
def invitedB (r : Room) (n a : Int) : Bool := decide (0 ≤ idxP (fun v : Invite => decide (v.id = n) && decide (a ≤ v.until_)) r.invites)
theorem members_of {r : Room} {n : Int} (h : hasId r n = false) : dropP (idIs n) r.members = r.members := dropP_none (by unfold hasId at h; simpa using h)
theorem bans_of {r : Room} {n : Int} (h : bannB r n = false) : dropP (banIs n) r.bans = r.bans := dropP_none (by unfold bannB at h; simpa using h)
theorem mem_ne {r : Room} {n : Int} (h : hasId r n = false) : ∀ x ∈ r.members, x.id ≠ n := by
  intro x hx e
  have : hasId r n = true := hasId_true.2 ⟨x, hx, e⟩
  rw [h] at this; cases this
theorem inv_ne {r : Room} {n : Int} : ∀ x ∈ dropP (invIs n) r.invites, x.id ≠ n := by
  intro x hx
  have := (List.mem_filter.1 hx).2
  simpa [invIs] using this
theorem ban_ne {r : Room} {n : Int} : ∀ x ∈ dropP (banIs n) r.bans, x.id ≠ n := by
  intro x hx
  have := (List.mem_filter.1 hx).2
  simpa [banIs] using this
def newI (n id u : Int) : Invite := ⟨id, n, u⟩
def newM (id a : Int) : Member := ⟨id, 1, a, 0⟩
def newB (id u : Int) : Ban := ⟨id, u⟩
def inviteF (n id u a : Int) (r : Room) : Room × Bool := ({ r with invites := insK Invite.id (newI n id u) (dropP (invIs id) r.invites) }, mayToB r n id 3 a && (!hasId r id && (!bannB r id && decide (a ≤ u))))
def joinF (id a : Int) (r : Room) : Room × Bool := ({ r with members := insK Member.id (newM id a) r.members, invites := dropP (invIs id) r.invites }, !hasId r id && (!bannB r id && (r.open_ || invitedB r id a)))
def banishF (n id u a : Int) (r : Room) : Room × Bool := ({ r with members := dropP (idIs id) r.members, invites := dropP (invIs id) r.invites, bans := insK Ban.id (newB id u) (dropP (banIs id) r.bans) }, mayToB r n id 6 a && decide (a ≤ u))
def inviteV (r : Room) (n id u a : Int) : Room := chR r (inviteF n id u a)
def inviteOk (r : Room) (n id u a : Int) : Bool := chOk r (inviteF n id u a)
def joinV (r : Room) (id a : Int) : Room := chR r (joinF id a)
def joinOk (r : Room) (id a : Int) : Bool := chOk r (joinF id a)
def banishV (r : Room) (n id u a : Int) : Room := chR r (banishF n id u a)
def banishOk (r : Room) (n id u a : Int) : Bool := chOk r (banishF n id u a)
theorem few_without {r : Room} (h : validRoomB r = true) (n : Int) : (dropP (idIs n) r.members).length ≤ 32 ∧ (dropP (invIs n) r.invites).length ≤ 16 ∧ (dropP (banIs n) r.bans).length ≤ 16 := by
  have hV := valid_iff.1 h
  exact ⟨Nat.le_trans (dropP_le _ _) hV.m32, Nat.le_trans (dropP_le _ _) hV.i16, Nat.le_trans (dropP_le _ _) hV.b16⟩
end Go.Proofs.Ytglhepbcbildpaa
