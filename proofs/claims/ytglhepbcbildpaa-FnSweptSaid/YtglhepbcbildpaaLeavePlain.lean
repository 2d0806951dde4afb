/- Somebody leaves a room, in plain data. -/
import Derived.Test.YtglhepbcbildpaaRankPlain
import Derived.Test.YtglhepbcbildpaaWithout
namespace Go.Proofs.Ytglhepbcbildpaa
open Go Go.RowKit
set_option linter.unusedVariables false
set_option linter.unusedSimpArgs false

theorem hasId_of2 {r : Room} {n : Int} (h : hasId r n = false) : dropP (idIs n) r.members = r.members := dropP_none (by unfold hasId at h; simpa using h)
theorem invd_of2 {r : Room} {n : Int} (h : invd r n = false) : dropP (invIs n) r.invites = r.invites := dropP_none (by unfold invd at h; simpa using h)
theorem bans_of2 {r : Room} {n : Int} (h : ∀ b ∈ r.bans, b.id ≠ n) : dropP (banIs n) r.bans = r.bans := by
  unfold dropP
  rw [List.filter_eq_self]
  intro b hb
  have := h b hb
  simp [banIs, this]
theorem leave_eq {r : Room} {n : Int} (hv : validRoomB r = true) (hid : hasId r n = true) : withoutR r n = { r with members := dropP (idIs n) r.members } := by
  have hV := valid_iff.1 hv
  have h1 : invd r n = false := by
    rw [Bool.eq_false_iff]; intro h
    obtain ⟨v, hm, rfl⟩ := invd_true.1 h
    have := hV.iok v hm
    simp [invOkB, hid] at this
  have h2 : ∀ b ∈ r.bans, b.id ≠ n := by
    intro b hb e
    subst e
    have := hV.bok b hb
    simp [banOkB, hid] at this
  unfold withoutR
  rw [invd_of2 h1, bans_of2 h2]
/-- Somebody becomes an owner, if none is left. -/
def heirR (x : Room) : Room := if ownB x.members then x else match rankS x.members with
  | [] => x
  | b :: _ => { x with members := x.members.set (idxP (idIs b.id) x.members).toNat { b with role := 3 } }
def leaveF (n : Int) (r : Room) : Room × Bool := (heirR (withoutR r n), hasId r n && decide (r.members.length ≠ 1))
def leaveV (r : Room) (n : Int) : Room := chR r (leaveF n)
def leaveOk (r : Room) (n : Int) : Bool := chOk r (leaveF n)
theorem heirR_own {x : Room} (h : ownB x.members = true) : heirR x = x := by simp [heirR, h]
theorem heirR_no {x : Room} (hd : DistId x.members) (h : ownB x.members = false) {k : Nat} {b : Member} (hk : x.members[k]? = some b) (hb : ∀ y ∈ x.members, y ≠ b → befM b y = true) :
    heirR x = { x with members := x.members.set k { b with role := 3 } } ∧ idxP (idIs b.id) x.members = (k : Int) := by
  have hr := rank_best hd (List.mem_of_getElem? hk) hb
  have hi : idxP (idIs b.id) x.members = (k : Int) := by
    refine idxP_hit (fun j y hj hy => ?_) hk (by simp [idIs])
    have hkl := (List.getElem?_eq_some_iff.1 hk).1
    have h1 := List.pairwise_iff_getElem.1 hd j k (by omega) hkl hj
    rw [(List.getElem?_eq_some_iff.1 hk).2, (List.getElem?_eq_some_iff.1 hy).2] at h1
    simp [idIs]; omega
  refine ⟨?_, hi⟩
  simp [heirR, h, hr, hi]
theorem leave_len {r : Room} {n : Int} (hv : validRoomB r = true) (hid : hasId r n = true) : (dropP (idIs n) r.members).length + 1 = r.members.length := by
  obtain ⟨m, hm, rfl⟩ := hasId_true.1 hid
  have := (cons_drop (valid_iff.1 hv).mp hm).length_eq
  simpa using this
theorem rank_cons {ms : List Member} (h : 0 < ms.length) : ∃ b t, rankS ms = b :: t := by
  rcases hr : rankS ms with _ | ⟨b, t⟩
  · have := (rankS_perm ms).length_eq
    rw [hr] at this; simp at this; omega
  · exact ⟨b, t, rfl⟩
theorem rank_head {ms : List Member} (hd : DistId ms) {b : Member} {t : List Member} (h : rankS ms = b :: t) : ∃ k : Nat, ms[k]? = some b ∧ ∀ y ∈ ms, y ≠ b → befM b y = true := by
  have hp := rankS_perm ms
  have hb : b ∈ ms := hp.mem_iff.1 (by rw [h]; exact List.mem_cons_self)
  obtain ⟨k, hk⟩ := List.getElem?_of_mem hb
  refine ⟨k, hk, fun y hy hne => ?_⟩
  have h2 := rankS_pw ms
  rw [h, List.pairwise_cons] at h2
  have hyt : y ∈ t := by
    have := hp.mem_iff.2 hy
    rw [h] at this
    rcases List.mem_cons.1 this with h3 | h3
    · exact absurd h3 hne
    · exact h3
  have h3 := h2.1 y hyt
  have hne2 : b.id ≠ y.id := fun e => hne (dist_inj hd hy hb e.symm)
  rcases befM_total hne2 with h4 | h4
  · exact h4
  · rw [h4] at h3; cases h3
theorem leave_valid {r : Room} {n : Int} (hv : validRoomB r = true) (hid : hasId r n = true) (hl : r.members.length ≠ 1) : validRoomB (heirR (withoutR r n)) = true := by
  have hV := valid_iff.1 hv
  have hlen := leave_len hv hid
  rw [leave_eq hv hid]
  have hd : DistId (dropP (idIs n) r.members) := drop_dist hV.mp _
  have hsub : ∀ m ∈ dropP (idIs n) r.members, m ∈ r.members := fun m hm => (List.mem_filter.1 hm).1
  have hno : ∀ (ms : List Member), (∀ m ∈ ms, ∃ m' ∈ r.members, m'.id = m.id) → ∀ q, hasId r q = false → hasId { r with members := ms } q = false := by
    intro ms hs q hq
    rw [Bool.eq_false_iff]; intro h
    obtain ⟨m, hm, rfl⟩ := hasId_true.1 h
    obtain ⟨m', hm', he⟩ := hs m hm
    have : hasId r m.id = true := hasId_true.2 ⟨m', hm', he⟩
    rw [hq] at this; cases this
  have build : ∀ (ms : List Member), ms.length = (dropP (idIs n) r.members).length → (∀ m ∈ ms, memOkB m = true) → DistId ms → (∀ m ∈ ms, ∃ m' ∈ r.members, m'.id = m.id) → ownB ms = true → validRoomB { r with members := ms } = true := by
    intro ms h1 h2 h3 h4 h5
    refine valid_iff.2 ⟨?_, ?_, hV.i16, hV.b16, h2, h3, ?_, hV.ip, ?_, hV.bp, h5⟩
    · show 1 ≤ ms.length
      have := hV.m1; omega
    · show ms.length ≤ 32
      have := hV.m32; omega
    · intro v hm
      have := hV.iok v hm
      simp only [invOkB, Bool.and_eq_true, Bool.not_eq_true'] at this ⊢
      exact ⟨this.1, hno ms h4 _ this.2⟩
    · intro b hb
      have := hV.bok b hb
      simp only [banOkB, Bool.and_eq_true, Bool.not_eq_true'] at this ⊢
      exact ⟨⟨this.1.1, hno ms h4 _ this.1.2⟩, this.2⟩
  by_cases ho : ownB (dropP (idIs n) r.members) = true
  · rw [heirR_own ho]
    exact build _ rfl (fun m hm => hV.mok m (hsub m hm)) hd (fun m hm => ⟨m, hsub m hm, rfl⟩) ho
  · have ho' : ownB (dropP (idIs n) r.members) = false := by simpa using ho
    obtain ⟨b, t, hr⟩ := rank_cons (ms := dropP (idIs n) r.members) (by have := hV.m1; omega)
    obtain ⟨k, hk, hb⟩ := rank_head hd hr
    have hkl := (List.getElem?_eq_some_iff.1 hk).1
    rw [(heirR_no (x := { r with members := dropP (idIs n) r.members }) hd ho' hk hb).1]
    have hbm := hsub b (List.mem_of_getElem? hk)
    have hbo := hV.mok b hbm
    have hids : ((dropP (idIs n) r.members).set k { b with role := 3 }).map Member.id = (dropP (idIs n) r.members).map Member.id := map_set _ hk rfl
    refine build _ (by simp) (fun m hm => ?_) (pair_map _ hids hd) (fun m hm => ?_) ?_
    · rcases List.mem_or_eq_of_mem_set hm with h | h
      · exact hV.mok m (hsub m h)
      · subst h
        simp only [memOkB, Bool.and_eq_true] at hbo ⊢
        exact ⟨⟨⟨hbo.1.1.1, by simp [inB]⟩, hbo.1.2⟩, hbo.2⟩
    · rcases List.mem_or_eq_of_mem_set hm with h | h
      · exact ⟨m, hsub m h, rfl⟩
      · subst h; exact ⟨b, hbm, rfl⟩
    · unfold ownB
      rw [List.any_eq_true]
      exact ⟨{ b with role := 3 }, List.mem_iff_getElem?.2 ⟨k, by simp [hkl]⟩, by simp⟩
end Go.Proofs.Ytglhepbcbildpaa
