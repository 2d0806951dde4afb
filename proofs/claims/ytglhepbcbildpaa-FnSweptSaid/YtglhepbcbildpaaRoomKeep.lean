/- Valid rooms stay valid, in plain data. -/
import Derived.Test.YtglhepbcbildpaaRoomPlain2
import Derived.Test.YtglhepbcbildpaaInsPlain
import Derived.Test.YtglhepbcbildpaaLeavePlain
import Derived.Test.YtglhepbcbildpaaJoin
namespace Go.Proofs.Ytglhepbcbildpaa
open Go Go.RowKit
set_option linter.unusedVariables false
set_option linter.unusedSimpArgs false

theorem idxP_any {α : Type} (p : α → Bool) (l : List α) : decide (0 ≤ idxP p l) = l.any p := by
  rw [Bool.eq_iff_iff, decide_eq_true_eq, List.any_eq_true]
  constructor
  · intro h
    obtain ⟨k, x, hk, hl, hx, hp⟩ := idxP_found h
    exact ⟨x, List.mem_of_getElem? hx, hp⟩
  · rintro ⟨x, hx, hp⟩
    by_cases h : 0 ≤ idxP p l
    · exact h
    · exfalso
      have h2 := dropP_none (p := p) (xs := l) (by omega)
      rw [← h2] at hx
      simp [dropP, hp] at hx
theorem hasId_no {r : Room} {n : Int} : hasId r n = false ↔ ∀ m ∈ r.members, m.id ≠ n := by
  rw [Bool.eq_false_iff, Ne, hasId_true]
  constructor
  · intro h m hm e; exact h ⟨m, hm, e⟩
  · rintro h ⟨m, hm, e⟩; exact h m hm e
theorem invd_no {r : Room} {n : Int} : invd r n = false ↔ ∀ m ∈ r.invites, m.id ≠ n := by
  rw [Bool.eq_false_iff, Ne, invd_true]
  constructor
  · intro h m hm e; exact h ⟨m, hm, e⟩
  · rintro h ⟨m, hm, e⟩; exact h m hm e
theorem bannB_true {r : Room} {n : Int} : bannB r n = true ↔ ∃ b ∈ r.bans, b.id = n := by
  unfold bannB
  rw [idxP_any, List.any_eq_true]
  constructor
  · rintro ⟨b, hb, h⟩; exact ⟨b, hb, by simpa [banIs] using h⟩
  · rintro ⟨b, hb, h⟩; exact ⟨b, hb, by simpa [banIs] using h⟩
theorem bannB_no {r : Room} {n : Int} : bannB r n = false ↔ ∀ b ∈ r.bans, b.id ≠ n := by
  rw [Bool.eq_false_iff, Ne, bannB_true]
  constructor
  · intro h m hm e; exact h ⟨m, hm, e⟩
  · rintro h ⟨m, hm, e⟩; exact h m hm e
/-- Other members, and no more invites and bans. -/
theorem VRoom.sub {r x : Room} (h : VRoom r) (m1 : 1 ≤ x.members.length) (m32 : x.members.length ≤ 32) (mok : ∀ m ∈ x.members, memOkB m = true) (mp : x.members.Pairwise fun x y => x.id < y.id) (own : ownB x.members = true)
    (hi : x.invites.Sublist r.invites) (hb : x.bans.Sublist r.bans) (hid : ∀ m ∈ x.members, hasId r m.id = true ∨ ((∀ v ∈ x.invites, v.id ≠ m.id) ∧ ∀ b ∈ x.bans, b.id ≠ m.id)) : VRoom x := by
  refine ⟨m1, m32, Nat.le_trans hi.length_le h.i16, Nat.le_trans hb.length_le h.b16, mok, mp, fun v hv => ?_, h.ip.sublist hi, fun b hv => ?_, h.bp.sublist hb, own⟩
  · have h1 := h.iok v (hi.mem hv)
    simp only [invOkB, Bool.and_eq_true, Bool.not_eq_true'] at h1 ⊢
    refine ⟨h1.1, hasId_no.2 fun m hm e => ?_⟩
    rcases hid m hm with h2 | h2
    · rw [e, h1.2] at h2; cases h2
    · exact h2.1 v hv e.symm
  · have h1 := h.bok b (hb.mem hv)
    simp only [banOkB, Bool.and_eq_true, Bool.not_eq_true'] at h1 ⊢
    refine ⟨⟨h1.1.1, hasId_no.2 fun m hm e => ?_⟩, invd_no.2 fun v hw => invd_no.1 h1.2 v (hi.mem hw)⟩
    rcases hid m hm with h2 | h2
    · rw [e, h1.1.2] at h2; cases h2
    · exact h2.2 b hv e.symm
theorem dropP_sub {α : Type} (p : α → Bool) (l : List α) : (dropP p l).Sublist l := List.filter_sublist
theorem mem_dropP {α : Type} {p : α → Bool} {l : List α} {x : α} : x ∈ dropP p l ↔ x ∈ l ∧ p x = false := by simp [dropP]
theorem ownB_iff {l : List Member} : ownB l = true ↔ ∃ m ∈ l, m.role = 3 := by simp [ownB]
/-- Who joins. -/
theorem joinF_valid {r : Room} {id a : Int} (h : VRoom r) (h31 : r.members.length ≤ 31) (hf : (joinF id a r).2 = true) (h1 : inB id 1 1000 = true) (h2 : inB a 0 1000000 = true) : VRoom (joinF id a r).1 := by
  simp only [joinF, Bool.and_eq_true, Bool.not_eq_true'] at hf
  obtain ⟨hn, hb, -⟩ := hf
  have hne := hasId_no.1 hn
  refine h.sub (x := (joinF id a r).1) ?_ ?_ ?_ ?_ ?_ (dropP_sub _ _) (List.Sublist.refl _) ?_
  · show 1 ≤ (insK Member.id (newM id a) r.members).length
    rw [insK_len]; omega
  · show (insK Member.id (newM id a) r.members).length ≤ 32
    rw [insK_len]; omega
  · intro m hm
    rcases (insK_mem Member.id (newM id a)).1 hm with rfl | hm
    · simp only [memOkB, newM, h1, h2, Bool.and_eq_true]; decide
    · exact h.mok m hm
  · exact insK_sorted Member.id (newM id a) h.mp hne
  · obtain ⟨o, ho, hr⟩ := ownB_iff.1 h.own
    exact ownB_iff.2 ⟨o, (insK_mem Member.id (newM id a)).2 (.inr ho), hr⟩
  · intro m hm
    rcases (insK_mem Member.id (newM id a)).1 hm with rfl | hm
    · refine .inr ⟨fun v hv => ?_, fun b hv => bannB_no.1 hb b hv⟩
      have := (mem_dropP.1 hv).2
      show v.id ≠ id
      simpa [invIs] using this
    · exact .inl (hasId_true.2 ⟨m, hm, rfl⟩)
theorem set_ids {l : List Member} {k : Nat} {b b' : Member} (hk : l[k]? = some b) (hi : b'.id = b.id) : (l.set k b').map Member.id = l.map Member.id := map_set _ hk hi
/-- Who leaves. -/
theorem leaveF_valid {r : Room} {n : Int} (h : VRoom r) (hf : (leaveF n r).2 = true) : VRoom (leaveF n r).1 ∧ (leaveF n r).1.members.length + 1 = r.members.length ∧ hasId (leaveF n r).1 n = false := by
  simp only [leaveF, Bool.and_eq_true, decide_eq_true_eq] at hf
  obtain ⟨hid, hl⟩ := hf
  have hv := valid_iff.2 h
  have hlen := leave_len hv hid
  have hm1 := h.m1
  have hm32 := h.m32
  have hids : ∀ m ∈ dropP (idIs n) r.members, m.id ≠ n := fun m hm => by have := (mem_dropP.1 hm).2; simpa [idIs] using this
  have hsub := dropP_sub (idIs n) r.members
  cases ho : ownB (dropP (idIs n) r.members) with
  | true =>
    have e : (leaveF n r).1 = withoutR r n := heirR_own ho
    rw [e]
    refine ⟨h.sub (x := withoutR r n) ?_ ?_ ?_ ?_ ho (dropP_sub _ _) (dropP_sub _ _) ?_, hlen, hasId_no.2 hids⟩
    · show 1 ≤ (dropP (idIs n) r.members).length; omega
    · show (dropP (idIs n) r.members).length ≤ 32; omega
    · exact fun m hm => h.mok m (hsub.mem hm)
    · exact h.mp.sublist hsub
    · exact fun m hm => .inl (hasId_true.2 ⟨m, hsub.mem hm, rfl⟩)
  | false =>
    obtain ⟨b, t, hr⟩ := rank_cons (ms := dropP (idIs n) r.members) (by omega)
    have hd : DistId (dropP (idIs n) r.members) := h.mp.sublist hsub
    obtain ⟨k, hk, hb⟩ := rank_head hd hr
    have e : (leaveF n r).1 = { withoutR r n with members := (dropP (idIs n) r.members).set k { b with role := 3 } } := (heirR_no (x := withoutR r n) hd ho hk hb).1
    have hi := set_ids (b' := { b with role := 3 }) hk rfl
    have hkl := (List.getElem?_eq_some_iff.1 hk).1
    have hmem : ∀ m ∈ (dropP (idIs n) r.members).set k { b with role := 3 }, ∃ y ∈ dropP (idIs n) r.members, y.id = m.id := by
      intro m hm
      have : m.id ∈ ((dropP (idIs n) r.members).set k { b with role := 3 }).map Member.id := List.mem_map_of_mem hm
      rw [hi] at this
      obtain ⟨y, hy, e⟩ := List.mem_map.1 this
      exact ⟨y, hy, e⟩
    rw [e]
    refine ⟨h.sub (x := { withoutR r n with members := (dropP (idIs n) r.members).set k { b with role := 3 } }) ?_ ?_ ?_ ?_ ?_ (dropP_sub _ _) (dropP_sub _ _) ?_, by rw [← hlen]; simp, hasId_no.2 fun m hm => ?_⟩
    · show 1 ≤ ((dropP (idIs n) r.members).set k _).length; rw [List.length_set]; omega
    · show ((dropP (idIs n) r.members).set k _).length ≤ 32; rw [List.length_set]; omega
    · intro m hm
      rcases List.mem_or_eq_of_mem_set hm with hm | rfl
      · exact h.mok m (hsub.mem hm)
      · have h5 := h.mok b (hsub.mem (List.mem_of_getElem? hk))
        simp only [memOkB, Bool.and_eq_true] at h5 ⊢
        exact ⟨⟨⟨h5.1.1.1, by decide⟩, h5.1.2⟩, h5.2⟩
    · exact pair_map Member.id hi hd
    · exact ownB_iff.2 ⟨{ b with role := 3 }, List.mem_iff_getElem?.2 ⟨k, by simp [hkl]⟩, rfl⟩
    · intro m hm
      obtain ⟨y, hy, e2⟩ := hmem m hm
      exact .inl (hasId_true.2 ⟨y, hsub.mem hy, e2⟩)
    · obtain ⟨y, hy, e2⟩ := hmem m hm
      rw [← e2]; exact hids y hy
end Go.Proofs.Ytglhepbcbildpaa
