/- Who mutes, gives roles and bans, in plain data. -/
import Derived.Test.YtglhepbcbildpaaGreatJoinedPlain
import Derived.Test.YtglhepbcbildpaaGreatMute
import Derived.Test.YtglhepbcbildpaaGreatLift
namespace Go.Proofs.YtglhepbcbildpaaGreat
open Go Go.RowKit
set_option linter.unusedVariables false
set_option linter.unusedSimpArgs false

theorem mem_find {l : List Member} {m : Member} (hp : l.Pairwise fun x y => x.id < y.id) (hm : m ∈ l) : l.find? (idIs m.id) = some m := by
  induction l with
  | nil => simp at hm
  | cons x t ih =>
    rw [List.pairwise_cons] at hp
    rcases List.mem_cons.1 hm with rfl | hm
    · simp [idIs]
    · have := hp.1 m hm
      rw [List.find?_cons_of_neg (by simp [idIs]; omega)]
      exact ih hp.2 hm
theorem allow_mem {r : Room} {m : Member} {act a : Int} (hp : r.members.Pairwise fun x y => x.id < y.id) (hm : m ∈ r.members) : allowB r m.id act a = (inB a 0 1000000 && (mayB m.role act && (decide (m.quiet ≤ a) || decide (act = 0)))) := by
  unfold allowB; rw [mem_find hp hm]
theorem idx_no {r : Room} {n : Int} : decide (idxP (idIs n) r.members < 0) = !hasId r n := by
  unfold hasId
  by_cases h : 0 ≤ idxP (idIs n) r.members <;> simp [h]
  omega
theorem allow_no {r : Room} {n act a : Int} (h : hasId r n = false) : allowB r n act a = false := allow_none (by unfold hasId at h; simpa using h)
theorem set_mem {r : Room} {m : Member} (hp : r.members.Pairwise fun x y => x.id < y.id) (hm : m ∈ r.members) (f : Member → Member) : ∃ k, r.members[k]? = some m ∧ setMem r m.id f = { r with members := r.members.set k (f m) } := by
  obtain ⟨k, x, hk, hl, hx, hpx⟩ := idxP_found (show 0 ≤ idxP (idIs m.id) r.members by
    have h : hasId r m.id = true := hasId_true.2 ⟨m, hm, rfl⟩
    unfold hasId at h; simpa using h)
  have e : x = m := by
    have h1 := mem_find hp hm
    have h2 := idx_find hk hx
    rw [h1] at h2; exact (Option.some.inj h2).symm
  subst e
  exact ⟨k, hx, setMem_at hk hx⟩
/-- Somebody stands above another one. -/
def aboveV (r : Room) (n id : Int) : Bool := hasId r n && (decide (n ≠ id) && (!hasId r id || decide (roV r id < roV r n)))
section
variable {r : Room} {n id u a act : Int}
theorem ro_ok (h : VRoom r) (n : Int) : roOk r n = hasId r n := by unfold roOk; rw [valid_iff.2 h, Bool.true_and]
theorem ro_at (h : VRoom r) (hh : hasId r n = true) : roV r n = roleAt r n := by unfold roV; rw [ro_ok h, hh]; rfl
theorem mayTo_above (h : VRoom r) (hi : inB id 1 1000 = true) : mayToB r n id act a = (aboveV r n id && isAllowed r n act a) := by
  unfold mayToB isAllowed aboveV
  rw [hi, valid_iff.2 h, Bool.true_and, Bool.true_and, idx_no]
  cases ha : allowB r n act a with
  | false => simp
  | true =>
    have hn : hasId r n = true := by
      cases h2 : hasId r n with
      | true => rfl
      | false => rw [allow_no h2] at ha; cases ha
    rw [hn, ro_at h hn]
    cases hd : hasId r id with
    | false => simp
    | true => rw [ro_at h hd]; simp
theorem muteOk_eq (h : VRoom r) (hi : inB id 1 1000 = true) (hu : inB u 0 1000000 = true) : muteOk r n id u a = (aboveV r n id && (hasId r id && isAllowed r n 4 a)) := by
  unfold muteOk chOk wmF
  simp only []
  rw [valid_iff.2 h, Bool.true_and, mayTo_above h hi]
  cases hd : hasId r id with
  | false => simp
  | true =>
    obtain ⟨m, hm, rfl⟩ := hasId_true.1 hd
    obtain ⟨k, hk, e⟩ := set_mem h.mp hm (fun m => { m with quiet := u })
    rw [e, valid_quiet (valid_iff.2 h) hk u, hu]
    cases aboveV r n m.id <;> simp
/-- An owner stays. -/
theorem owner_stays (h : VRoom r) (ha : aboveV r n id = true) : ∃ o ∈ r.members, o.role = 3 ∧ o.id ≠ id := by
  obtain ⟨o, ho, hr⟩ := ownB_iff.1 h.own
  refine ⟨o, ho, hr, fun e => ?_⟩
  simp only [aboveV, Bool.and_eq_true, Bool.or_eq_true, decide_eq_true_eq, Bool.not_eq_true'] at ha
  obtain ⟨h1, h2, h3⟩ := ha
  have hd : hasId r id = true := hasId_true.2 ⟨o, ho, e⟩
  rcases h3 with h3 | h3
  · rw [hd] at h3; cases h3
  · obtain ⟨b, hb, rfl⟩ := hasId_true.1 h1
    rw [ro_at h hd, ro_at h h1, roleAt_mem h.mp hb, ← e, roleAt_mem h.mp ho, hr] at h3
    have h4 := h.mok b hb
    simp only [memOkB, Bool.and_eq_true] at h4
    have := inB_iff.1 h4.1.1.2
    omega
theorem giveF_valid (h : VRoom r) (ha : aboveV r n id = true) (hu : inB u 0 3 = true) (hd : hasId r id = true) : VRoom (setMem r id (fun m => { m with role := u })) := by
  obtain ⟨m, hm, rfl⟩ := hasId_true.1 hd
  obtain ⟨k, hk, e⟩ := set_mem h.mp hm (fun m => { m with role := u })
  rw [e]
  have hkl := (List.getElem?_eq_some_iff.1 hk).1
  have hi := set_ids (b' := { m with role := u }) hk rfl
  obtain ⟨o, ho, hr, hne⟩ := owner_stays h ha
  refine h.sub (x := { r with members := r.members.set k { m with role := u } }) ?_ ?_ ?_ ?_ ?_ (List.Sublist.refl _) (List.Sublist.refl _) ?_
  · show 1 ≤ (r.members.set k _).length; rw [List.length_set]; exact h.m1
  · show (r.members.set k _).length ≤ 32; rw [List.length_set]; exact h.m32
  · intro x hx
    rcases List.mem_or_eq_of_mem_set hx with hx | rfl
    · exact h.mok x hx
    · have h5 := h.mok m hm
      simp only [memOkB, Bool.and_eq_true] at h5 ⊢
      exact ⟨⟨⟨h5.1.1.1, hu⟩, h5.1.2⟩, h5.2⟩
  · exact pair_map Member.id hi h.mp
  · obtain ⟨j, hj⟩ := List.getElem?_of_mem ho
    have hjk : k ≠ j := fun e2 => by
      subst e2
      rw [hk] at hj; cases hj; exact hne rfl
    refine ownB_iff.2 ⟨o, List.mem_iff_getElem?.2 ⟨j, ?_⟩, hr⟩
    show (r.members.set k _)[j]? = some o
    rw [List.getElem?_set_ne hjk]; exact hj
  · intro x hx
    have : x.id ∈ (r.members.set k { m with role := u }).map Member.id := List.mem_map_of_mem hx
    rw [hi] at this
    obtain ⟨y, hy, e2⟩ := List.mem_map.1 this
    exact .inl (hasId_true.2 ⟨y, hy, e2⟩)
theorem giveOk_eq (h : VRoom r) (hi : inB id 1 1000 = true) (hu : inB u 0 3 = true) : giveOk r n id u a = (aboveV r n id && (hasId r id && isAllowed r n 7 a)) := by
  unfold giveOk chOk giveF
  simp only []
  rw [valid_iff.2 h, Bool.true_and, mayTo_above h hi, hu, Bool.true_and]
  cases hd : hasId r id with
  | false => simp
  | true =>
    cases ha : aboveV r n id with
    | false => simp
    | true => rw [valid_iff.2 (giveF_valid h ha hu hd)]; simp
theorem banishF_valid (h : VRoom r) (hb : r.bans.length ≤ 15) (ha : aboveV r n id = true) (hi : inB id 1 1000 = true) (hu : inB u 0 1000000 = true) : VRoom (banishF n id u a r).1 := by
  obtain ⟨o, ho, hr, hne⟩ := owner_stays h ha
  have hsub := dropP_sub (idIs id) r.members
  have hmem : o ∈ dropP (idIs id) r.members := mem_dropP.2 ⟨ho, by simp [idIs, hne]⟩
  have hids : ∀ m ∈ dropP (idIs id) r.members, m.id ≠ id := fun m hm => by have := (mem_dropP.1 hm).2; simpa [idIs] using this
  have hinv : ∀ m ∈ dropP (invIs id) r.invites, m.id ≠ id := fun m hm => by have := (mem_dropP.1 hm).2; simpa [invIs] using this
  have hbne : ∀ b ∈ dropP (banIs id) r.bans, b.id ≠ id := fun m hm => by have := (mem_dropP.1 hm).2; simpa [banIs] using this
  have hv : VRoom { r with members := dropP (idIs id) r.members, invites := dropP (invIs id) r.invites, bans := dropP (banIs id) r.bans } := by
    refine h.sub (x := { r with members := dropP (idIs id) r.members, invites := dropP (invIs id) r.invites, bans := dropP (banIs id) r.bans }) ?_ ?_ ?_ ?_ ?_ (dropP_sub _ _) (dropP_sub _ _) ?_
    · exact List.length_pos_of_mem hmem
    · exact Nat.le_trans hsub.length_le h.m32
    · exact fun m hm => h.mok m (hsub.mem hm)
    · exact h.mp.sublist hsub
    · exact ownB_iff.2 ⟨o, hmem, hr⟩
    · exact fun m hm => .inl (hasId_true.2 ⟨m, hsub.mem hm, rfl⟩)
  refine ⟨hv.m1, hv.m32, hv.i16, ?_, hv.mok, hv.mp, hv.iok, hv.ip, fun b hbm => ?_, insK_sorted Ban.id (newB id u) hv.bp hbne, hv.own⟩
  · show (insK Ban.id (newB id u) (dropP (banIs id) r.bans)).length ≤ 16
    rw [insK_len]
    have := dropP_le (banIs id) r.bans; omega
  · rcases (insK_mem Ban.id (newB id u)).1 hbm with rfl | hbm
    · simp only [banOkB, Bool.and_eq_true, Bool.not_eq_true']
      exact ⟨⟨⟨hi, hu⟩, hasId_no.2 hids⟩, invd_no.2 hinv⟩
    · exact hv.bok b hbm
theorem banishOk_eq (h : VRoom r) (hb : r.bans.length ≤ 15) (hi : inB id 1 1000 = true) (hu : inB u 0 1000000 = true) (hau : a ≤ u) : banishOk r n id u a = (aboveV r n id && isAllowed r n 6 a) := by
  unfold banishOk chOk
  rw [valid_iff.2 h, Bool.true_and]
  have e : (banishF n id u a r).2 = (aboveV r n id && isAllowed r n 6 a) := by
    show (mayToB r n id 6 a && decide (a ≤ u)) = _
    rw [mayTo_above h hi]; simp [hau]
  rw [e]
  cases ha : aboveV r n id with
  | false => simp
  | true => rw [valid_iff.2 (banishF_valid (a := a) h hb ha hi hu)]; simp
theorem ch_parts {f : Room → Room × Bool} (h : chOk r f = true) : chR r f = (f r).1 ∧ VRoom (chR r f) ∧ (f r).2 = true := by
  have h2 := h
  unfold chOk at h2
  simp only [Bool.and_eq_true] at h2
  have e : chR r f = (f r).1 := by unfold chR; rw [h]; rfl
  exact ⟨e, by rw [e]; exact valid_iff.1 h2.2, h2.1.2⟩
theorem muted_parts (hV : VRoom r) (h : muteOk r n id u a = true) : validRoomB (muteV r n id u a) = true ∧ ∀ b, b < u → isAllowed (muteV r n id u a) id 1 b = false := by
  obtain ⟨e, hv, hf⟩ := ch_parts (f := wmF n id 4 a (fun m => { m with quiet := u })) h
  refine ⟨valid_iff.2 hv, fun b hb => ?_⟩
  have hd : hasId r id = true := by
    simp only [wmF, Bool.and_eq_true] at hf; exact hf.1
  obtain ⟨m, hm, rfl⟩ := hasId_true.1 hd
  obtain ⟨k, hk, e2⟩ := set_mem hV.mp hm (fun m => { m with quiet := u })
  have e3 : muteV r n m.id u a = { r with members := r.members.set k { m with quiet := u } } := e.trans e2
  have hkl := (List.getElem?_eq_some_iff.1 hk).1
  unfold isAllowed
  have hmem : ({ m with quiet := u } : Member) ∈ (muteV r n m.id u a).members := by
    rw [e3]; exact List.mem_iff_getElem?.2 ⟨k, by simp [hkl]⟩
  have h5 := allow_mem (act := 1) (a := b) (show (muteV r n m.id u a).members.Pairwise _ from hv.mp) hmem
  rw [show (({ m with quiet := u } : Member)).id = m.id from rfl] at h5
  rw [h5]
  have : ¬ u ≤ b := by omega
  simp [this]
theorem given_parts (hV : VRoom r) (h : giveOk r n id u a = true) : validRoomB (giveV r n id u a) = true ∧ roOk (giveV r n id u a) id = true ∧ roV (giveV r n id u a) id = u := by
  obtain ⟨e, hv, hf⟩ := ch_parts (f := giveF n id u a) h
  have hd : hasId r id = true := by
    simp only [giveF, Bool.and_eq_true] at hf; exact hf.2.1
  obtain ⟨m, hm, rfl⟩ := hasId_true.1 hd
  obtain ⟨k, hk, e2⟩ := set_mem hV.mp hm (fun m => { m with role := u })
  have e3 : giveV r n m.id u a = { r with members := r.members.set k { m with role := u } } := e.trans e2
  have hkl := (List.getElem?_eq_some_iff.1 hk).1
  have hmem : ({ m with role := u } : Member) ∈ (giveV r n m.id u a).members := by
    rw [e3]; exact List.mem_iff_getElem?.2 ⟨k, by simp [hkl]⟩
  have hh : hasId (giveV r n m.id u a) m.id = true := hasId_true.2 ⟨_, hmem, rfl⟩
  have hv2 : VRoom (giveV r n m.id u a) := hv
  refine ⟨valid_iff.2 hv, by rw [ro_ok hv2]; exact hh, ?_⟩
  rw [ro_at hv2 hh]
  exact roleAt_mem (m := { m with role := u }) hv2.mp hmem
end
theorem joined_ok2 {r : Room} {id a : Int} (h : VRoom r) (hl : r.members.length ≤ 31) (h1 : 1 ≤ id) (h7 : id ≤ 1000) (a0 : 0 ≤ a) (a1 : a ≤ 1000000) : joinOk r id a = (!hasId r id && (!bannB r id && (r.open_ || invitedB r id a))) := by
  have hv := valid_iff.2 h
  unfold joinOk chOk
  rw [hv, Bool.true_and]
  show ((joinF id a r).2 && validRoomB (joinF id a r).1) = (joinF id a r).2
  cases hf : (joinF id a r).2 with
  | false => rfl
  | true => rw [valid_iff.2 (joinF_valid h hl hf (inB_of h1 h7) (inB_of a0 a1))]; rfl
section
variable {r : Room} {n id u a : Int}
/-- Who is banned. -/
theorem banned_parts (hV : VRoom r) (hl : r.members.length ≤ 6) (hb : r.bans.length ≤ 15) (hi1 : 1 ≤ id) (hi7 : id ≤ 1000) (hu : inB u 0 1000000 = true) (hau : a ≤ u) (a0 : 0 ≤ a) (a1 : a ≤ 1000000) (h : banishOk r n id u a = true) :
    validRoomB (banishV r n id u a) = true ∧ (∀ b, joinOk (banishV r n id u a) id b = false) ∧ roOk (banishV r n id u a) id = false ∧ liftOk (banishV r n id u a) n id a = true ∧ joinOk (liftV (banishV r n id u a) n id a) id a = r.open_ ∧ ∀ b c, inviteOk (banishV r n id u a) n id b c = false := by
  have hi : inB id 1 1000 = true := inB_of hi1 hi7
  obtain ⟨e, hv, hf⟩ := ch_parts (f := banishF n id u a) h
  have hab : (aboveV r n id && isAllowed r n 6 a) = true := by rw [← banishOk_eq hV hb hi hu hau]; exact h
  obtain ⟨hab, hal⟩ : aboveV r n id = true ∧ isAllowed r n 6 a = true := by simpa using hab
  have e1 : banishV r n id u a = { r with members := dropP (idIs id) r.members, invites := dropP (invIs id) r.invites, bans := insK Ban.id (newB id u) (dropP (banIs id) r.bans) } := e
  have hv1 : VRoom (banishV r n id u a) := hv
  obtain ⟨x, hx⟩ : ∃ x, x = banishV r n id u a := ⟨_, rfl⟩
  rw [← hx] at e1 hv1 ⊢
  have hids : ∀ m ∈ x.members, m.id ≠ id := fun m hm => by rw [e1] at hm; have := (mem_dropP.1 hm).2; simpa [idIs] using this
  have hno : hasId x id = false := hasId_no.2 hids
  have hban : bannB x id = true := bannB_true.2 ⟨newB id u, by rw [e1]; exact (insK_mem Ban.id (newB id u)).2 (.inl rfl), rfl⟩
  have hbne : ∀ b ∈ dropP (banIs id) r.bans, b.id ≠ id := fun m hm => by have := (mem_dropP.1 hm).2; simpa [banIs] using this
  have hal2 : allowB r n 6 a = true := by unfold isAllowed at hal; simp only [Bool.and_eq_true] at hal; exact hal.2
  have hnn : n ≠ id := by simp only [aboveV, Bool.and_eq_true, decide_eq_true_eq] at hab; exact hab.2.1
  have hn : hasId r n = true := by simp only [aboveV, Bool.and_eq_true] at hab; exact hab.1
  have hmay : mayToB x n id 6 a = true := by
    rw [mayTo_above hv1 hi]
    obtain ⟨b, hb2, rfl⟩ := hasId_true.1 hn
    have hbx : b ∈ x.members := by rw [e1]; exact mem_dropP.2 ⟨hb2, by simp [idIs, hnn]⟩
    have h1 : hasId x b.id = true := hasId_true.2 ⟨b, hbx, rfl⟩
    have h2 : allowB x b.id 6 a = true := by rw [allow_mem hv1.mp hbx, ← allow_mem hV.mp hb2]; exact hal2
    unfold aboveV isAllowed
    rw [h1, hno, h2, valid_iff.2 hv1]
    simp [hnn]
  have hlf : (liftF n id a x).2 = true := by
    show (mayToB x n id 6 a && bannB x id) = true
    rw [hmay, hban]; rfl
  have hw : withoutR x id = { x with bans := dropP (banIs id) r.bans } := by
    unfold withoutR
    rw [dropP_none (p := idIs id) (xs := x.members) (by have := hno; unfold hasId at this; simpa using this)]
    rw [e1]
    simp only []
    rw [show dropP (invIs id) (dropP (invIs id) r.invites) = dropP (invIs id) r.invites from by unfold dropP; rw [List.filter_filter]; congr 1; funext y; simp]
    rw [insK_drop Ban.id (newB id u) (banIs id) (fun y => rfl) _ hbne]
  have hlv : VRoom (liftF n id a x).1 := by
    show VRoom (withoutR x id)
    rw [hw]
    refine hv1.sub (x := { x with bans := dropP (banIs id) r.bans }) hv1.m1 hv1.m32 hv1.mok hv1.mp hv1.own (List.Sublist.refl _) ?_ fun m hm => .inl (hasId_true.2 ⟨m, hm, rfl⟩)
    rw [e1]
    have h3 := dropP_sub (banIs id) (insK Ban.id (newB id u) (dropP (banIs id) r.bans))
    rw [insK_drop Ban.id (newB id u) (banIs id) (fun y => rfl) _ hbne] at h3
    exact h3
  have hlo : liftOk x n id a = true := by
    unfold liftOk chOk
    rw [valid_iff.2 hv1, hlf, valid_iff.2 hlv]; rfl
  obtain ⟨q1, q2, q3⟩ := ch_parts (f := liftF n id a) hlo
  have hle : liftV x n id a = { x with bans := dropP (banIs id) r.bans } := q1.trans hw
  refine ⟨valid_iff.2 hv1, fun b => ?_, by rw [ro_ok hv1]; exact hno, hlo, ?_, fun b c => ?_⟩
  · unfold joinOk chOk
    rw [show (joinF id b x).2 = false from by show (!hasId x id && (!bannB x id && _)) = false; rw [hban]; simp]
    simp
  · have hvl : VRoom (liftV x n id a) := q2
    have hll : (liftV x n id a).members.length ≤ 31 := by
      rw [hle]
      show x.members.length ≤ 31
      rw [e1]
      have := dropP_le (idIs id) r.members
      show (dropP (idIs id) r.members).length ≤ 31; omega
    rw [joined_ok2 hvl hll hi1 hi7 a0 a1]
    have h1 : hasId (liftV x n id a) id = false := by rw [hle]; exact hasId_no.2 hids
    have h2 : bannB (liftV x n id a) id = false := by rw [hle]; exact bannB_no.2 hbne
    have h3 : invitedB (liftV x n id a) id a = false := by
      rw [invited_any, hle, e1]
      show (dropP (invIs id) r.invites).any (invA id a) = false
      rw [List.any_eq_false]
      intro v hv
      have := (mem_dropP.1 hv).2
      simp only [invIs, decide_eq_false_iff_not] at this
      simp [invA, this]
    rw [h1, h2, h3, hle, e1]
    simp
  · unfold inviteOk chOk
    rw [show (inviteF n id b c x).2 = false from by show (mayToB x n id 3 c && (!hasId x id && (!bannB x id && _))) = false; rw [hban]; simp]
    simp
end
end Go.Proofs.YtglhepbcbildpaaGreat
