/- Who joins, and leaves again, in plain data. -/
import Derived.Test.YtglhepbcbildpaaDrawPlain
import Derived.Test.YtglhepbcbildpaaMayTo
import Derived.Test.YtglhepbcbildpaaR8
namespace Go.Proofs.Ytglhepbcbildpaa
open Go Go.RowKit
set_option linter.unusedVariables false
set_option linter.unusedSimpArgs false

theorem insK_drop {α : Type} (key : α → Int) (m : α) (p : α → Bool) (hp : ∀ x, p x = decide (key x = key m)) : ∀ l : List α, (∀ x ∈ l, key x ≠ key m) → dropP p (insK key m l) = l
  | [], _ => by simp [insK, dropP, hp]
  | x :: t, h => by
    have hx := h x List.mem_cons_self
    have ht := fun y hy => h y (List.mem_cons_of_mem _ hy)
    have hpx : p x = false := by rw [hp]; simpa using hx
    have hpm : p m = true := by rw [hp]; simp
    have hall : ∀ y ∈ t, p y = false := fun y hy => by rw [hp]; simpa using ht y hy
    unfold insK
    split
    · unfold dropP
      rw [List.filter_cons_of_neg (by simp [hpm]), List.filter_cons_of_pos (by simp [hpx])]
      congr 1
      rw [List.filter_eq_self]
      intro y hy; simp [hall y hy]
    · have ih := insK_drop key m p hp t ht
      unfold dropP at ih ⊢
      rw [List.filter_cons_of_pos (by simp [hpx]), ih]
def invA (id a : Int) (v : Invite) : Bool := decide (v.id = id) && decide (a ≤ v.until_)
theorem invited_any (r : Room) (id a : Int) : invitedB r id a = r.invites.any (invA id a) := by
  unfold invitedB invA; exact idxP_any _ _
theorem bann_any (r : Room) (id : Int) : bannB r id = r.bans.any (banIs id) := by
  unfold bannB; exact idxP_any _ _
theorem any_take {α : Type} {p : α → Bool} {l : List α} {k : Nat} {x : α} (h : l[k]? = some x) : (l.take (k + 1)).any p = ((l.take k).any p || p x) := by
  obtain ⟨hk, rfl⟩ := List.getElem?_eq_some_iff.1 h
  rw [List.take_succ_eq_append_getElem hk, List.any_append]; simp
section
variable {r : Room} {id a : Int}
theorem joined_ok (h : Drawn r) (h1 : 1 ≤ id) (h7 : id ≤ 1000) (a0 : 0 ≤ a) (a1 : a ≤ 1000000) : joinOk r id a = (!hasId r id && (!bannB r id && (r.open_ || invitedB r id a))) := by
  have hv := valid_iff.2 h.v
  unfold joinOk chOk
  rw [hv, Bool.true_and]
  show ((joinF id a r).2 && validRoomB (joinF id a r).1) = (joinF id a r).2
  cases hf : (joinF id a r).2 with
  | false => rfl
  | true =>
    rw [valid_iff.2 (joinF_valid h.v (by have := h.len; omega) hf (inB_of h1 h7) (inB_of a0 a1))]; rfl
theorem joinOk_parts (h : joinOk r id a = true) : joinV r id a = (joinF id a r).1 ∧ validRoomB (joinV r id a) = true ∧ (joinF id a r).2 = true := by
  have h2 := h
  unfold joinOk chOk at h2
  simp only [Bool.and_eq_true] at h2
  have e : joinV r id a = (joinF id a r).1 := by
    unfold joinV chR
    rw [show chOk r (joinF id a) = true from h]; rfl
  exact ⟨e, by rw [e]; exact h2.2, h2.1.2⟩
theorem roleAt_mem {r : Room} {m : Member} (hp : r.members.Pairwise fun x y => x.id < y.id) (hm : m ∈ r.members) : roleAt r m.id = m.role := by
  unfold roleAt
  have : r.members.find? (idIs m.id) = some m := by
    generalize r.members = l at hp hm
    induction l with
    | nil => simp at hm
    | cons x t ih =>
      rw [List.pairwise_cons] at hp
      rcases List.mem_cons.1 hm with rfl | hm
      · simp [idIs]
      · have := hp.1 m hm
        rw [List.find?_cons_of_neg (by simp [idIs]; omega)]
        exact ih hp.2 hm
  rw [this]
theorem joined_parts (hd : Drawn r) (h : joinOk r id a = true) : roOk (joinV r id a) id = true ∧ roV (joinV r id a) id = 1 ∧ (joinV r id a).members.length = r.members.length + 1 ∧ leaveOk (joinV r id a) id = true ∧ (leaveV (joinV r id a) id).members = r.members ∧ validRoomB (leaveV (joinV r id a) id) = true := by
  obtain ⟨e, hv, hf⟩ := joinOk_parts h
  rw [e] at hv ⊢
  have hV := valid_iff.1 hv
  simp only [joinF, Bool.and_eq_true, Bool.not_eq_true'] at hf
  have hne := hasId_no.1 hf.1
  have hmem : newM id a ∈ (joinF id a r).1.members := (insK_mem Member.id (newM id a)).2 (.inl rfl)
  have hh : hasId (joinF id a r).1 id = true := hasId_true.2 ⟨_, hmem, rfl⟩
  have ho : roOk (joinF id a r).1 id = true := by unfold roOk; rw [hv, hh]; rfl
  have hl : (joinF id a r).1.members.length = r.members.length + 1 := insK_len Member.id (newM id a) r.members
  have hfl : (leaveF id (joinF id a r).1).2 = true := by
    unfold leaveF
    rw [hh, Bool.true_and, decide_eq_true_eq]
    have := hd.v.m1; omega
  obtain ⟨q1, q2, q3⟩ := leaveF_valid hV hfl
  have hlo : leaveOk (joinF id a r).1 id = true := by
    unfold leaveOk chOk
    rw [hv, hfl, valid_iff.2 q1]; rfl
  have hle : leaveV (joinF id a r).1 id = (leaveF id (joinF id a r).1).1 := by
    unfold leaveV chR
    rw [show chOk (joinF id a r).1 (leaveF id) = true from hlo]; rfl
  have hms : (withoutR (joinF id a r).1 id).members = r.members := insK_drop Member.id (newM id a) (idIs id) (fun x => rfl) r.members hne
  refine ⟨ho, ?_, hl, hlo, ?_, by rw [hle]; exact valid_iff.2 q1⟩
  · unfold roV
    rw [ho]
    exact roleAt_mem (m := newM id a) hV.mp hmem
  · rw [hle]
    show (heirR (withoutR (joinF id a r).1 id)).members = r.members
    rw [heirR_own (by rw [hms]; exact hd.v.own), hms]
theorem left_ok (h : Drawn r) : leaveOk r id = (hasId r id && decide (r.members.length ≠ 1)) := by
  have hv := valid_iff.2 h.v
  unfold leaveOk chOk
  rw [hv, Bool.true_and]
  show ((leaveF id r).2 && validRoomB (leaveF id r).1) = (leaveF id r).2
  cases hf : (leaveF id r).2 with
  | false => rfl
  | true => rw [valid_iff.2 (leaveF_valid h.v hf).1]; rfl
theorem left_parts (hd : Drawn r) (h : leaveOk r id = true) : validRoomB (leaveV r id) = true ∧ hasId (leaveV r id) id = false ∧ (leaveV r id).members.length + 1 = r.members.length := by
  have h2 := h
  unfold leaveOk chOk at h2
  simp only [Bool.and_eq_true] at h2
  obtain ⟨q1, q2, q3⟩ := leaveF_valid hd.v h2.1.2
  have hle : leaveV r id = (leaveF id r).1 := by
    unfold leaveV chR
    rw [show chOk r (leaveF id) = true from h]; rfl
  rw [hle]; exact ⟨valid_iff.2 q1, q3, q2⟩
theorem left_none (hd : Drawn r) : roOk (leaveV r id) id = false := by
  cases h : leaveOk r id with
  | true => unfold roOk; rw [(left_parts hd h).2.1, Bool.and_false]
  | false =>
    have : leaveV r id = noRoom := by
      unfold leaveV chR
      rw [show chOk r (leaveF id) = false from h]; rfl
    rw [this]
    unfold roOk
    rw [show hasId noRoom id = false from hasId_no.2 (by intro m hm; simp [noRoom] at hm), Bool.and_false]
end
end Go.Proofs.Ytglhepbcbildpaa
