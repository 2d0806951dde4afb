/- Valid rooms, told plainly; what a change leaves valid. -/
import Derived.Test.YtccgjnanphonnaaAllowDef
namespace Go.Proofs.Ytccgjnanphonnaa
open Go Go.RowKit
set_option linter.unusedVariables false
set_option linter.unusedSimpArgs false

theorem adj_pair {α : Type} (key : α → Int) (ok : α → Bool) (F : α → Option α → Bool) (h0 : ∀ x, F x none = ok x) (h1 : ∀ x y, F x (some y) = (ok x && decide (key y < key x))) :
    ∀ (l : List α) (p : Option α), adjB F p l = true ↔ (∀ x ∈ l, ok x = true) ∧ l.Pairwise (fun x y => key x < key y) ∧ (∀ q, p = some q → ∀ x ∈ l, key q < key x)
  | [], p => by simp [adjB]
  | x :: l, p => by
    rw [adjB, Bool.and_eq_true, adj_pair key ok F h0 h1 l (some x), List.pairwise_cons]
    constructor
    · rintro ⟨h2, h3, h4, h5⟩
      have hx : ok x = true := by
        cases p with
        | none => rw [h0] at h2; exact h2
        | some q => rw [h1, Bool.and_eq_true] at h2; exact h2.1
      refine ⟨fun y hy => ?_, ⟨fun y hy => h5 x rfl y hy, h4⟩, fun q hq y hy => ?_⟩
      · rcases List.mem_cons.1 hy with rfl | hy
        · exact hx
        · exact h3 y hy
      · subst hq
        rw [h1, Bool.and_eq_true, decide_eq_true_eq] at h2
        rcases List.mem_cons.1 hy with rfl | hy
        · exact h2.2
        · exact Int.lt_trans h2.2 (h5 x rfl y hy)
    · rintro ⟨h3, ⟨h5, h4⟩, h6⟩
      refine ⟨?_, fun y hy => h3 y (List.mem_cons_of_mem _ hy), h4, fun q hq y hy => ?_⟩
      · cases p with
        | none => rw [h0]; exact h3 x List.mem_cons_self
        | some q => rw [h1, Bool.and_eq_true, decide_eq_true_eq]; exact ⟨h3 x List.mem_cons_self, h6 q rfl x List.mem_cons_self⟩
      · cases hq; exact h5 y hy
theorem hasId_true {r : Room} {n : Int} : hasId r n = true ↔ ∃ m ∈ r.members, m.id = n := by
  unfold hasId
  rw [decide_eq_true_eq]
  constructor
  · intro h
    obtain ⟨k, m, _, _, h1, h2⟩ := idxP_found h
    exact ⟨m, List.mem_of_getElem? h1, by simpa [idIs] using h2⟩
  · rintro ⟨m, hm, rfl⟩
    rcases idxP_cases (idIs m.id) r.members with h | ⟨k, x, h, _⟩
    · exfalso
      unfold idxP at h
      rcases hf : r.members.findIdx? (idIs m.id) with _ | k
      · rw [List.findIdx?_eq_none_iff] at hf
        have := hf m hm
        simp [idIs] at this
      · rw [hf] at h; simp at h <;> omega
    · omega
theorem invd_true {r : Room} {n : Int} : invd r n = true ↔ ∃ m ∈ r.invites, m.id = n := by
  unfold invd
  rw [decide_eq_true_eq]
  constructor
  · intro h
    obtain ⟨k, m, _, _, h1, h2⟩ := idxP_found h
    exact ⟨m, List.mem_of_getElem? h1, by simpa [invIs] using h2⟩
  · rintro ⟨m, hm, rfl⟩
    rcases idxP_cases (invIs m.id) r.invites with h | ⟨k, x, h, _⟩
    · exfalso
      unfold idxP at h
      rcases hf : r.invites.findIdx? (invIs m.id) with _ | k
      · rw [List.findIdx?_eq_none_iff] at hf
        have := hf m hm
        simp [invIs] at this
      · rw [hf] at h; simp at h <;> omega
    · omega
/-- A valid room, told plainly. -/
structure VRoom (r : Room) : Prop where
  m1 : 1 ≤ r.members.length
  m32 : r.members.length ≤ 32
  i16 : r.invites.length ≤ 16
  b16 : r.bans.length ≤ 16
  mok : ∀ m ∈ r.members, memOkB m = true
  mp : r.members.Pairwise fun x y => x.id < y.id
  iok : ∀ v ∈ r.invites, invOkB r v = true
  ip : r.invites.Pairwise fun x y => x.id < y.id
  bok : ∀ b ∈ r.bans, banOkB r b = true
  bp : r.bans.Pairwise fun x y => x.id < y.id
  own : ownB r.members = true
theorem valid_iff {r : Room} : validRoomB r = true ↔ VRoom r := by
  have e1 := adj_pair Member.id memOkB memF (fun x => by simp [memF]) (fun x y => by simp [memF]) r.members none
  have e2 := adj_pair Invite.id (invOkB r) (invF r) (fun x => by simp [invF]) (fun x y => by simp [invF]) r.invites none
  have e3 := adj_pair Ban.id (banOkB r) (banF r) (fun x => by simp [banF]) (fun x y => by simp [banF]) r.bans none
  simp only [validRoomB, Bool.and_eq_true, decide_eq_true_eq, e1, e2, e3]
  constructor
  · rintro ⟨⟨⟨⟨⟨⟨⟨h1, h2⟩, h3⟩, h4⟩, a1, a2, _⟩, b1, b2, _⟩, c1, c2, _⟩, h5⟩
    exact ⟨by omega, by omega, by omega, by omega, a1, a2, b1, b2, c1, c2, h5⟩
  · rintro ⟨h1, h2, h3, h4, a1, a2, b1, b2, c1, c2, h5⟩
    exact ⟨⟨⟨⟨⟨⟨⟨by omega, by omega⟩, by omega⟩, by omega⟩, a1, a2, by simp⟩, b1, b2, by simp⟩, c1, c2, by simp⟩, h5⟩
end Go.Proofs.Ytccgjnanphonnaa
