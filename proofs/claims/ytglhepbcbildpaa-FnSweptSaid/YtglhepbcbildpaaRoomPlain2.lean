/- What a change leaves valid. -/
import Derived.Test.YtglhepbcbildpaaRTypes
import Derived.Test.YtglhepbcbildpaaChanged
namespace Go.Proofs.Ytglhepbcbildpaa
open Go Go.RowKit
set_option linter.unusedVariables false
set_option linter.unusedSimpArgs false

theorem map_set {α β : Type} (f : α → β) {l : List α} {k : Nat} {m m' : α} (hk : l[k]? = some m) (hf : f m' = f m) : (l.set k m').map f = l.map f := by
  apply List.ext_getElem?
  intro i
  rw [List.getElem?_map, List.getElem?_map, List.getElem?_set]
  split
  · rename_i h; subst h
    obtain ⟨hl, rfl⟩ := List.getElem?_eq_some_iff.1 hk
    rw [if_pos hl, List.getElem?_eq_getElem hl]; simp [hf]
  · rfl
theorem hasId_ids {r r' : Room} (h : r'.members.map Member.id = r.members.map Member.id) (n : Int) : hasId r' n = hasId r n := by
  rw [Bool.eq_iff_iff, hasId_true, hasId_true]
  have e : ∀ (l : List Member), (∃ m ∈ l, m.id = n) ↔ n ∈ l.map Member.id := fun l => by simp
  rw [e, e, h]
theorem ownB_roles {l l' : List Member} (h : l'.map Member.role = l.map Member.role) : ownB l' = ownB l := by
  have e : ∀ (l : List Member), ownB l = (l.map Member.role).any (fun x => decide (x = 3)) := fun l => by simp [ownB, List.any_map, Function.comp_def]
  rw [e, e, h]
theorem pair_map {α : Type} (f : α → Int) {l l' : List α} (h : l'.map f = l.map f) (hp : l.Pairwise fun x y => f x < f y) : l'.Pairwise fun x y => f x < f y := by
  have h1 := (List.pairwise_map (f := f) (R := fun a b : Int => a < b) (l := l)).2 hp
  rw [← h] at h1
  exact List.pairwise_map.1 h1
theorem valid_quiet {r : Room} (hv : validRoomB r = true) {k : Nat} {m : Member} (hk : r.members[k]? = some m) (u : Int) : validRoomB { r with members := r.members.set k { m with quiet := u } } = inB u 0 1000000 := by
  have hV := valid_iff.1 hv
  have hl := (List.getElem?_eq_some_iff.1 hk).1
  have hm := hV.mok m (List.mem_of_getElem? hk)
  simp only [memOkB, Bool.and_eq_true] at hm
  have hids : (r.members.set k { m with quiet := u }).map Member.id = r.members.map Member.id := map_set _ hk rfl
  have hrol : (r.members.set k { m with quiet := u }).map Member.role = r.members.map Member.role := map_set _ hk rfl
  rw [Bool.eq_iff_iff, valid_iff]
  constructor
  · intro h
    have h1 := h.mok { m with quiet := u } (List.mem_iff_getElem?.2 ⟨k, by simp [hl]⟩)
    simp only [memOkB, Bool.and_eq_true] at h1
    exact h1.2
  · intro h
    have hh : ∀ n, hasId { r with members := r.members.set k { m with quiet := u } } n = hasId r n := hasId_ids hids
    refine ⟨by simpa using hV.m1, by simpa using hV.m32, hV.i16, hV.b16, ?_, pair_map _ hids hV.mp, ?_, hV.ip, ?_, hV.bp, ?_⟩
    · intro x hx
      rcases List.mem_or_eq_of_mem_set hx with h2 | h2
      · exact hV.mok x h2
      · subst h2
        simp [memOkB, hm, h]
    · intro v hv2
      have := hV.iok v hv2
      simpa [invOkB, hh] using this
    · intro b hb
      have := hV.bok b hb
      simpa [banOkB, hh, invd] using this
    · show ownB (r.members.set k { m with quiet := u }) = true
      rw [ownB_roles hrol]; exact hV.own
/-- A room by value, open. -/
theorem St.roomParts {w0 w : World} {L : List Piece} {x : Room} {v0 v1 v2 v3 : Value} {F : List Nat} (h : St w0 w (ownD roomD x [v0, v1, v2, v3] F :: L)) : ∃ F1 F2 F3,
    St w0 w (own memberD 55 v1 x.members F1 :: own inviteD 39 v2 x.invites F2 :: own banD 41 v3 x.bans F3 :: L) := by
  obtain ⟨u1, u2, u3, F1, F2, F3, he, rfl, h1, h2, h3⟩ := room_M h.head
  simp only [List.cons.injEq, and_true] at he
  obtain ⟨-, rfl, rfl, rfl⟩ := he
  refine ⟨F1, F2, F3, h.below, fun p hp => ?_, ?_, fun c hc => ?_⟩
  · rcases List.mem_cons.1 hp with rfl | hp
    · exact h1
    rcases List.mem_cons.1 hp with rfl | hp
    · exact h2
    rcases List.mem_cons.1 hp with rfl | hp
    · exact h3
    exact h.drop.all p hp
  · have := h.nodup
    simpa [feet_cons, own, ownD] using this
  · refine h.ge c ?_
    simpa [feet_cons, own, ownD] using hc
theorem St.room2 {w0 w : World} {L : List Piece} {x : Room} {v1 v2 v3 : Value} {F1 F2 F3 : List Nat}
    (h : St w0 w (own memberD 55 v1 x.members F1 :: own inviteD 39 v2 x.invites F2 :: own banD 41 v3 x.bans F3 :: L)) :
    St w0 w (ownD roomD x [.bool x.open_, v1, v2, v3] (F1 ++ (F2 ++ F3)) :: L) := by
  have h1 := h.head
  have h2 := h.drop.head
  have h3 := h.drop.drop.head
  refine ⟨h.below, fun p hp => ?_, ?_, fun c hc => ?_⟩
  · rcases List.mem_cons.1 hp with rfl | hp
    · exact room_M_mk h1 h2 h3
    · exact h.drop.drop.drop.all p hp
  · have := h.nodup
    simpa [feet_cons, own, ownD] using this
  · refine h.ge c ?_
    simpa [feet_cons, own, ownD] using hc
end Go.Proofs.Ytglhepbcbildpaa
