/- A room that is drawn, in plain data. -/
import Derived.Test.YtglhepbcbildpaaRTypes
import Derived.Test.YtglhepbcbildpaaJoin
import Derived.Test.YtglhepbcbildpaaRoomKeep
namespace Go.Proofs.Ytglhepbcbildpaa
open Go Go.RowKit
set_option linter.unusedVariables false
set_option linter.unusedSimpArgs false

theorem inB_of {n a b : Int} (h1 : a ≤ n) (h2 : n ≤ b) : inB n a b = true := by simp [inB]; omega
theorem memOk_of {id ro si qu : Int} (h1 : 1 ≤ id) (h2 : id ≤ 1000) (h3 : 0 ≤ ro) (h4 : ro ≤ 3) (h5 : 0 ≤ si ∧ si ≤ 1000000) (h6 : 0 ≤ qu) (h7 : qu ≤ 1000000) : memOkB ⟨id, ro, si, qu⟩ = true := by
  simp only [memOkB, inB_of h1 h2, inB_of h3 h4, inB_of h5.1 h5.2, inB_of h6 h7]; rfl
/-- A room with members, invites and bans below a number. -/
structure DrawR (id ow : Int) (r : Room) : Prop where
  mp : r.members.Pairwise fun x y => x.id < y.id
  mok : ∀ m ∈ r.members, memOkB m = true ∧ m.id < id
  ip : r.invites.Pairwise fun x y => x.id < y.id
  iok : ∀ v ∈ r.invites, (inB v.id 1 1000 = true ∧ inB v.by_ 1 1000 = true ∧ inB v.until_ 0 1000000 = true) ∧ v.id < id
  bp : r.bans.Pairwise fun x y => x.id < y.id
  bok : ∀ b ∈ r.bans, (inB b.id 1 1000 = true ∧ inB b.until_ 0 1000000 = true) ∧ b.id < id
  im : ∀ v ∈ r.invites, ∀ m ∈ r.members, m.id ≠ v.id
  bm : ∀ b ∈ r.bans, ∀ m ∈ r.members, m.id ≠ b.id
  bi : ∀ b ∈ r.bans, ∀ v ∈ r.invites, v.id ≠ b.id
  len : (r.members.length : Int) + r.invites.length + r.bans.length + 1 ≤ id
  own : ow < id → ownB r.members = true
theorem DrawR.start (o : Bool) (ow : Int) (h : 1 ≤ ow) : DrawR 1 ow ⟨o, [], [], []⟩ := by
  refine ⟨by simp, by simp, by simp, by simp, by simp, by simp, by simp, by simp, by simp, by simp, fun h2 => by omega⟩
theorem pw_snoc {α : Type} {key : α → Int} {l : List α} {x : α} (h : l.Pairwise fun x y => key x < key y) (hx : ∀ y ∈ l, key y < key x) : (l ++ [x]).Pairwise fun x y => key x < key y := by
  rw [List.pairwise_append]
  refine ⟨h, by simp, fun a ha b hb => ?_⟩
  rw [List.mem_singleton] at hb
  subst hb; exact hx a ha
section
variable {id ow : Int} {r : Room}
theorem DrawR.skip (h : DrawR id ow r) (hn : id ≠ ow) : DrawR (id + 1) ow r :=
  ⟨h.mp, fun m hm => ⟨(h.mok m hm).1, by have := (h.mok m hm).2; omega⟩, h.ip, fun m hm => ⟨(h.iok m hm).1, by have := (h.iok m hm).2; omega⟩, h.bp, fun m hm => ⟨(h.bok m hm).1, by have := (h.bok m hm).2; omega⟩, h.im, h.bm, h.bi, by have := h.len; omega, fun h2 => h.own (by omega)⟩
theorem DrawR.addM (h : DrawR id ow r) {m : Member} (hi : m.id = id) (hm : memOkB m = true) (ho : id = ow → m.role = 3) : DrawR (id + 1) ow { r with members := r.members ++ [m] } := by
  subst hi
  refine ⟨pw_snoc h.mp fun y hy => (h.mok y hy).2, fun x hx => ?_, h.ip, fun x hx => ⟨(h.iok x hx).1, by have := (h.iok x hx).2; omega⟩, h.bp, fun x hx => ⟨(h.bok x hx).1, by have := (h.bok x hx).2; omega⟩, fun v hv x hx => ?_, fun v hv x hx => ?_, h.bi, ?_, fun h2 => ?_⟩
  · rcases List.mem_append.1 hx with hx | hx
    · exact ⟨(h.mok x hx).1, by have := (h.mok x hx).2; omega⟩
    · rw [List.mem_singleton] at hx; subst hx; exact ⟨hm, by omega⟩
  · rcases List.mem_append.1 hx with hx | hx
    · exact h.im v hv x hx
    · rw [List.mem_singleton] at hx; subst hx; have := (h.iok v hv).2; omega
  · rcases List.mem_append.1 hx with hx | hx
    · exact h.bm v hv x hx
    · rw [List.mem_singleton] at hx; subst hx; have := (h.bok v hv).2; omega
  · have := h.len
    show ((r.members ++ [m]).length : Int) + r.invites.length + r.bans.length + 1 ≤ m.id + 1
    rw [List.length_append]; simp; omega
  · show ownB (r.members ++ [m]) = true
    by_cases h3 : m.id = ow
    · exact ownB_iff.2 ⟨m, by simp, ho h3⟩
    · obtain ⟨o, h4, h5⟩ := ownB_iff.1 (h.own (by omega))
      exact ownB_iff.2 ⟨o, List.mem_append.2 (.inl h4), h5⟩
theorem DrawR.addI (h : DrawR id ow r) {m : Invite} (hi : m.id = id) (hm : inB m.id 1 1000 = true ∧ inB m.by_ 1 1000 = true ∧ inB m.until_ 0 1000000 = true) (ho : id ≠ ow) : DrawR (id + 1) ow { r with invites := r.invites ++ [m] } := by
  subst hi
  refine ⟨h.mp, fun x hx => ⟨(h.mok x hx).1, by have := (h.mok x hx).2; omega⟩, pw_snoc h.ip fun y hy => (h.iok y hy).2, fun x hx => ?_, h.bp, fun x hx => ⟨(h.bok x hx).1, by have := (h.bok x hx).2; omega⟩, fun v hv x hx => ?_, h.bm, fun v hv x hx => ?_, ?_, fun h2 => h.own (by omega)⟩
  · rcases List.mem_append.1 hx with hx | hx
    · exact ⟨(h.iok x hx).1, by have := (h.iok x hx).2; omega⟩
    · rw [List.mem_singleton] at hx; subst hx; exact ⟨hm, by omega⟩
  · rcases List.mem_append.1 hv with hv | hv
    · exact h.im v hv x hx
    · rw [List.mem_singleton] at hv; subst hv; have := (h.mok x hx).2; omega
  · rcases List.mem_append.1 hx with hx | hx
    · exact h.bi v hv x hx
    · rw [List.mem_singleton] at hx; subst hx; have := (h.bok v hv).2; omega
  · have := h.len
    show (r.members.length : Int) + (r.invites ++ [m]).length + r.bans.length + 1 ≤ m.id + 1
    rw [List.length_append]; simp; omega
theorem DrawR.addB (h : DrawR id ow r) {m : Ban} (hi : m.id = id) (hm : inB m.id 1 1000 = true ∧ inB m.until_ 0 1000000 = true) (ho : id ≠ ow) : DrawR (id + 1) ow { r with bans := r.bans ++ [m] } := by
  subst hi
  refine ⟨h.mp, fun x hx => ⟨(h.mok x hx).1, by have := (h.mok x hx).2; omega⟩, h.ip, fun x hx => ⟨(h.iok x hx).1, by have := (h.iok x hx).2; omega⟩, pw_snoc h.bp fun y hy => (h.bok y hy).2, fun x hx => ?_, h.im, fun v hv x hx => ?_, fun v hv x hx => ?_, ?_, fun h2 => h.own (by omega)⟩
  · rcases List.mem_append.1 hx with hx | hx
    · exact ⟨(h.bok x hx).1, by have := (h.bok x hx).2; omega⟩
    · rw [List.mem_singleton] at hx; subst hx; exact ⟨hm, by omega⟩
  · rcases List.mem_append.1 hv with hv | hv
    · exact h.bm v hv x hx
    · rw [List.mem_singleton] at hv; subst hv; have := (h.mok x hx).2; omega
  · rcases List.mem_append.1 hv with hv | hv
    · exact h.bi v hv x hx
    · rw [List.mem_singleton] at hv; subst hv; have := (h.iok x hx).2; omega
  · have := h.len
    show (r.members.length : Int) + r.invites.length + (r.bans ++ [m]).length + 1 ≤ m.id + 1
    rw [List.length_append]; simp; omega
end
/-- A room that has been drawn. -/
structure Drawn (r : Room) : Prop where
  v : VRoom r
  len : r.members.length + r.invites.length + r.bans.length ≤ 6
theorem DrawR.done {ow : Int} {r : Room} (h : DrawR 7 ow r) (ho : ow ≤ 6) : Drawn r := by
  have hl := h.len
  have hown := h.own (by omega)
  obtain ⟨o, h1, h2⟩ := ownB_iff.1 hown
  have h3 : 0 < r.members.length := List.length_pos_of_mem h1
  refine ⟨⟨h3, by omega, by omega, by omega, fun m hm => (h.mok m hm).1, h.mp, fun v hv => ?_, h.ip, fun b hb => ?_, h.bp, hown⟩, by omega⟩
  · obtain ⟨⟨a, b, c⟩, -⟩ := h.iok v hv
    simp only [invOkB, a, b, c, Bool.true_and, Bool.not_eq_true']
    exact hasId_no.2 (h.im v hv)
  · obtain ⟨⟨a, c⟩, -⟩ := h.bok b hb
    simp only [banOkB, a, c, Bool.true_and, Bool.and_eq_true, Bool.not_eq_true']
    exact ⟨hasId_no.2 (h.bm b hb), invd_no.2 (h.bi b hb)⟩
end Go.Proofs.Ytglhepbcbildpaa
