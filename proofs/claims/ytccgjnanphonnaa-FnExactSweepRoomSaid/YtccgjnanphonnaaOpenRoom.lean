/- A room that comes from without, read as plain data. -/
import Derived.Test.YtccgjnanphonnaaOpen
import Derived.Test.YtccgjnanphonnaaLawRoom
namespace Go.Proofs.Ytccgjnanphonnaa
open Go Go.RowKit Go.ChangeShapes Go.WideShapes Go.Deep
set_option linter.unusedVariables false

theorem opens_member : Opens Try.prog memberD (fun _ => True) 86 := by
  intro H enc W held fuel cs y h
  obtain ⟨hl, hf⟩ := open_fields Try.underlying86 (by kernel_rfl) (by kernel_rfl) h
  obtain ⟨v0, n0, z0, c0, t0⟩ := hf 0 _ rfl
  obtain ⟨v1, n1, z1, c1, t1⟩ := hf 1 _ rfl
  obtain ⟨v2, n2, z2, c2, t2⟩ := hf 2 _ rfl
  obtain ⟨v3, n3, z3, c3, t3⟩ := hf 3 _ rfl
  obtain ⟨x0, hx0, -, -⟩ := DataW.trod_int Try.underlying2 t0
  obtain ⟨x1, hx1, -, -⟩ := DataW.trod_int Try.underlying2 t1
  obtain ⟨x2, hx2, -, -⟩ := DataW.trod_int Try.underlying2 t2
  obtain ⟨x3, hx3, -, -⟩ := DataW.trod_int Try.underlying2 t3
  simp only [List.cons.injEq, and_true] at hx0 hx1 hx2 hx3
  subst hx0 hx1 hx2 hx3
  match cs, hl with
  | [_, _, _, _], _ =>
    simp at c0 c1 c2 c3
    subst c0 c1 c2 c3
    exact ⟨⟨x0, x1, x2, x3⟩, rfl, trivial⟩
theorem opens_invite : Opens Try.prog inviteD (fun _ => True) 88 := by
  intro H enc W held fuel cs y h
  obtain ⟨hl, hf⟩ := open_fields Try.underlying88 (by kernel_rfl) (by kernel_rfl) h
  obtain ⟨v0, n0, z0, c0, t0⟩ := hf 0 _ rfl
  obtain ⟨v1, n1, z1, c1, t1⟩ := hf 1 _ rfl
  obtain ⟨v2, n2, z2, c2, t2⟩ := hf 2 _ rfl
  obtain ⟨x0, hx0, -, -⟩ := DataW.trod_int Try.underlying2 t0
  obtain ⟨x1, hx1, -, -⟩ := DataW.trod_int Try.underlying2 t1
  obtain ⟨x2, hx2, -, -⟩ := DataW.trod_int Try.underlying2 t2
  simp only [List.cons.injEq, and_true] at hx0 hx1 hx2
  subst hx0 hx1 hx2
  match cs, hl with
  | [_, _, _], _ =>
    simp at c0 c1 c2
    subst c0 c1 c2
    exact ⟨⟨x0, x1, x2⟩, rfl, trivial⟩
theorem opens_ban : Opens Try.prog banD (fun _ => True) 90 := by
  intro H enc W held fuel cs y h
  obtain ⟨hl, hf⟩ := open_fields Try.underlying90 (by kernel_rfl) (by kernel_rfl) h
  obtain ⟨v0, n0, z0, c0, t0⟩ := hf 0 _ rfl
  obtain ⟨v1, n1, z1, c1, t1⟩ := hf 1 _ rfl
  obtain ⟨x0, hx0, -, -⟩ := DataW.trod_int Try.underlying2 t0
  obtain ⟨x1, hx1, -, -⟩ := DataW.trod_int Try.underlying2 t1
  simp only [List.cons.injEq, and_true] at hx0 hx1
  subst hx0 hx1
  match cs, hl with
  | [_, _], _ =>
    simp at c0 c1
    subst c0 c1
    exact ⟨⟨x0, x1⟩, rfl, trivial⟩
set_option maxRecDepth 100000 in
theorem open_room {H : Type} {enc : TypeId × Value → H} {W : World} {held : Bool} {b0 : Nat} {v : Value} {d : DataW H} {ps : List MemPlace} (hv : Value.okWide Try.prog W .any b0 26 v)
    (h : DataW.Trod enc Try.prog W 0 (fun _ => true) held 26 v d ps) : ∃ (x : Room) (v1 v2 v3 : Value), v = .agg #[.bool x.open_, v1, v2, v3] ∧ SliceK memberD W v1 x.members ∧ SliceK inviteD W v2 x.invites ∧ SliceK banD W v3 x.bans := by
  obtain ⟨cs, rfl, hsz⟩ := okWide_struct Try.underlying26 hv
  obtain ⟨fuel, h⟩ := h
  obtain ⟨hl, hf⟩ := open_fields Try.underlying26 (by kernel_rfl) (by kernel_rfl) h
  obtain ⟨v0, n0, z0, c0, t0⟩ := hf 0 _ rfl
  obtain ⟨v1, n1, z1, c1, t1⟩ := hf 1 _ rfl
  obtain ⟨v2, n2, z2, c2, t2⟩ := hf 2 _ rfl
  obtain ⟨v3, n3, z3, c3, t3⟩ := hf 3 _ rfl
  obtain ⟨x0, hx0, -⟩ := DataW.trod_bool Try.underlying4 t0
  obtain ⟨x1, hx1, -⟩ := opens_slice Try.underlying22 (by kernel_rfl) (by decide) opens_member H enc W held n1 v1 _ t1
  obtain ⟨x2, hx2, -⟩ := opens_slice Try.underlying23 (by kernel_rfl) (by decide) opens_invite H enc W held n2 v2 _ t2
  obtain ⟨x3, hx3, -⟩ := opens_slice Try.underlying24 (by kernel_rfl) (by decide) opens_ban H enc W held n3 v3 _ t3
  simp only [List.cons.injEq, and_true] at hx0
  subst hx0
  obtain ⟨l⟩ := cs
  simp only [Value.cells] at c0 c1 c2 c3 hl
  match l, hl with
  | [_, _, _, _], _ =>
    simp at c0 c1 c2 c3
    subst c0 c1 c2 c3
    exact ⟨⟨x0, x1, x2, x3⟩, _, _, _, rfl, hx1, hx2, hx3⟩
end Go.Proofs.Ytccgjnanphonnaa
