/- Index from without, read as plain data. -/
import Derived.Test.YticjphaagmnahaaRGround
import Derived.Test.YticjphaagmnahaaRTypes
namespace Go.Proofs.Yticjphaagmnahaa
open Go Go.RowKit Go.ChangeShapes Go.WideShapes Go.Deep
set_option linter.unusedVariables false

theorem opens_entry : Opens Try.prog entryD okEntry 122 := by
  intro H enc W held fuel cs y h
  obtain ⟨hl, hf⟩ := open_fields Try.underlying122 (by kernel_rfl) (by kernel_rfl) h
  obtain ⟨v0, n0, z0, c0, t0⟩ := hf 0 _ rfl
  obtain ⟨v1, n1, z1, c1, t1⟩ := hf 1 _ rfl
  obtain ⟨x0, hx0, -, hs0⟩ := DataW.trod_string Try.underlying9 t0
  obtain ⟨x1, hx1, -⟩ := opens_slice Try.underlying28 (by kernel_rfl) (by decide) (opens_int Try.underlying2) H enc W held n1 v1 _ t1
  simp only [List.cons.injEq, and_true] at hx0
  subst hx0
  match cs, hl with
  | [_, _], _ =>
    simp at c0 c1
    subst c0 c1
    exact ⟨⟨x0, x1⟩, entry_K_mk hx1, hs0⟩
set_option maxRecDepth 100000 in
theorem open_index {H : Type} {enc : TypeId × Value → H} {W : World} {held : Bool} {b0 : Nat} {v : Value} {d : DataW H} {ps : List MemPlace} (hv : Value.okWide Try.prog W .any b0 24 v)
    (h : DataW.Trod enc Try.prog W 0 (fun _ => true) held 24 v d ps) : ∃ (x : Index) (v0 : Value), v = .agg #[v0] ∧ SliceK entryD W v0 x.entries ∧ okIndex x := by
  obtain ⟨cs, rfl, hsz⟩ := okWide_struct Try.underlying24 hv
  obtain ⟨fuel, h⟩ := h
  obtain ⟨hl, hf⟩ := open_fields Try.underlying24 (by kernel_rfl) (by kernel_rfl) h
  obtain ⟨v0, n0, z0, c0, t0⟩ := hf 0 _ rfl
  obtain ⟨x0, hx0, hk0⟩ := opens_slice Try.underlying22 (by kernel_rfl) (by decide) opens_entry H enc W held n0 v0 _ t0
  obtain ⟨l⟩ := cs
  simp only [Value.cells] at c0 hl
  match l, hl with
  | [_], _ =>
    simp at c0
    subst c0
    exact ⟨⟨x0⟩, _, rfl, hx0, hk0⟩
end Go.Proofs.Yticjphaagmnahaa
