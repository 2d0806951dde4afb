/- Message from without, read as plain data. -/
import Derived.Test.YticjphaagmnahaaRGround
import Derived.Test.YticjphaagmnahaaRTypes
namespace Go.Proofs.Yticjphaagmnahaa
open Go Go.RowKit Go.ChangeShapes Go.WideShapes Go.Deep
set_option linter.unusedVariables false

set_option maxRecDepth 100000 in
theorem open_message {H : Type} {enc : TypeId × Value → H} {W : World} {held : Bool} {b0 : Nat} {v : Value} {d : DataW H} {ps : List MemPlace} (hv : Value.okWide Try.prog W .any b0 43 v)
    (h : DataW.Trod enc Try.prog W 0 (fun _ => true) held 43 v d ps) : ∃ (x : Message) (v7 : Value), v = .agg #[.int .i64 x.number, .int .i64 x.sender, .int .i64 x.at_, .string x.text, .int .i64 x.edits, .bool x.gone, .int .i64 x.reply, v7] ∧ SliceK intD W v7 x.likes ∧ okMessage x := by
  obtain ⟨cs, rfl, hsz⟩ := okWide_struct Try.underlying43 hv
  obtain ⟨fuel, h⟩ := h
  obtain ⟨hl, hf⟩ := open_fields Try.underlying43 (by kernel_rfl) (by kernel_rfl) h
  obtain ⟨v0, n0, z0, c0, t0⟩ := hf 0 _ rfl
  obtain ⟨v1, n1, z1, c1, t1⟩ := hf 1 _ rfl
  obtain ⟨v2, n2, z2, c2, t2⟩ := hf 2 _ rfl
  obtain ⟨v3, n3, z3, c3, t3⟩ := hf 3 _ rfl
  obtain ⟨v4, n4, z4, c4, t4⟩ := hf 4 _ rfl
  obtain ⟨v5, n5, z5, c5, t5⟩ := hf 5 _ rfl
  obtain ⟨v6, n6, z6, c6, t6⟩ := hf 6 _ rfl
  obtain ⟨v7, n7, z7, c7, t7⟩ := hf 7 _ rfl
  obtain ⟨x0, hx0, -, -⟩ := DataW.trod_int Try.underlying2 t0
  obtain ⟨x1, hx1, -, -⟩ := DataW.trod_int Try.underlying2 t1
  obtain ⟨x2, hx2, -, -⟩ := DataW.trod_int Try.underlying2 t2
  obtain ⟨x3, hx3, -, hs3⟩ := DataW.trod_string Try.underlying9 t3
  obtain ⟨x4, hx4, -, -⟩ := DataW.trod_int Try.underlying2 t4
  obtain ⟨x5, hx5, -⟩ := DataW.trod_bool Try.underlying4 t5
  obtain ⟨x6, hx6, -, -⟩ := DataW.trod_int Try.underlying2 t6
  obtain ⟨x7, hx7, -⟩ := opens_slice Try.underlying28 (by kernel_rfl) (by decide) (opens_int Try.underlying2) H enc W held n7 v7 _ t7
  simp only [List.cons.injEq, and_true] at hx0 hx1 hx2 hx3 hx4 hx5 hx6
  subst hx0 hx1 hx2 hx3 hx4 hx5 hx6
  obtain ⟨l⟩ := cs
  simp only [Value.cells] at c0 c1 c2 c3 c4 c5 c6 c7 hl
  match l, hl with
  | [_, _, _, _, _, _, _, _], _ =>
    simp at c0 c1 c2 c3 c4 c5 c6 c7
    subst c0 c1 c2 c3 c4 c5 c6 c7
    exact ⟨⟨x0, x1, x2, x3, x4, x5, x6, x7⟩, _, rfl, hx7, hs3⟩
end Go.Proofs.Yticjphaagmnahaa
