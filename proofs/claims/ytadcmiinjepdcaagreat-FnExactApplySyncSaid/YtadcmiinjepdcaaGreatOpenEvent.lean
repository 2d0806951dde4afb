/- An event that comes from without, read as plain data. -/
import Derived.Test.YtadcmiinjepdcaaGreatOpen
import Derived.Test.YtadcmiinjepdcaaGreatLawEvent
namespace Go.Proofs.YtadcmiinjepdcaaGreat
open Go Go.RowKit Go.ChangeShapes Go.WideShapes Go.Deep
set_option linter.unusedVariables false

set_option maxRecDepth 100000 in
theorem opens_event : Opens Tryz.prog eventD okEvent 83 := by
  intro H enc W held fuel cs y h
  obtain ⟨hl, hf⟩ := open_fields Tryz.underlying83 (by kernel_rfl) (by kernel_rfl) h
  obtain ⟨v0, n0, z0, c0, t0⟩ := hf 0 _ rfl
  obtain ⟨v1, n1, z1, c1, t1⟩ := hf 1 _ rfl
  obtain ⟨v2, n2, z2, c2, t2⟩ := hf 2 _ rfl
  obtain ⟨v3, n3, z3, c3, t3⟩ := hf 3 _ rfl
  obtain ⟨v4, n4, z4, c4, t4⟩ := hf 4 _ rfl
  obtain ⟨v5, n5, z5, c5, t5⟩ := hf 5 _ rfl
  obtain ⟨x0, hx0, -, -⟩ := DataW.trod_int Tryz.underlying2 t0
  obtain ⟨x1, hx1, -, -⟩ := DataW.trod_int Tryz.underlying2 t1
  obtain ⟨x2, hx2, -, -⟩ := DataW.trod_int Tryz.underlying2 t2
  obtain ⟨x3, hx3, -, -⟩ := DataW.trod_int Tryz.underlying2 t3
  obtain ⟨x4, hx4, -, hs4⟩ := DataW.trod_string Tryz.underlying9 t4
  obtain ⟨x5, hx5, -, -⟩ := DataW.trod_int Tryz.underlying2 t5
  simp only [List.cons.injEq, and_true] at hx0 hx1 hx2 hx3 hx4 hx5
  subst hx0 hx1 hx2 hx3 hx4 hx5
  match cs, hl with
  | [_, _, _, _, _, _], _ =>
    simp at c0 c1 c2 c3 c4 c5
    subst c0 c1 c2 c3 c4 c5
    exact ⟨⟨x0, x1, x2, x3, x4, x5⟩, rfl, hs4⟩
set_option maxRecDepth 100000 in
theorem open_event {H : Type} {enc : TypeId × Value → H} {W : World} {held : Bool} {b0 : Nat} {v : Value} {d : DataW H} {ps : List MemPlace} (hv : Value.okWide Tryz.prog W .any b0 83 v)
    (h : DataW.Trod enc Tryz.prog W 0 (fun _ => true) held 83 v d ps) : ∃ (x : Event), v = .agg #[.int .i64 x.kind, .int .i64 x.number, .int .i64 x.member, .int .i64 x.at_, .string x.text, .int .i64 x.reply] ∧ okEvent x := by
  obtain ⟨cs, rfl, hsz⟩ := okWide_struct Tryz.underlying83 hv
  obtain ⟨fuel, h⟩ := h
  obtain ⟨x, hx, hok⟩ := opens_event H enc W held fuel _ _ h
  obtain ⟨l⟩ := cs
  refine ⟨x, ?_, hok⟩
  have h1 : l = [.int .i64 x.kind, .int .i64 x.number, .int .i64 x.member, .int .i64 x.at_, .string x.text, .int .i64 x.reply] := hx
  rw [h1]
end Go.Proofs.YtadcmiinjepdcaaGreat
