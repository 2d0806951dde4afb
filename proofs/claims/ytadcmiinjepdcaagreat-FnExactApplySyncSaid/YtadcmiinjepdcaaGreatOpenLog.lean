/- A log that comes from without, read as plain data. -/
import Derived.Test.YtadcmiinjepdcaaGreatOpen
import Derived.Test.YtadcmiinjepdcaaGreatLawLog
namespace Go.Proofs.YtadcmiinjepdcaaGreat
open Go Go.RowKit Go.ChangeShapes Go.WideShapes Go.Deep
set_option linter.unusedVariables false

theorem opens_message : Opens Tryz.prog messageD okMessage 97 := by
  intro H enc W held fuel cs y h
  obtain ⟨hl, hf⟩ := open_fields Tryz.underlying97 (by kernel_rfl) (by kernel_rfl) h
  obtain ⟨v0, n0, z0, c0, t0⟩ := hf 0 _ rfl
  obtain ⟨v1, n1, z1, c1, t1⟩ := hf 1 _ rfl
  obtain ⟨v2, n2, z2, c2, t2⟩ := hf 2 _ rfl
  obtain ⟨v3, n3, z3, c3, t3⟩ := hf 3 _ rfl
  obtain ⟨v4, n4, z4, c4, t4⟩ := hf 4 _ rfl
  obtain ⟨v5, n5, z5, c5, t5⟩ := hf 5 _ rfl
  obtain ⟨v6, n6, z6, c6, t6⟩ := hf 6 _ rfl
  obtain ⟨v7, n7, z7, c7, t7⟩ := hf 7 _ rfl
  obtain ⟨x0, hx0, -, -⟩ := DataW.trod_int Tryz.underlying2 t0
  obtain ⟨x1, hx1, -, -⟩ := DataW.trod_int Tryz.underlying2 t1
  obtain ⟨x2, hx2, -, -⟩ := DataW.trod_int Tryz.underlying2 t2
  obtain ⟨x3, hx3, -, hs3⟩ := DataW.trod_string Tryz.underlying9 t3
  obtain ⟨x4, hx4, -, -⟩ := DataW.trod_int Tryz.underlying2 t4
  obtain ⟨x5, hx5, -⟩ := DataW.trod_bool Tryz.underlying4 t5
  obtain ⟨x6, hx6, -, -⟩ := DataW.trod_int Tryz.underlying2 t6
  obtain ⟨x7, hx7, -⟩ := opens_slice Tryz.underlying88 (by kernel_rfl) (by decide) (opens_int Tryz.underlying2) H enc W held n7 v7 _ t7
  simp only [List.cons.injEq, and_true] at hx0 hx1 hx2 hx3 hx4 hx5 hx6
  subst hx0 hx1 hx2 hx3 hx4 hx5 hx6
  match cs, hl with
  | [_, _, _, _, _, _, _, _], _ =>
    simp at c0 c1 c2 c3 c4 c5 c6 c7
    subst c0 c1 c2 c3 c4 c5 c6 c7
    exact ⟨⟨x0, x1, x2, x3, x4, x5, x6, x7⟩, message_K_mk hx7, hs3⟩
set_option maxRecDepth 100000 in
theorem open_log {H : Type} {enc : TypeId × Value → H} {W : World} {held : Bool} {b0 : Nat} {v : Value} {d : DataW H} {ps : List MemPlace} (hv : Value.okWide Tryz.prog W .any b0 24 v)
    (h : DataW.Trod enc Tryz.prog W 0 (fun _ => true) held 24 v d ps) : ∃ (x : Log) (v1 : Value), v = .agg #[.int .i64 x.next, v1] ∧ SliceK messageD W v1 x.messages ∧ okLog x := by
  obtain ⟨cs, rfl, hsz⟩ := okWide_struct Tryz.underlying24 hv
  obtain ⟨fuel, h⟩ := h
  obtain ⟨hl, hf⟩ := open_fields Tryz.underlying24 (by kernel_rfl) (by kernel_rfl) h
  obtain ⟨v0, n0, z0, c0, t0⟩ := hf 0 _ rfl
  obtain ⟨v1, n1, z1, c1, t1⟩ := hf 1 _ rfl
  obtain ⟨x0, hx0, -, -⟩ := DataW.trod_int Tryz.underlying2 t0
  obtain ⟨x1, hx1, hk1⟩ := opens_slice Tryz.underlying22 (by kernel_rfl) (by decide) opens_message H enc W held n1 v1 _ t1
  simp only [List.cons.injEq, and_true] at hx0
  subst hx0
  obtain ⟨l⟩ := cs
  simp only [Value.cells] at c0 c1 hl
  match l, hl with
  | [_, _], _ =>
    simp at c0 c1
    subst c0 c1
    exact ⟨⟨x0, x1⟩, _, rfl, hx1, hk1⟩
end Go.Proofs.YtadcmiinjepdcaaGreat
