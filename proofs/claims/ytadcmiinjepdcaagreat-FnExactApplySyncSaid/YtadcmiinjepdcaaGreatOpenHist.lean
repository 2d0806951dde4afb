/- A history that comes from without, read as plain data. -/
import Derived.Test.YtadcmiinjepdcaaGreatOpenLog
import Derived.Test.YtadcmiinjepdcaaGreatOpenEvent
namespace Go.Proofs.YtadcmiinjepdcaaGreat
open Go Go.RowKit Go.ChangeShapes Go.WideShapes Go.Deep
set_option linter.unusedVariables false

theorem opens_log : Opens Tryz.prog logD okLog 24 := by
  intro H enc W held fuel cs y h
  obtain ⟨hl, hf⟩ := open_fields Tryz.underlying24 (by kernel_rfl) (by kernel_rfl) h
  obtain ⟨v0, n0, z0, c0, t0⟩ := hf 0 _ rfl
  obtain ⟨v1, n1, z1, c1, t1⟩ := hf 1 _ rfl
  obtain ⟨x0, hx0, -, -⟩ := DataW.trod_int Tryz.underlying2 t0
  obtain ⟨x1, hx1, hk1⟩ := opens_slice Tryz.underlying22 (by kernel_rfl) (by decide) opens_message H enc W held n1 v1 _ t1
  simp only [List.cons.injEq, and_true] at hx0
  subst hx0
  match cs, hl with
  | [_, _], _ =>
    simp at c0 c1
    subst c0 c1
    exact ⟨⟨x0, x1⟩, log_K_mk hx1, hk1⟩
set_option maxRecDepth 100000 in
theorem open_history {H : Type} {enc : TypeId × Value → H} {W : World} {held : Bool} {b0 : Nat} {v : Value} {d : DataW H} {ps : List MemPlace} (hv : Value.okWide Tryz.prog W .any b0 27 v)
    (h : DataW.Trod enc Tryz.prog W 0 (fun _ => true) held 27 v d ps) : ∃ (x : History) (v1 v2 : Value), v = .agg #[.int .i64 x.base.next, v1, v2] ∧ SliceK messageD W v1 x.base.messages ∧ SliceK eventD W v2 x.events ∧ okHistory x := by
  obtain ⟨cs, rfl, hsz⟩ := okWide_struct Tryz.underlying27 hv
  obtain ⟨fuel, h⟩ := h
  obtain ⟨xs, n, _, _, hlen, hxl, hf⟩ := DataW.trod_struct Tryz.underlying27 h
  have f0 := hf 0 _ rfl
  have f1 := hf 1 _ rfl
  have k3 : Tryz.prog.cellsOf 27 = 3 := by kernel_rfl
  have k2 : Tryz.prog.cellsOf 24 = 2 := by kernel_rfl
  have k1 : Tryz.prog.cellsOf 25 = 1 := by kernel_rfl
  obtain ⟨l⟩ := cs
  simp only [Value.cells] at f0 f1 hlen
  rw [k3] at hlen
  match xs, hxl, l, hlen with
  | [x0, x1], _, [a, b, c], _ =>
    simp [k2, k1] at f0 f1
    obtain ⟨lg, hK, hok⟩ := opens_log H enc W held n _ _ f0
    obtain ⟨u1, hu, hS⟩ := log_K hK
    simp only [List.cons.injEq, and_true] at hu
    obtain ⟨rfl, rfl⟩ := hu
    obtain ⟨es, hE, hke⟩ := opens_slice Tryz.underlying25 (by kernel_rfl) (by decide) opens_event H enc W held n c _ f1
    exact ⟨⟨lg, es⟩, _, _, rfl, hS, hE, hok, hke⟩
end Go.Proofs.YtadcmiinjepdcaaGreat
