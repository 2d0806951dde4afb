/- What a device is sent, from without, read as plain data. -/
import Derived.Test.YtadcmiinjepdcaaGreatOpenHist
namespace Go.Proofs.YtadcmiinjepdcaaGreat
open Go Go.RowKit Go.ChangeShapes Go.WideShapes Go.Deep
set_option linter.unusedVariables false

set_option maxRecDepth 100000 in
theorem open_sync {H : Type} {enc : TypeId × Value → H} {W : World} {held : Bool} {b0 : Nat} {v : Value} {d : DataW H} {ps : List MemPlace} (hv : Value.okWide Tryz.prog W .any b0 47 v)
    (h : DataW.Trod enc Tryz.prog W 0 (fun _ => true) held 47 v d ps) : ∃ (x : Sync) (v1 v3 : Value), v = .agg #[.int .i64 x.kind, v1, .int .i64 x.whole.next, v3] ∧ SliceK eventD W v1 x.events ∧ SliceK messageD W v3 x.whole.messages ∧ okSync x := by
  obtain ⟨cs, rfl, hsz⟩ := okWide_struct Tryz.underlying47 hv
  obtain ⟨fuel, h⟩ := h
  obtain ⟨xs, n, _, _, hlen, hxl, hf⟩ := DataW.trod_struct Tryz.underlying47 h
  have f0 := hf 0 _ rfl
  have f1 := hf 1 _ rfl
  have f2 := hf 2 _ rfl
  have k4 : Tryz.prog.cellsOf 47 = 4 := by kernel_rfl
  have k2 : Tryz.prog.cellsOf 24 = 2 := by kernel_rfl
  have k1 : Tryz.prog.cellsOf 25 = 1 := by kernel_rfl
  have k0 : Tryz.prog.cellsOf 2 = 1 := by kernel_rfl
  obtain ⟨l⟩ := cs
  simp only [Value.cells] at f0 f1 f2 hlen
  rw [k4] at hlen
  match xs, hxl, l, hlen with
  | [x0, x1, x2], _, [a, b, c, e], _ =>
    simp [k2, k1, k0] at f0 f1 f2
    obtain ⟨kd, hk, -, -⟩ := DataW.trod_int Tryz.underlying2 f0
    simp only [List.cons.injEq, and_true] at hk
    subst hk
    obtain ⟨es, hE, hke⟩ := opens_slice Tryz.underlying25 (by kernel_rfl) (by decide) opens_event H enc W held n b _ f1
    obtain ⟨lg, hK, hok⟩ := opens_log H enc W held n _ _ f2
    obtain ⟨u1, hu, hS⟩ := log_K hK
    simp only [List.cons.injEq, and_true] at hu
    obtain ⟨rfl, rfl⟩ := hu
    exact ⟨⟨kd, es, lg⟩, _, _, rfl, hE, hS, hke, hok⟩
end Go.Proofs.YtadcmiinjepdcaaGreat
