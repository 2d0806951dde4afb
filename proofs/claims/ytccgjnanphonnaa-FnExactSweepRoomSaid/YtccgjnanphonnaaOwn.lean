/- Rows of numbers of a call's own. -/
import Derived.Test.YtccgjnanphonnaaApp
import Derived.Test.YtccgjnanphonnaaLawInt
import Derived.Lib.SliceRun
namespace Go.Proofs.Ytccgjnanphonnaa
open Go Go.RowKit
set_option linter.unusedVariables false
set_option linter.unusedSimpArgs false

section
variable {P : Program}
theorem run_app0 (w : World) (t ty e : TypeId) (i : TypeInfo) (ht : P.underlying t = some (.slice e)) (hi : P.info? e = some i) (base : Option Addr) (sLen sCap : Nat) (hle : sLen ≤ sCap) (A : Option Addr) (c : Nat) :
    (Builtin.append_ #[t, t] ty #[.slice base sLen sCap, .slice A 0 c]).run P w = .ok (.slice base sLen sCap) w := by
  cases A <;> cases base <;> simp [Builtin.append_, run_underlying ht, sizeOf, typeInfo, hi, Builtin.lenOf, Builtin.firstCells, hle, storeCells, loadCells, loadCellsFrom]
/-- append of nothing. -/
theorem wpList_app0 (w : World) {ops : Array Oper} {rest : List Oper} {o : Oper} {a : Act} {Q : Exit → Act → World → Prop} (hgd : o.guard = none) (s x : Operand) (t e : TypeId)
    (ho : o.op = .call { callee := .builtin .append, args := #[s, x], argTypes := #[t, t] })
    (i : TypeInfo) (ht : P.underlying t = some (.slice e)) (hi : P.info? e = some i) (base : Option Addr) (sLen sCap : Nat) (hle : sLen ≤ sCap) (hs : a.eval s = .slice base sLen sCap) (A : Option Addr) (c : Nat) (hx : a.eval x = .slice A 0 c)
    (h : wpList P ops Q rest (a.put o.dst (.slice base sLen sCap)) w) : wpList P ops Q (o :: rest) a w := by
  refine wpList_plain hgd fun K hK => ?_
  have hrun := run_app0 (P := P) w t o.type e i ht hi base sLen sCap hle A c
  unfold Oper.wp
  simp [execOp, ho, resolve, invoke, builtin, hs, hx, hrun, Result.andThen]
  exact hK _ _ h
theorem flat1 {α : Type} (f : α → Value) : ∀ xs : List α, (xs.map fun x => [f x]).flatten = xs.map f
  | [] => rfl
  | x :: xs => by simp [flat1 f xs]
/-- append of a whole row of numbers. -/
theorem wpList_app_ints {e : TypeId} (w : World) {ops : Array Oper} {rest : List Oper} {o : Oper} {a : Act} {Q : Exit → Act → World → Prop} (hgd : o.guard = none) (s x : Operand) (t : TypeId)
    (ho : o.op = .call { callee := .builtin .append, args := #[s, x], argTypes := #[t, t] })
    (ht : P.underlying t = some (.slice e)) (hinfo : (P.info? e).map (fun i => (i.zero, i.size, i.bytes)) = some (some (.int .i64 0), 1, 8))
    (v : Value) (xs : List Int) (F : List Nat) (hs : a.eval s = v) (hM : SliceM intD e w v xs F) (hF : F.Nodup)
    (b o2 : Nat) (c : Nat) (ys : List Int) (hx : a.eval x = .slice (some ⟨b, o2, none⟩) ys.length c) (hr : RowAt intD w b o2 ys) (hy : 0 < ys.length) (hlen : xs.length + ys.length ≤ 1048576)
    (h : ∀ g cap w' F', Apped intD e w w' (.slice (some ⟨g, 0, none⟩) (xs.length + ys.length) cap) (xs ++ ys) F [] F' → wpList P ops Q rest (a.put o.dst (.slice (some ⟨g, 0, none⟩) (xs.length + ys.length) cap)) w') : wpList P ops Q (o :: rest) a w := by
  have hn : (ys.map fun _ => ([] : List Nat)).flatten = [] := flatten_nils ys
  refine wpList_app (d := intD) w hgd s x t ho (.int .i64 0) 1 8 ht hinfo rfl (by omega) rfl v xs F hs hM hF ⟨b, o2, none⟩ ys.length c hx ys (ys.map fun n => [Value.int .i64 n]) (ys.map fun _ => []) rfl (All3.flat ys) (by rw [hn]; simp) (by rw [hn]; simp)
    (fun j u hu => ?_) hy (by unfold maxLen; omega) (by omega) (by rw [hn]; exact h)
  rw [flat1 (fun n => Value.int .i64 n), List.getElem?_map] at hu
  rcases hj : ys[j]? with _ | n
  · rw [hj] at hu; cases hu
  · rw [hj] at hu
    simp only [Option.map_some, Option.some.injEq] at hu
    subst hu
    have h2 := (int_at hr (Below.refl _ _) hj).2
    have : (⟨b, o2, none⟩ : Addr).add j = ⟨b, o2 + j, none⟩ := by
      unfold Addr.add; split
      · rename_i h0; subst h0; rfl
      · rfl
    rw [this]; exact h2
end
end Go.Proofs.Ytccgjnanphonnaa
