/- Rows of flat structs: a whole row is appended. -/
import Derived.Test.YtccgjnanphonnaaOwn
namespace Go.Proofs.Ytccgjnanphonnaa
open Go Go.RowKit
set_option linter.unusedVariables false
set_option linter.unusedSimpArgs false

section
variable {P : Program} {α : Type} {n : Nat} {enc : α → List Value} {hl : ∀ x, (enc x).length = n} {h1 : ∀ x, ∀ u ∈ enc x, u.oneCell' = true}
theorem flatten_at {n : Nat} (hn : 0 < n) : ∀ (css : List (List Value)), (∀ c ∈ css, c.length = n) → ∀ (j : Nat) (u : Value), css.flatten[j]? = some u → ∃ cs, css[j / n]? = some cs ∧ cs[j % n]? = some u
  | [], _, j, u, h => by simp at h
  | c :: css, hc, j, u, h => by
    have hcl : c.length = n := hc c List.mem_cons_self
    rw [List.flatten_cons] at h
    by_cases hj : j < n
    · rw [List.getElem?_append_left (by omega)] at h
      exact ⟨c, by rw [Nat.div_eq_of_lt hj]; rfl, by rw [Nat.mod_eq_of_lt hj]; exact h⟩
    · rw [List.getElem?_append_right (by omega), hcl] at h
      obtain ⟨cs, h2, h3⟩ := flatten_at hn css (fun x hx => hc x (List.mem_cons_of_mem _ hx)) (j - n) u h
      refine ⟨cs, ?_, ?_⟩
      · rw [Nat.div_eq_sub_div hn (by omega), List.getElem?_cons_succ]; exact h2
      · rw [Nat.mod_eq_sub_mod (by omega)]; exact h3
/-- append of a whole row of flat structs. -/
theorem wpList_app_flat {e : TypeId} (w : World) {ops : Array Oper} {rest : List Oper} {o : Oper} {a : Act} {Q : Exit → Act → World → Prop} (hgd : o.guard = none) (s x : Operand) (t : TypeId)
    (ho : o.op = .call { callee := .builtin .append, args := #[s, x], argTypes := #[t, t] }) (z : Value) (bytes : Nat)
    (ht : P.underlying t = some (.slice e)) (hinfo : (P.info? e).map (fun i => (i.zero, i.size, i.bytes)) = some (some z, n, bytes)) (hzs : z.cells.size = n) (hn : 0 < n) (hby : bytes ≤ 1000)
    (v : Value) (xs : List α) (F : List Nat) (hs : a.eval s = v) (hM : SliceM (Dt.flat n enc hl h1) e w v xs F) (hF : F.Nodup)
    (b o2 : Nat) (c : Nat) (ys : List α) (hx : a.eval x = .slice (some ⟨b, o2, none⟩) ys.length c) (hr : RowAt (Dt.flat n enc hl h1) w b o2 ys) (hy : 0 < ys.length) (hlen : xs.length + ys.length ≤ 1048576)
    (h : ∀ g cap w' F', Apped (Dt.flat n enc hl h1) e w w' (.slice (some ⟨g, 0, none⟩) (xs.length + ys.length) cap) (xs ++ ys) F [] F' → wpList P ops Q rest (a.put o.dst (.slice (some ⟨g, 0, none⟩) (xs.length + ys.length) cap)) w') : wpList P ops Q (o :: rest) a w := by
  have hnn : (ys.map fun _ => ([] : List Nat)).flatten = [] := flatten_nils ys
  have hb1 : (xs.length + ys.length) * bytes ≤ 1048576 * 1000 := Nat.mul_le_mul hlen hby
  refine wpList_app (d := Dt.flat n enc hl h1) w hgd s x t ho z n bytes ht hinfo hzs hn rfl v xs F hs hM hF ⟨b, o2, none⟩ ys.length c hx ys (ys.map enc) (ys.map fun _ => []) rfl (All3.flat ys) (by rw [hnn]; simp) (by rw [hnn]; simp)
    (fun j u hu => ?_) hy (by unfold maxLen; omega) (by omega) (by rw [hnn]; exact h)
  obtain ⟨cs, h2, h3⟩ := flatten_at hn (ys.map enc) (fun c hc => by obtain ⟨y, _, rfl⟩ := List.mem_map.1 hc; exact hl y) j u hu
  rw [List.getElem?_map] at h2
  rcases hj : ys[j / n]? with _ | y
  · rw [hj] at h2; cases h2
  · rw [hj] at h2
    simp only [Option.map_some, Option.some.injEq] at h2
    subst h2
    obtain ⟨cs', hk, hc⟩ := hr (j / n) y hj
    obtain rfl : cs' = enc y := hk
    have h4 := hc (j % n) u h3
    have h5 : o2 + j / n * n + j % n = o2 + j := by have := Nat.div_add_mod' j n; omega
    rw [show (⟨b, o2, none⟩ : Addr).add j = ⟨b, o2 + j, none⟩ by unfold Addr.add; split <;> simp_all]
    rw [← h5]; exact h4
end
end Go.Proofs.Ytccgjnanphonnaa
