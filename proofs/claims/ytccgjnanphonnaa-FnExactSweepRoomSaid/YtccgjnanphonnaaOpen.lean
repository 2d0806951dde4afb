/- What comes from without, read as plain data. -/
import Derived.Test.YtccgjnanphonnaaRow
import Derived.Deep.Slices
import Derived.Deep.Fields
import Derived.ChangeSame
namespace Go.Proofs.Ytccgjnanphonnaa
open Go Go.RowKit Go.ChangeShapes Go.WideShapes Go.Deep
set_option linter.unusedVariables false

theorem spot_none {w : World} {a : Addr} {v : Value} (h : w.cell? a = some v) : a.spot = none := by
  unfold World.cell? at h
  split at h
  · split at h
    · cases h
    · rename_i h2; simpa using h2
  · cases h
theorem add_at {b o n : Nat} : (⟨b, o, none⟩ : Addr).add n = ⟨b, o + n, none⟩ := by
  unfold Addr.add; split
  · rename_i h; subst h; rfl
  · rfl

/-- A type's readings from without are plain data. -/
def Opens {α : Type} (P : Program) (d : Dt α) (ok : α → Prop) (t : TypeId) : Prop :=
  ∀ (H : Type) (enc : TypeId × Value → H) (W : World) (held : Bool) (fuel : Nat) (cs : List Value) (y : DataW H × List MemPlace),
    DataW.trod enc P W 0 (fun _ => true) held fuel t cs = some y → ∃ x, d.K W x cs ∧ ok x

section
variable {P : Program}
theorem opens_int {t : TypeId} (ht : P.underlying t = some (.int .i64)) : Opens P intD (fun _ => True) t := by
  intro H enc W held fuel cs y h
  obtain ⟨n, rfl, _, _⟩ := DataW.trod_int ht h
  exact ⟨n, rfl, trivial⟩
theorem opens_slice {α : Type} {d : Dt α} {ok : α → Prop} {t e : TypeId} (ht : P.underlying t = some (.slice e)) (hC : P.cellsOf e = d.sz) (hsz : 0 < d.sz) (h : Opens P d ok e)
    (H : Type) (enc : TypeId × Value → H) (W : World) (held : Bool) (fuel : Nat) (v : Value) (y : DataW H × List MemPlace)
    (hy : DataW.trod enc P W 0 (fun _ => true) held fuel t [v] = some y) : ∃ xs, SliceK d W v xs ∧ ∀ x ∈ xs, ok x := by
  rcases open_slice ht hy with ⟨hcs, _⟩ | ⟨a, len, cap, m, n, D, Pl, hcs, hb, hl, hm, hmm, hx, hi⟩
  · simp only [List.cons.injEq, and_true] at hcs
    subst hcs
    exact ⟨[], SliceK.nil d W, by simp⟩
  · simp only [List.cons.injEq, and_true] at hcs
    subst hcs
    have hlm : len ≤ m := by rw [hmm]; simp only [if_true]; exact hl
    by_cases h0 : len = 0
    · subst h0
      exact ⟨[], ⟨_, _, rfl, Nat.zero_le _, hm, .inl rfl⟩, by simp⟩
    · have hs : a.spot = none := by
        obtain ⟨cs', hc, ht'⟩ := hi 0 (by omega)
        obtain ⟨_, _, hat⟩ := World.cells?_some hc
        obtain ⟨x, hK, _⟩ := h H enc W held n cs' _ ht'
        have h1 := hat 0 (by omega)
        rw [List.getElem?_eq_getElem (by rw [d.K_len hK]; exact hsz)] at h1
        have h2 := spot_none h1
        simpa [Addr.add] using h2
      obtain ⟨b, o, sp⟩ := a
      simp only at hs
      subst hs
      have hex : ∀ i, ∃ x, i < len → ok x ∧ ∃ cs, d.K W x cs ∧ ∀ j u, cs[j]? = some u → W.cell? ⟨b, o + i * d.sz + j, none⟩ = some u := fun i => by
        by_cases hlt : i < len
        · obtain ⟨cs', hc, ht'⟩ := hi i (by omega)
          obtain ⟨_, hcl, hat⟩ := World.cells?_some hc
          obtain ⟨x, hK, hok⟩ := h H enc W held n cs' _ ht'
          refine ⟨x, fun _ => ⟨hok, cs', hK, fun j u hj => ?_⟩⟩
          have hjl : j < P.cellsOf e := by rw [← hcl]; exact (List.getElem?_eq_some_iff.1 hj).1
          have := hat j hjl
          rw [add_at, add_at, hC, hj] at this
          exact this
        · obtain ⟨cs', hc, ht'⟩ := hi 0 (by omega)
          obtain ⟨x, hK, hok⟩ := h H enc W held n cs' _ ht'
          exact ⟨x, fun h => absurd h hlt⟩
      have ⟨f, hf⟩ := Classical.axiomOfChoice hex
      refine ⟨(List.range len).map f, ⟨_, cap, by simp, by simpa using hl, hm, .inr ⟨b, o, rfl, fun j x hj => ?_⟩⟩, fun x hx => ?_⟩
      · rw [List.getElem?_map] at hj
        rcases hr : (List.range len)[j]? with _ | q
        · rw [hr] at hj; simp at hj
        · rw [hr] at hj
          obtain ⟨hlt, hq⟩ := List.getElem?_eq_some_iff.1 hr
          simp at hlt hq hj
          subst hq
          subst hj
          exact (hf j hlt).2
      · obtain ⟨i, hi2, rfl⟩ := List.mem_map.1 hx
        exact (hf i (List.mem_range.1 hi2)).1
/-- A struct whose fields are of one cell each: its fields' readings. -/
theorem open_fields {H : Type} {enc : TypeId × Value → H} {W : World} {held : Bool} {fuel : Nat} {t : TypeId} {fs : Array Field} {cs : List Value} {y : DataW H × List MemPlace} (ht : P.underlying t = some (.struct fs)) (hone : oneCellFields P fs = true) (hC : P.cellsOf t = fs.size)
    (h : DataW.trod enc P W 0 (fun _ => true) held fuel t cs = some y) :
    cs.length = fs.size ∧ ∀ (j : Nat) (f : Field), fs[j]? = some f → ∃ v n z, cs[j]? = some v ∧ DataW.trod enc P W 0 (fun _ => true) held n f.type [v] = some z := by
  obtain ⟨xs, n, _, _, hlen, hxl, hf⟩ := DataW.trod_struct ht h
  refine ⟨hlen.trans hC, fun j f hj => ?_⟩
  obtain ⟨ho, hk⟩ := hone_of hone j f hj
  have hjl : j < fs.size := (Array.getElem?_eq_some_iff.1 hj).1
  have h1 := hf j f hj
  rw [ho, hk, List.drop_eq_getElem_cons (by omega), List.getElem?_eq_getElem (by omega)] at h1
  exact ⟨_, n, _, List.getElem?_eq_getElem (by omega), h1⟩
end

theorem open_row {P : Program} {α : Type} {d : Dt α} {ok : α → Prop} {t e : TypeId} (ht : P.underlying t = some (.slice e)) (hC : P.cellsOf e = d.sz) (hsz : 0 < d.sz) (h : Opens P d ok e)
    {H : Type} {enc : TypeId × Value → H} {W : World} {held : Bool} {b0 : Nat} {v : Value} {D : DataW H} {ps : List MemPlace} (hv : Value.okWide P W .any b0 t v)
    (hy : DataW.Trod enc P W 0 (fun _ => true) held t v D ps) : ∃ xs, SliceK d W v xs ∧ ∀ x ∈ xs, ok x := by
  obtain ⟨a, len, cap, rfl⟩ := okWide_slice ht hv
  obtain ⟨fuel, hy⟩ := hy
  exact opens_slice ht hC hsz h H enc W held fuel _ _ hy
theorem opens_str {P : Program} {t : TypeId} (ht : P.underlying t = some .string) : Opens P strD (fun s => s.size ≤ 9223372036854775807) t := by
  intro H enc W held fuel cs y h
  obtain ⟨n, rfl, _, hs⟩ := DataW.trod_string ht h
  exact ⟨n, rfl, hs⟩
end Go.Proofs.Ytccgjnanphonnaa
