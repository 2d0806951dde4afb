/- One element of an owned row is changed. -/
import Derived.Test.YtccgjnanphonnaaRow
namespace Go.Proofs.Ytccgjnanphonnaa
open Go Go.RowKit
set_option linter.unusedVariables false

/-- In block b nothing but the cells from lo up to hi has been written. -/
def Wrote (b lo hi : Nat) (e : TypeId) (w w' : World) : Prop :=
  ∀ cur, w.heap[b]? = some (.cells cur e (0, 0)) → ∃ cur' : Array Value, w'.heap[b]? = some (.cells cur' e (0, 0)) ∧ cur'.size = cur.size ∧ ∀ i, (i < lo ∨ hi ≤ i) → cur'[i]? = cur[i]?
theorem Wrote.refl (b lo hi : Nat) (e : TypeId) (w : World) : Wrote b lo hi e w w := fun cur h => ⟨cur, h, rfl, fun _ _ => rfl⟩
theorem Wrote.set {b lo hi : Nat} {e : TypeId} {w w' : World} (h : Wrote b lo hi e w w') (o : Nat) (u : Value) (h1 : lo ≤ o) (h2 : o < hi) : Wrote b lo hi e w (w'.setCell ⟨b, o, none⟩ u) := by
  intro cur hc
  obtain ⟨cur', h3, h4, h5⟩ := h cur hc
  refine ⟨_, setCell_block w' b o u h3, by simpa using h4, fun i hi => ?_⟩
  rw [Array.getElem?_setIfInBounds_ne (by omega)]
  exact h5 i hi
theorem Wrote.keep {b lo hi : Nat} {e : TypeId} {w w' w2 : World} (h : Wrote b lo hi e w w') (hk : ∀ o, w'.heap[b]? = some o → w2.heap[b]? = some o) : Wrote b lo hi e w w2 := by
  intro cur hc
  obtain ⟨cur', h3, h4⟩ := h cur hc
  exact ⟨cur', hk _ h3, h4⟩
theorem Wrote.below {b lo hi : Nat} {e : TypeId} {w w' w2 : World} (h : Wrote b lo hi e w w') (hk : Below w'.heap.size w' w2) : Wrote b lo hi e w w2 :=
  h.keep fun o ho => (hk.block b (block_lt ho)).trans ho
theorem Wrote.chg {b lo hi : Nat} {e : TypeId} {w w' w2 : World} {F : List Nat} (h : Wrote b lo hi e w w') (hk : Chg F w' w2) (hF : b ∉ F) : Wrote b lo hi e w w2 :=
  h.keep fun o ho => (hk.block b (block_lt ho) hF).trans ho
theorem Wrote.alloc {b lo hi : Nat} {e : TypeId} {w w' : World} (h : Wrote b lo hi e w w') (o : Obj) : Wrote b lo hi e w (w'.alloc o) :=
  h.keep fun q hq => (alloc_old w' o (block_lt hq)).trans hq

theorem nodup_flatten_set : ∀ {Fs : List (List Nat)} {k : Nat} {G G' : List Nat}, Fs.flatten.Nodup → Fs[k]? = some G → G'.Nodup → (∀ y ∈ G', y ∈ G ∨ y ∉ Fs.flatten) → (Fs.set k G').flatten.Nodup
  | [], k, G, G', _, h, _, _ => by simp at h
  | F0 :: Fs, 0, G, G', hn, h, h', ha => by
    simp at h; subst h
    rw [List.flatten_cons, List.nodup_append] at hn
    rw [List.set_cons_zero, List.flatten_cons, List.nodup_append]
    refine ⟨h', hn.2.1, fun a ha1 c hc1 e => ?_⟩
    subst e
    rcases ha a ha1 with h1 | h1
    · exact hn.2.2 a h1 a hc1 rfl
    · exact h1 (List.mem_append.2 (.inr hc1))
  | F0 :: Fs, k + 1, G, G', hn, h, h', ha => by
    have h2 : Fs[k]? = some G := by simpa using h
    rw [List.flatten_cons, List.nodup_append] at hn
    rw [List.set_cons_succ, List.flatten_cons, List.nodup_append]
    refine ⟨hn.1, nodup_flatten_set hn.2.1 h2 h' (fun y hy => ?_), fun a ha1 c hc1 e => ?_⟩
    · rcases ha y hy with h1 | h1
      · exact .inl h1
      · exact .inr fun h3 => h1 (List.mem_append.2 (.inr h3))
    · subst e
      rcases mem_flatten_set h2 hc1 with h3 | h3
      · rcases ha a h3 with h1 | h1
        · exact hn.2.2 a ha1 a (mem_flatten_of h2 h1) rfl
        · exact h1 (List.mem_append.2 (.inl ha1))
      · exact hn.2.2 a ha1 a h3 rfl

theorem seg_of {L L' : List Value} {o : Nat} {cs : List Value} (hl : L'.length = L.length) (hf : o + cs.length ≤ L.length) (h1 : ∀ i u, cs[i]? = some u → L'[o + i]? = some u) (h2 : ∀ i, (i < o ∨ o + cs.length ≤ i) → L'[i]? = L[i]?) : L' = segSet L o cs := by
  apply List.ext_getElem?
  intro i
  rw [segSet_get cs L o i hf]
  by_cases h : o ≤ i ∧ i < o + cs.length
  · rw [if_pos h, List.getElem?_eq_getElem (show i - o < cs.length by omega), ← h1 (i - o) _ (List.getElem?_eq_getElem (by omega)), show o + (i - o) = i by omega]
  · rw [if_neg h]; exact h2 i (by omega)

section
variable {α : Type} {d : Dt α} {e : TypeId} {w : World}
/-- Element k of an owned row, open: what it is, and the row behind a change of it. -/
structure Elem (d : Dt α) (e : TypeId) (w : World) (v : Value) (b : Nat) (xs : List α) (F : List Nat) (k : Nat) (x : α) (cs : List Value) (G : List Nat) : Prop where
  M : d.M w x cs G
  cell : ∀ i u, cs[i]? = some u → w.cell? ⟨b, k * d.sz + i, none⟩ = some u
  frozen : ∀ o, w.frozen? ⟨b, o, none⟩ = false
  sub : ∀ y ∈ G, y ∈ F
  nodup : G.Nodup
  out : b ∉ G
  mem : b ∈ F
  lt : b < w.heap.size
  turn : ∀ (w' : World) (cs' : List Value) (x' : α) (G' : List Nat), Wrote b (k * d.sz) (k * d.sz + d.sz) e w w' → Chg (b :: G) w w' → d.M w' x' cs' G' → (∀ i u, cs'[i]? = some u → w'.cell? ⟨b, k * d.sz + i, none⟩ = some u) → G'.Nodup → (∀ y ∈ G', y ∈ G ∨ w.heap.size ≤ y) →
    ∃ F', SliceM d e w' v (xs.set k x') F' ∧ F'.Nodup ∧ (∀ y ∈ F', y ∈ F ∨ w.heap.size ≤ y) ∧ Chg F w w'
theorem SliceM.elem {b cap : Nat} {xs : List α} {F : List Nat} (h : SliceM d e w (.slice (some ⟨b, 0, none⟩) xs.length cap) xs F) (hF : F.Nodup) {k : Nat} {x : α} (hx : xs[k]? = some x) :
    ∃ cs G, Elem d e w (.slice (some ⟨b, 0, none⟩) xs.length cap) b xs F k x cs G := by
  rcases h.row with ⟨h0, _⟩ | ⟨b', cap', cur, css, Fs, hv, hr, rfl⟩
  · cases h0
  simp only [Value.slice.injEq, Option.some.injEq, Addr.mk.injEq, and_true, true_and] at hv
  obtain ⟨rfl, rfl⟩ := hv
  obtain ⟨cs, G, hc, hG, hm, hcell⟩ := hr.elem hx
  have hbF := (List.nodup_cons.1 hF).1
  have hk := (List.getElem?_eq_some_iff.1 hx).1
  refine ⟨cs, G, hm, hcell, hr.frozen, fun y hy => List.mem_cons_of_mem _ (mem_flatten_of hG hy), nodup_sub (List.nodup_cons.1 hF).2 hG, fun h => hbF (mem_flatten_of hG h), List.mem_cons_self, block_lt hr.blk, ?_⟩
  intro w' cs' x' G' hw hc' hm' hcell' hn' hfr
  obtain ⟨cur', hb', hs', ho'⟩ := hw cur hr.blk
  have hcl := d.K_len (d.M_K hm')
  have hfit := hr.fits hk
  have hupd := hr.upd (w' := w') (cs' := cs') (cur' := cur') (List.nodup_cons.1 hF).2 hx hG hm' hb' (by
    refine seg_of (by simpa using hs') (by rw [hcl, Array.length_toList]; exact hfit) (fun i u hu => ?_) (fun i hi => ?_)
    · have := hcell' i u hu
      rw [cell_block hb'] at this
      rw [Array.getElem?_toList]; exact this
    · rw [hcl] at hi
      rw [Array.getElem?_toList, Array.getElem?_toList]
      exact ho' i hi) (fun y hy hyG => hc'.block y (hr.lt y (List.mem_cons_of_mem _ hy)) (fun h => by
        rcases List.mem_cons.1 h with h | h
        · subst h; exact hbF hy
        · exact hyG h))
  have hlt : ∀ y ∈ Fs.flatten, y < w.heap.size := fun y hy => hr.lt y (List.mem_cons_of_mem _ hy)
  refine ⟨b :: (Fs.set k G').flatten, ?_, ?_, ?_, ?_⟩
  · have := hupd.M
    rwa [List.length_set] at this
  · refine List.nodup_cons.2 ⟨fun h => ?_, nodup_flatten_set (List.nodup_cons.1 hF).2 hG hn' (fun y hy => ?_)⟩
    · rcases mem_flatten_set hG h with h1 | h1
      · rcases hfr b h1 with h2 | h2
        · exact hbF (mem_flatten_of hG h2)
        · have := block_lt hr.blk; omega
      · exact hbF h1
    · rcases hfr y hy with h2 | h2
      · exact .inl h2
      · exact .inr fun h => by have := hlt y h; omega
  · intro y hy
    rcases List.mem_cons.1 hy with rfl | hy
    · exact .inl List.mem_cons_self
    · rcases mem_flatten_set hG hy with h1 | h1
      · rcases hfr y h1 with h2 | h2
        · exact .inl (List.mem_cons_of_mem _ (mem_flatten_of hG h2))
        · exact .inr h2
      · exact .inl (List.mem_cons_of_mem _ h1)
  · exact hc'.mono fun y hy => .inl (by
      rcases List.mem_cons.1 hy with rfl | hy
      · exact List.mem_cons_self
      · exact List.mem_cons_of_mem _ (mem_flatten_of hG hy))
end
end Go.Proofs.Ytccgjnanphonnaa
