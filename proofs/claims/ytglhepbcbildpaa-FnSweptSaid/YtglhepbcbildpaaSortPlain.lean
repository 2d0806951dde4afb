/- slices.SortFunc at rows of flat structs of one's own: what the kit's contract says of them. -/
import Derived.Test.YtglhepbcbildpaaRGround
import Derived.Shelf.SlSortCmp.WholeK
import Derived.Shelf.SlSortCmp.NoneTotal
namespace Go.Proofs.Ytglhepbcbildpaa
open Go Go.RowKit
set_option linter.unusedVariables false
set_option linter.unusedSimpArgs false

section
variable {α : Type} [Inhabited α] {n : Nat} {enc : α → List Value} {hl : ∀ x, (enc x).length = n} {h1 : ∀ x, ∀ u ∈ enc x, u.oneCell' = true} {d : Dt α} {e : TypeId} {w0 w : World} {L : List Piece} {b c : Nat} {xs : List α} {F : List Nat}
theorem flat_at (hn : 0 < n) (xs : List α) (hl : ∀ x, (enc x).length = n) {j : Nat} (hj : j < xs.length * n) : (xs.map enc).flatten[j]? = some ((Go.Sort.flatK enc n xs.toArray)[j]!) := by
  have hq : j / n < xs.length := (Nat.div_lt_iff_lt_mul hn).2 hj
  have hr : j % n < n := Nat.mod_lt _ hn
  have h2 := flatten_get (n := n) (xs.map enc) (fun c hc => by obtain ⟨y, _, rfl⟩ := List.mem_map.1 hc; exact hl y) (j / n) (enc xs[j / n]) (by rw [List.getElem?_map, List.getElem?_eq_getElem hq]; rfl) (j % n) ((enc xs[j / n])[j % n]'(by rw [hl]; exact hr)) (List.getElem?_eq_getElem _)
  rw [Nat.div_add_mod' j n] at h2
  rw [h2, Go.Sort.get_flatK _ _ _ _ (by simpa using hj)]
  congr 1
  rw [getElem!_pos xs.toArray (j / n) (by simpa using hq)]
  simp only [List.getElem_toArray]
  rw [getElem!_pos (enc xs[j / n]) (j % n) (by rw [hl]; exact hr)]
theorem St.holdsK (hd : d = Dt.flat n enc hl h1) (hn : 0 < n) (h : St w0 w (own d e (.slice (some ⟨b, 0, none⟩) xs.length c) xs F :: L)) : Go.Sort.HoldsK enc n w b 0 xs.toArray := by
  subst hd
  rcases flat_M h.head with ⟨h0, _⟩ | ⟨b', cap, cur, hv, h2, h3, hh, h4, h5, hF⟩
  · cases h0
  · simp only [Value.slice.injEq, Option.some.injEq, Addr.mk.injEq, and_true, true_and] at hv
    obtain ⟨rfl, rfl⟩ := hv
    intro j hj
    have hj2 : j < xs.length * n := by simpa using hj
    refine ⟨?_, frozen_block hh⟩
    rw [Nat.zero_add, cell_block hh, ← Array.getElem?_toList, id_eq, ← flat_at hn xs hl hj2, ← h5, List.getElem?_take, if_pos hj2]
theorem putRow_block {w : World} {flat : Array Value} {cur : Array Value} {m : Nat} {os : Array Obj} (hh : w.heap[b]? = some (.cells cur e (0, 0))) :
    (Go.Sort.grow (Go.Sort.putRow id (Go.Sort.ahead w m) b 0 flat) os).heap[b]? = some (.cells (Go.Sort.putCells id 0 flat cur) e (0, 0)) := by
  have hb := block_lt hh
  have h1 : (Go.Sort.putRow id (Go.Sort.ahead w m) b 0 flat).heap[b]? = some (.cells (Go.Sort.putCells id 0 flat cur) e (0, 0)) := by
    simp [Go.Sort.putRow, Go.Sort.mapBlock, Go.Sort.ahead, Array.getElem?_modify, hh, Go.Sort.onCells]
  show (_ ++ os)[b]? = _
  rw [Array.getElem?_append_left (block_lt h1)]
  exact h1
theorem putRow_chg {w : World} {flat : Array Value} {m : Nat} {os : Array Obj} : Chg [b] w (Go.Sort.grow (Go.Sort.putRow id (Go.Sort.ahead w m) b 0 flat) os) := by
  refine ⟨rfl, rfl, rfl, ?_, fun k hk hn => ?_⟩
  · show w.heap.size ≤ (w.heap.modify b _ ++ os).size
    simp <;> omega
  · show (w.heap.modify b _ ++ os)[k]? = _
    rw [Array.getElem?_append_left (by simpa using hk), Array.getElem?_modify, if_neg (by simpa using fun h : b = k => hn (by simp [h]))]
theorem St.putRowK (hd : d = Dt.flat n enc hl h1) (hn : 0 < n) (h : St w0 w (own d e (.slice (some ⟨b, 0, none⟩) xs.length c) xs F :: L)) (ys : List α) (hys : ys.length = xs.length) (m : Nat) (os : Array Obj) :
    St w0 (sortWorldK enc n w b 0 m ys.toArray os) (own d e (.slice (some ⟨b, 0, none⟩) ys.length c) ys F :: L) := by
  subst hd
  rcases flat_M h.head with ⟨h0, _⟩ | ⟨b', cap, cur, hv, h2, h3, hh, h4, h5, hF⟩
  · cases h0
  · simp only [Value.slice.injEq, Option.some.injEq, Addr.mk.injEq, and_true, true_and] at hv
    obtain ⟨rfl, rfl⟩ := hv
    subst hF
    have hblk := putRow_block (flat := Go.Sort.flatK enc n ys.toArray) (m := m) (os := os) hh
    refine h.turn (A' := own _ e (.slice (some ⟨b, 0, none⟩) ys.length c) ys [b]) putRow_chg ?_ (by simp [own]) (fun y hy => .inl hy)
    refine flat_M_mk (xs := ys) (cap := c) (by omega) h3 hblk (by simp [Go.Sort.putCells, h4]) ?_
    apply List.ext_getElem?
    intro j
    rw [List.getElem?_take]
    by_cases hj : j < ys.length * n
    · have hjc : j < cur.size := by rw [h4]; exact Nat.lt_of_lt_of_le hj (Nat.mul_le_mul_right n (by omega))
      rw [if_pos hj, flat_at hn ys hl hj, Array.getElem?_toList]
      simp [Go.Sort.putCells, hjc, hj]
    · rw [if_neg hj, List.getElem?_eq_none (by rw [flat_len (n := n) _ (fun c hc => by obtain ⟨y, _, rfl⟩ := List.mem_map.1 hc; exact hl y)]; simpa using hj)]
/-- What a comparing function value does: it reads its arguments, and may lay blocks. -/
def CmpOf (P : Program) (g : Nat) (caps : Array Value) (enc : α → List Value) (cf : α → α → Int) : Prop :=
  ∀ (x y : α) (W : World), Calls P g (#[.agg (enc x).toArray, .agg (enc y).toArray] ++ caps) W fun r w' => r = .returned (.int .i64 (cf x y)) ∧ ∃ q os', w' = Go.Sort.grow (W.drewN q) os'
/-- A row that has been sorted. -/
def SortedR (d : Dt α) (e : TypeId) (w0 : World) (L : List Piece) (A : Option Addr) (c : Nat) (cf : α → α → Int) (xs : List α) (F : List Nat) (r : Ending) (W' : World) : Prop :=
  r = .returned (.tuple #[]) ∧ ∃ ys : List α, ys.Perm xs ∧ ys.Pairwise (fun x y => ¬ cf y x < 0) ∧ St w0 W' (own d e (.slice A xs.length c) ys F :: L)
theorem sortFunc_of {P : Program} {ρ : Go.Shelf.Ren} (L0 : SlLaysF0.n6 P ρ) (aE : ∀ w, (isAgg (ρ.t 24)).run P w = .ok true w) (zE : ∀ w, (Go.sizeOf (ρ.t 24)).run P w = .ok n w) (hd : d = Dt.flat n enc hl h1) (hn : 0 < n) (cf : α → α → Int) (hO : Go.Sort.SWO (ltOf cf)) (g : Nat) (caps : Array Value) (A : Option Addr) (hS : St w0 w (own d e (.slice A xs.length c) xs F :: L)) (hlen : xs.length ≤ 1048576)
    (eg : ∀ args w, (callFunc g args).run P w = .ok (.enter g args) w) (hc : CmpOf P g caps enc cf) :
    Calls P (ρ.f 6) #[.slice A xs.length c, .func (.func g) #[] caps] w (SortedR d e w0 L A c cf xs F) := by
  by_cases h0 : xs = []
  · subst h0
    refine (AnyF.slices_SortFunc_none L0 A c _ w).mono ?_
    rintro r w' ⟨rfl, rfl⟩
    exact ⟨rfl, [], .refl _, .nil, hS⟩
  · have hlp : 0 < xs.length := List.length_pos_iff.2 h0
    obtain ⟨⟨q, rfl⟩, -, hle⟩ := St.hasBlk hd hS (List.getElem?_eq_getElem hlp)
    have hH := St.holdsK hd hn hS
    have hblk : q < w.heap.size := (St.flatCell hd hS (List.getElem?_eq_getElem hlp)).2.2
    have hcon := AnyQ.slices_SortFunc L0 n aE zE enc hl h1 cf hO g caps q 0 c xs.toArray w eg (fun m os dk hs x y => hc x y _) hH hblk (by simp; omega)
    have e1 : xs.toArray.size = xs.length := by simp
    rw [e1] at hcon
    refine hcon.mono ?_
    rintro r w' ⟨rfl, d', m, os, ⟨hs, -, hp⟩, hso, rfl⟩
    have hs2 : d'.size = xs.length := by rw [hs]; simp
    refine ⟨rfl, d'.toList, ?_, ?_, ?_⟩
    · have ex : ∀ (a : Array α), a.size = xs.length → (a.extract 0 xs.length).toList = a.toList := fun a ha => by
        rw [← ha, Array.extract_size]
      rw [ex d' hs2, ex xs.toArray (by simp)] at hp
      simpa using hp
    · rw [List.pairwise_iff_getElem]
      intro i j hi hj hij
      have hi2 : i < d'.size := by simpa using hi
      have hj2 : j < d'.size := by simpa using hj
      have h2 := hso i j (Nat.zero_le _) hij (by omega)
      rw [getElem!_pos d' i hi2, getElem!_pos d' j hj2] at h2
      simpa [ltOf] using h2
    · have h2 := St.putRowK hd hn hS d'.toList (by simpa using hs2) m os
      rw [show d'.toList.length = xs.length by simpa using hs2] at h2
      exact h2
end
end Go.Proofs.Ytglhepbcbildpaa
