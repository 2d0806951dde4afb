/- Entries of an index: their cells as a flat row, what they hold as a piece of its own. -/
import Derived.Test.YticjphaagmnahaaRTypes
import Derived.Test.YticjphaagmnahaaHeldCut
import Derived.Test.YticjphaagmnahaaRGround
namespace Go.Proofs.Yticjphaagmnahaa
open Go Go.RowKit
set_option linter.unusedVariables false
set_option linter.unusedSimpArgs false

/-- The cells of an entry. -/
def entRaw (x : Entry) (A : Option Addr) (n c : Nat) : Raw 2 := ⟨[.string x.word, .slice A n c], rfl, by intro u hu; simp at hu; rcases hu with rfl | rfl <;> rfl⟩
section
variable {w0 w : World} {L : List Piece} {xs : List Entry} {rs : List (Raw 2)} {Fs : List (List Nat)} {x : Entry}
theorem St.entAt (h : St w0 w (heldsP entryD xs rs Fs :: L)) {k : Nat} (hx : xs[k]? = some x) : ∃ A c, rs[k]? = some (entRaw x A x.numbers.length c) ∧ SliceK intD w (.slice A x.numbers.length c) x.numbers := by
  obtain ⟨r, hr, hK⟩ := h.heldAt hx
  obtain ⟨v, hv, hs⟩ := entry_K hK
  obtain ⟨A, c, rfl⟩ := hs.shape
  exact ⟨A, c, hr.trans (congrArg some (Raw.ext hv)), hs⟩
theorem St.entLen (h : St w0 w (heldsP entryD xs rs Fs :: L)) : rs.length = xs.length := (St.heldLen h).1
theorem St.entMore {r : Raw 2} {G : List Nat} (h : St w0 w (heldsP entryD xs rs Fs :: ownD entryD x r.val G :: L)) : St w0 w (heldsP entryD (xs ++ [x]) (rs ++ [r]) (Fs ++ [G]) :: L) := St.heldMore (d := entryD) h
/-- An entry out of its row of numbers. -/
theorem St.entIn {A : Option Addr} {n c : Nat} {F : List Nat} (h : St w0 w (own intD 2 (.slice A n c) x.numbers F :: L)) : St w0 w (ownD entryD x (entRaw x A n c).val F :: L) := by
  refine ⟨h.below, fun p hp => ?_, h.nodup, h.ge⟩
  rcases List.mem_cons.1 hp with rfl | hp
  · exact entry_M_mk h.head
  · exact h.drop.all p hp
theorem St.entOut {A : Option Addr} {n c : Nat} {F : List Nat} (h : St w0 w (ownD entryD x (entRaw x A n c).val F :: L)) : St w0 w (own intD 2 (.slice A n c) x.numbers F :: L) := by
  obtain ⟨v, F3, hv, rfl, hs⟩ := entry_M h.head
  have hv : (.slice A n c : Value) = v := by
    have : (entRaw x A n c).val = [.string x.word, v] := hv
    simpa [entRaw] using this
  subst hv
  refine ⟨h.below, fun p hp => ?_, h.nodup, h.ge⟩
  rcases List.mem_cons.1 hp with rfl | hp
  · exact hs
  · exact h.drop.all p hp
/-- One entry more, in the memory. -/
theorem St.entIns {i : Nat} {A : Option Addr} {c : Nat} {G : List Nat} (h : St w0 w (own intD 2 (.slice A x.numbers.length c) x.numbers G :: heldsP entryD xs rs Fs :: L)) :
    ∃ Fs', St w0 w (heldsP entryD (xs.take i ++ x :: xs.drop i) (rs.take i ++ entRaw x A x.numbers.length c :: rs.drop i) Fs' :: L) := by
  have hl : rs.length = xs.length := h.drop.entLen
  have h5 : (rs.take i).length = (xs.take i).length := by rw [List.length_take, List.length_take, hl]
  have h2 : St w0 w (ownD entryD x (entRaw x A x.numbers.length c).val G :: heldsP entryD (xs.take i ++ xs.drop i) (rs.take i ++ rs.drop i) Fs :: L) := by
    rw [List.take_append_drop, List.take_append_drop]; exact h.entIn
  exact St.heldIns (d := entryD) h2 h5
theorem at_cut {α : Type} {l : List α} {k : Nat} {x : α} (h : l[k]? = some x) : l.take k ++ x :: l.drop (k + 1) = l := by
  obtain ⟨hl, rfl⟩ := List.getElem?_eq_some_iff.1 h
  rw [List.getElem_cons_drop]; exact List.take_append_drop k l
theorem set_cut {α : Type} {l : List α} {k : Nat} {y : α} (h : k < l.length) : l.set k y = l.take k ++ y :: l.drop (k + 1) := by
  rw [List.set_eq_take_append_cons_drop, if_pos h]
/-- The numbers of one entry are taken out. -/
theorem St.entCut {k : Nat} (h : St w0 w (heldsP entryD xs rs Fs :: L)) (hx : xs[k]? = some x) :
    ∃ A c G Fs', rs[k]? = some (entRaw x A x.numbers.length c) ∧ St w0 w (own intD 2 (.slice A x.numbers.length c) x.numbers G :: heldsP entryD (xs.take k ++ xs.drop (k + 1)) (rs.take k ++ rs.drop (k + 1)) Fs' :: L) := by
  obtain ⟨A, c, hr, hs⟩ := h.entAt hx
  have hl := h.entLen
  have h2 : St w0 w (heldsP entryD (xs.take k ++ x :: xs.drop (k + 1)) (rs.take k ++ entRaw x A x.numbers.length c :: rs.drop (k + 1)) Fs :: L) := by
    rw [at_cut hx, at_cut hr]; exact h
  have h5 : (rs.take k).length = (xs.take k).length := by rw [List.length_take, List.length_take, hl]
  obtain ⟨G, Fs', h3⟩ := St.heldCut (d := entryD) h2 h5
  exact ⟨A, c, G, Fs', hr, h3.entOut⟩
/-- Other numbers are put in their place. -/
theorem St.entBack {k : Nat} {x' : Entry} {A : Option Addr} {c : Nat} {G : List Nat} (h : St w0 w (own intD 2 (.slice A x'.numbers.length c) x'.numbers G :: heldsP entryD (xs.take k ++ xs.drop (k + 1)) (rs.take k ++ rs.drop (k + 1)) Fs :: L)) (hk : k < xs.length) (hl : rs.length = xs.length) :
    ∃ Fs', St w0 w (heldsP entryD (xs.set k x') (rs.set k (entRaw x' A x'.numbers.length c)) Fs' :: L) := by
  have h5 : (rs.take k).length = (xs.take k).length := by rw [List.length_take, List.length_take, hl]
  obtain ⟨Fs', h3⟩ := St.heldIns (d := entryD) (St.entIn h) h5
  rw [set_cut hk, set_cut (by omega)]
  exact ⟨Fs', h3⟩
theorem St.setEnt {q c k o : Nat} {F : List Nat} {x' : Entry} {A A2 : Option Addr} {n c3 n2 c2 : Nat} (h : St w0 w (own (rawD 2) 106 (.slice (some ⟨q, 0, none⟩) rs.length c) rs F :: L)) (hr : rs[k]? = some (entRaw x A n c3)) (ho : o = k * 2 + 1)
    (hm : x'.word = x.word) : St w0 (w.setCell ⟨q, o, none⟩ (.slice A2 n2 c2)) (own (rawD 2) 106 (.slice (some ⟨q, 0, none⟩) rs.length c) (rs.set k (entRaw x' A2 n2 c2)) F :: L) :=
  St.setFlat (d := rawD 2) rfl h hr (j := 1) (by omega) (show ([.string x'.word, .slice A2 n2 c2] : List Value) = _ by rw [hm]; rfl) ho
end
theorem infoRawE : (Try.prog.info? 106).map (fun i => (i.zero, i.size, i.bytes)) = some (some (.agg #[(.string ⟨#[]⟩), (.slice none 0 0)]), 2, 40) := infoEntry
/-- An index of one's own by value. -/
theorem St.index {w0 w : World} {L : List Piece} {p : Index} {v : Value} {rs : List (Raw 2)} {F1 : List Nat} {Fs : List (List Nat)} (h : St w0 w (own (rawD 2) 106 v rs F1 :: heldsP entryD p.entries rs Fs :: L)) : ∃ F, St w0 w (ownD indexD p [v] F :: L) := by
  obtain ⟨F, h2⟩ := St.join (d := entryD) h
  refine ⟨F, h2.below, fun q hq => ?_, h2.nodup, h2.ge⟩
  rcases List.mem_cons.1 hq with rfl | hq
  · exact index_M_mk h2.head
  · exact h2.drop.all q hq
/-- An index in a box of one's own, open. -/
theorem St.indexOpen {w0 w : World} {L : List Piece} {p : Index} {b : Nat} {F : List Nat} (h : St w0 w (boxP indexD 33 b p F :: L)) : ∃ A c rs F1 Fs, rs.length = p.entries.length ∧
    St w0 w (blk b #[.slice A p.entries.length c] 33 :: own (rawD 2) 106 (.slice A p.entries.length c) rs F1 :: heldsP entryD p.entries rs Fs :: L) := by
  obtain ⟨cs, G, hK, hS⟩ := h.unbox
  obtain ⟨v, F1, rfl, rfl, hs⟩ := index_M (St.head hS)
  obtain ⟨A, c, rfl⟩ := hs.toK.shape
  have hS2 : St w0 w (own entryD 106 (.slice A p.entries.length c) p.entries G :: blk b #[.slice A p.entries.length c] 33 :: L) := by
    refine ⟨hS.below, fun q hq => ?_, hS.nodup, hS.ge⟩
    rcases List.mem_cons.1 hq with rfl | hq
    · exact hs
    · exact hS.drop.all q hq
  obtain ⟨rs, Fs, F2, hl, h3⟩ := St.split (d := entryD) hS2
  exact ⟨A, c, rs, F2, Fs, hl, h3.pull2⟩
theorem St.indexShut {w0 w : World} {L : List Piece} {p : Index} {b : Nat} {v : Value} {rs : List (Raw 2)} {F1 : List Nat} {Fs : List (List Nat)}
    (h : St w0 w (blk b #[v] 33 :: own (rawD 2) 106 v rs F1 :: heldsP entryD p.entries rs Fs :: L)) : ∃ F, St w0 w (boxP indexD 33 b p F :: L) := by
  obtain ⟨F, h2⟩ := St.index (p := p) (h.push2)
  have hb : w.heap[b]? = some (.cells #[v] 33 (0, 0)) := h.head
  have hf : (feet (boxP indexD 33 b p (b :: F) :: L)).Perm (feet (ownD indexD p [v] F :: blk b #[v] 33 :: L)) := by
    simp only [feet_cons, ownD, boxP, blk]
    rw [← List.append_assoc]
    refine List.Perm.append_right _ ?_
    exact List.perm_append_comm (l₁ := [b])
  refine ⟨b :: F, h2.below, fun q hq => ?_, hf.nodup_iff.2 h2.nodup, fun c hc => h2.ge c (hf.mem_iff.1 hc)⟩
  rcases List.mem_cons.1 hq with rfl | hq
  · refine ⟨_, F, rfl, hb, h2.head, ?_⟩
    have h5 := hf.nodup_iff.2 h2.nodup
    rw [feet_cons] at h5
    exact (List.nodup_append.1 h5).1
  · exact h2.drop.drop.all q hq
end Go.Proofs.Yticjphaagmnahaa
