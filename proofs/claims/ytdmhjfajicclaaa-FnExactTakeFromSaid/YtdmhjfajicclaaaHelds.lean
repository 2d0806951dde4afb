/- Boxes of a post: their cells as a flat row, what they hold as a piece of its own. -/
import Derived.Test.YtdmhjfajicclaaaPostDef
import Derived.Test.YtdmhjfajicclaaaRTypes
import Derived.Test.YtdmhjfajicclaaaRGround
import Derived.Test.YtdmhjfajicclaaaStRow
namespace Go.Proofs.Ytdmhjfajicclaaa
open Go Go.RowKit
set_option linter.unusedVariables false
set_option linter.unusedSimpArgs false

section
variable {α : Type} {d : Dt α} {w0 w : World} {L : List Piece} {xs xs1 xs2 : List α} {rs rs1 rs2 : List (Raw d.sz)} {Fs : List (List Nat)} {x : α} {r : Raw d.sz}
theorem St.heldNone (h : St w0 w L) : St w0 w (heldsP d [] [] [] :: L) := h.new (Below.refl _ _) .nil (by simp [heldsP]) (by simp [heldsP])
theorem St.heldLen (h : St w0 w (heldsP d xs rs Fs :: L)) : rs.length = xs.length ∧ Fs.length = xs.length := by
  have hl := All3.len (show All3 (d.M w) xs (rs.map Raw.val) Fs from h.head)
  rw [List.length_map] at hl
  exact hl
/-- The cells of element k are those of a struct. -/
theorem St.heldAt (h : St w0 w (heldsP d xs rs Fs :: L)) {k : Nat} (hx : xs[k]? = some x) : ∃ r, rs[k]? = some r ∧ d.K w x r.val := by
  obtain ⟨y, G, hy, hG, hm⟩ := All3.get (show All3 (d.M w) xs (rs.map Raw.val) Fs from h.head) k x hx
  rw [List.getElem?_map] at hy
  rcases hr : rs[k]? with _ | r
  · rw [hr] at hy; cases hy
  · rw [hr] at hy
    simp only [Option.map_some, Option.some.injEq] at hy
    subst hy
    exact ⟨r, rfl, d.M_K hm⟩
theorem all3_app {β γ : Type} {R : α → β → γ → Prop} : ∀ {xs1 xs2 : List α} {ys1 ys2 : List β} {zs : List γ}, All3 R (xs1 ++ xs2) (ys1 ++ ys2) zs → ys1.length = xs1.length → ∃ z1 z2, zs = z1 ++ z2 ∧ All3 R xs1 ys1 z1 ∧ All3 R xs2 ys2 z2
  | [], xs2, [], ys2, zs, h, _ => ⟨[], zs, rfl, .nil, h⟩
  | [], xs2, _ :: _, ys2, zs, h, hl => by simp at hl
  | _ :: _, xs2, [], ys2, zs, h, hl => by simp at hl
  | x :: xs1, xs2, y :: ys1, ys2, zs, h, hl => by
    cases h with
    | cons hr ht =>
      obtain ⟨z1, z2, rfl, h1, h2⟩ := all3_app ht (by simpa using hl)
      exact ⟨_ :: z1, z2, rfl, .cons hr h1, h2⟩
/-- One struct is taken out. -/
theorem St.heldCut (h : St w0 w (heldsP d (xs1 ++ x :: xs2) (rs1 ++ r :: rs2) Fs :: L)) (hl : rs1.length = xs1.length) : ∃ G Fs', St w0 w (ownD d x r.val G :: heldsP d (xs1 ++ xs2) (rs1 ++ rs2) Fs' :: L) := by
  have hall : All3 (d.M w) (xs1 ++ x :: xs2) ((rs1 ++ r :: rs2).map Raw.val) Fs := h.head
  rw [List.map_append, List.map_cons] at hall
  obtain ⟨z1, z2, rfl, a1, a2⟩ := all3_app hall (by simpa using hl)
  cases a2 with
  | cons hr ht =>
    rename_i G z2
    have hp : (feet (ownD d x r.val G :: heldsP d (xs1 ++ xs2) (rs1 ++ rs2) (z1 ++ z2) :: L)).Perm (feet (heldsP d (xs1 ++ x :: xs2) (rs1 ++ r :: rs2) (z1 ++ G :: z2) :: L)) := by
      simp only [feet_cons, ownD, heldsP, List.flatten_append, List.flatten_cons]
      rw [← List.append_assoc, ← List.append_assoc, ← List.append_assoc]
      refine List.Perm.append_right _ (List.Perm.append_right _ ?_)
      exact List.perm_append_comm
    refine ⟨G, z1 ++ z2, h.below, fun p hq => ?_, hp.nodup_iff.2 h.nodup, fun b hb => h.ge b (hp.mem_iff.1 hb)⟩
    rcases List.mem_cons.1 hq with rfl | hq
    · exact hr
    rcases List.mem_cons.1 hq with rfl | hq
    · show All3 (d.M w) (xs1 ++ xs2) ((rs1 ++ rs2).map Raw.val) (z1 ++ z2)
      rw [List.map_append]
      exact a1.append ht
    · exact h.drop.all p hq
/-- One struct is put in. -/
theorem St.heldIns {G : List Nat} (h : St w0 w (ownD d x r.val G :: heldsP d (xs1 ++ xs2) (rs1 ++ rs2) Fs :: L)) (hl : rs1.length = xs1.length) : ∃ Fs', St w0 w (heldsP d (xs1 ++ x :: xs2) (rs1 ++ r :: rs2) Fs' :: L) := by
  have hall : All3 (d.M w) (xs1 ++ xs2) ((rs1 ++ rs2).map Raw.val) Fs := h.drop.head
  rw [List.map_append] at hall
  obtain ⟨z1, z2, rfl, a1, a2⟩ := all3_app hall (by simpa using hl)
  have hp : (feet (ownD d x r.val G :: heldsP d (xs1 ++ xs2) (rs1 ++ rs2) (z1 ++ z2) :: L)).Perm (feet (heldsP d (xs1 ++ x :: xs2) (rs1 ++ r :: rs2) (z1 ++ G :: z2) :: L)) := by
    simp only [feet_cons, ownD, heldsP, List.flatten_append, List.flatten_cons]
    rw [← List.append_assoc, ← List.append_assoc, ← List.append_assoc]
    refine List.Perm.append_right _ (List.Perm.append_right _ ?_)
    exact List.perm_append_comm
  refine ⟨z1 ++ G :: z2, h.below, fun p hq => ?_, hp.nodup_iff.1 h.nodup, fun b hb => h.ge b (hp.mem_iff.2 hb)⟩
  rcases List.mem_cons.1 hq with rfl | hq
  · show All3 (d.M w) (xs1 ++ x :: xs2) ((rs1 ++ r :: rs2).map Raw.val) (z1 ++ G :: z2)
    rw [List.map_append, List.map_cons]
    exact a1.append (.cons h.head a2)
  · exact h.drop.drop.all p hq
end

/-- The cells of a box. -/
def boxRaw (x : Box) (A : Option Addr) (n c : Nat) : Raw 4 := ⟨[.string x.token, .int .i64 x.member, .int .i64 x.missed, .slice A n c], rfl, by intro u hu; simp at hu; rcases hu with rfl | rfl | rfl | rfl <;> rfl⟩
theorem Raw.ext {n : Nat} {a b : Raw n} (h : a.val = b.val) : a = b := by cases a; cases b; simp at h; subst h; rfl
section
variable {w0 w : World} {L : List Piece} {xs : List Box} {rs : List (Raw 4)} {Fs : List (List Nat)} {x : Box}
theorem St.boxAt (h : St w0 w (heldsP boxD xs rs Fs :: L)) {k : Nat} (hx : xs[k]? = some x) : ∃ A c, rs[k]? = some (boxRaw x A x.held.length c) ∧ SliceK parcelD w (.slice A x.held.length c) x.held := by
  obtain ⟨r, hr, hK⟩ := h.heldAt hx
  obtain ⟨v, hv, hs⟩ := box_K hK
  obtain ⟨A, c, rfl⟩ := hs.shape
  exact ⟨A, c, hr.trans (congrArg some (Raw.ext hv)), hs⟩
theorem St.boxLen (h : St w0 w (heldsP boxD xs rs Fs :: L)) : rs.length = xs.length := (St.heldLen h).1
theorem St.boxMore {r : Raw 4} {G : List Nat} (h : St w0 w (heldsP boxD xs rs Fs :: ownD boxD x r.val G :: L)) : St w0 w (heldsP boxD (xs ++ [x]) (rs ++ [r]) (Fs ++ [G]) :: L) := St.heldMore (d := boxD) h
/-- A box out of its row of parcels. -/
theorem St.boxIn {A : Option Addr} {n c : Nat} {F : List Nat} (h : St w0 w (own parcelD 68 (.slice A n c) x.held F :: L)) : St w0 w (ownD boxD x (boxRaw x A n c).val F :: L) := by
  refine ⟨h.below, fun p hp => ?_, h.nodup, h.ge⟩
  rcases List.mem_cons.1 hp with rfl | hp
  · exact box_M_mk h.head
  · exact h.drop.all p hp
theorem St.boxOut {A : Option Addr} {n c : Nat} {F : List Nat} (h : St w0 w (ownD boxD x (boxRaw x A n c).val F :: L)) : St w0 w (own parcelD 68 (.slice A n c) x.held F :: L) := by
  obtain ⟨v, F3, hv, rfl, hs⟩ := box_M h.head
  have hv : (.slice A n c : Value) = v := by
    have : (boxRaw x A n c).val = [.string x.token, .int .i64 x.member, .int .i64 x.missed, v] := hv
    simpa [boxRaw] using this
  subst hv
  refine ⟨h.below, fun p hp => ?_, h.nodup, h.ge⟩
  rcases List.mem_cons.1 hp with rfl | hp
  · exact hs
  · exact h.drop.all p hp
end
theorem infoRaw : (Try.prog.info? 53).map (fun i => (i.zero, i.size, i.bytes)) = some (some (.agg #[(.string ⟨#[]⟩), (.int .i64 0), (.int .i64 0), (.slice none 0 0)]), 4, 56) := by kernel_rfl
/-- A post of one's own by value. -/
theorem St.post {w0 w : World} {L : List Piece} {p : Post} {v : Value} {rs : List (Raw 4)} {F1 : List Nat} {Fs : List (List Nat)} (h : St w0 w (own (rawD 4) 53 v rs F1 :: heldsP boxD p.boxes rs Fs :: L)) : ∃ F, St w0 w (ownD postD p [.int .i64 p.limit, v] F :: L) := by
  obtain ⟨F, h2⟩ := St.join (d := boxD) h
  refine ⟨F, h2.below, fun q hq => ?_, h2.nodup, h2.ge⟩
  rcases List.mem_cons.1 hq with rfl | hq
  · exact post_M_mk h2.head
  · exact h2.drop.all q hq
/-- A post in a box of one's own, open. -/
theorem St.postOpen {w0 w : World} {L : List Piece} {p : Post} {b : Nat} {F : List Nat} (h : St w0 w (boxP postD 28 b p F :: L)) : ∃ A c rs F1 Fs, rs.length = p.boxes.length ∧
    St w0 w (blk b #[.int .i64 p.limit, .slice A p.boxes.length c] 28 :: own (rawD 4) 53 (.slice A p.boxes.length c) rs F1 :: heldsP boxD p.boxes rs Fs :: L) := by
  obtain ⟨cs, G, hK, hS⟩ := h.unbox
  obtain ⟨v, F1, rfl, rfl, hs⟩ := post_M (St.head hS)
  obtain ⟨A, c, rfl⟩ := hs.toK.shape
  have hS2 : St w0 w (own boxD 53 (.slice A p.boxes.length c) p.boxes G :: blk b #[.int .i64 p.limit, .slice A p.boxes.length c] 28 :: L) := by
    refine ⟨hS.below, fun q hq => ?_, hS.nodup, hS.ge⟩
    rcases List.mem_cons.1 hq with rfl | hq
    · exact hs
    · exact hS.drop.all q hq
  obtain ⟨rs, Fs, F2, hl, h3⟩ := St.split (d := boxD) hS2
  exact ⟨A, c, rs, F2, Fs, hl, h3.pull2⟩
theorem St.postShut {w0 w : World} {L : List Piece} {p : Post} {b : Nat} {v : Value} {rs : List (Raw 4)} {F1 : List Nat} {Fs : List (List Nat)}
    (h : St w0 w (blk b #[.int .i64 p.limit, v] 28 :: own (rawD 4) 53 v rs F1 :: heldsP boxD p.boxes rs Fs :: L)) : ∃ F, St w0 w (boxP postD 28 b p F :: L) := by
  obtain ⟨F, h2⟩ := St.post (p := p) (h.push2)
  have hb : w.heap[b]? = some (.cells #[.int .i64 p.limit, v] 28 (0, 0)) := h.head
  have hd := h2.nodup
  have hf : (feet (boxP postD 28 b p (b :: F) :: L)).Perm (feet (ownD postD p [.int .i64 p.limit, v] F :: blk b #[.int .i64 p.limit, v] 28 :: L)) := by
    simp only [feet_cons, ownD, boxP, blk]
    rw [← List.append_assoc]
    refine List.Perm.append_right _ ?_
    exact List.perm_append_comm (l₁ := [b])
  refine ⟨b :: F, h2.below, fun q hq => ?_, hf.nodup_iff.2 h2.nodup, fun c hc => h2.ge c (hf.mem_iff.1 hc)⟩
  rcases List.mem_cons.1 hq with rfl | hq
  · refine ⟨_, F, rfl, hb, h2.head, ?_⟩
    have h5 := hf.nodup_iff.2 h2.nodup
    rw [feet_cons] at h5
    exact (List.nodup_append.1 h5).1
  · exact h2.drop.drop.all q hq
end Go.Proofs.Ytdmhjfajicclaaa
