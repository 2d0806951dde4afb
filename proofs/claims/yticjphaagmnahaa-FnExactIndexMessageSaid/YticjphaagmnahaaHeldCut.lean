/- What a row of structs that own rows holds: taken out, put in. -/
import Derived.Test.YticjphaagmnahaaRGround
import Derived.Test.YticjphaagmnahaaStRow
namespace Go.Proofs.Yticjphaagmnahaa
open Go Go.RowKit
set_option linter.unusedVariables false
set_option linter.unusedSimpArgs false

section
variable {α : Type} {d : Dt α} {w0 w : World} {L : List Piece} {xs xs1 xs2 : List α} {rs rs1 rs2 : List (Raw d.sz)} {Fs : List (List Nat)} {x : α} {r : Raw d.sz}
theorem St.heldNone (h : St w0 w L) : St w0 w (heldsP d [] [] [] :: L) := h.new (Below.refl _ _) .nil (by simp [heldsP]) (by simp [heldsP])
theorem St.heldLen (h : St w0 w (heldsP d xs rs Fs :: L)) : rs.length = xs.length ∧ Fs.length = xs.length := by
  have hl := All3.len (show All3 (d.M w) xs (rs.map Raw.val) Fs from h.head)
  rw [List.length_map] at hl
  exact hl
/-- The cells of element k are those of a struct. -/
theorem St.heldAt (h : St w0 w (heldsP d xs rs Fs :: L)) {k : Nat} (hx : xs[k]? = some x) : ∃ r, rs[k]? = some r ∧ d.K w x r.val := by
  obtain ⟨y, G, hy, hG, hm⟩ := All3.get (show All3 (d.M w) xs (rs.map Raw.val) Fs from h.head) k x hx
  rw [List.getElem?_map] at hy
  rcases hr : rs[k]? with _ | r
  · rw [hr] at hy; cases hy
  · rw [hr] at hy
    simp only [Option.map_some, Option.some.injEq] at hy
    subst hy
    exact ⟨r, rfl, d.M_K hm⟩
theorem all3_app {β γ : Type} {R : α → β → γ → Prop} : ∀ {xs1 xs2 : List α} {ys1 ys2 : List β} {zs : List γ}, All3 R (xs1 ++ xs2) (ys1 ++ ys2) zs → ys1.length = xs1.length → ∃ z1 z2, zs = z1 ++ z2 ∧ All3 R xs1 ys1 z1 ∧ All3 R xs2 ys2 z2
  | [], xs2, [], ys2, zs, h, _ => ⟨[], zs, rfl, .nil, h⟩
  | [], xs2, _ :: _, ys2, zs, h, hl => by simp at hl
  | _ :: _, xs2, [], ys2, zs, h, hl => by simp at hl
  | x :: xs1, xs2, y :: ys1, ys2, zs, h, hl => by
    cases h with
    | cons hr ht =>
      obtain ⟨z1, z2, rfl, h1, h2⟩ := all3_app ht (by simpa using hl)
      exact ⟨_ :: z1, z2, rfl, .cons hr h1, h2⟩
/-- One struct is taken out. -/
theorem St.heldCut (h : St w0 w (heldsP d (xs1 ++ x :: xs2) (rs1 ++ r :: rs2) Fs :: L)) (hl : rs1.length = xs1.length) : ∃ G Fs', St w0 w (ownD d x r.val G :: heldsP d (xs1 ++ xs2) (rs1 ++ rs2) Fs' :: L) := by
  have hall : All3 (d.M w) (xs1 ++ x :: xs2) ((rs1 ++ r :: rs2).map Raw.val) Fs := h.head
  rw [List.map_append, List.map_cons] at hall
  obtain ⟨z1, z2, rfl, a1, a2⟩ := all3_app hall (by simpa using hl)
  cases a2 with
  | cons hr ht =>
    rename_i G z2
    have hp : (feet (ownD d x r.val G :: heldsP d (xs1 ++ xs2) (rs1 ++ rs2) (z1 ++ z2) :: L)).Perm (feet (heldsP d (xs1 ++ x :: xs2) (rs1 ++ r :: rs2) (z1 ++ G :: z2) :: L)) := by
      simp only [feet_cons, ownD, heldsP, List.flatten_append, List.flatten_cons]
      rw [← List.append_assoc, ← List.append_assoc, ← List.append_assoc]
      refine List.Perm.append_right _ (List.Perm.append_right _ ?_)
      exact List.perm_append_comm
    refine ⟨G, z1 ++ z2, h.below, fun p hq => ?_, hp.nodup_iff.2 h.nodup, fun b hb => h.ge b (hp.mem_iff.1 hb)⟩
    rcases List.mem_cons.1 hq with rfl | hq
    · exact hr
    rcases List.mem_cons.1 hq with rfl | hq
    · show All3 (d.M w) (xs1 ++ xs2) ((rs1 ++ rs2).map Raw.val) (z1 ++ z2)
      rw [List.map_append]
      exact a1.append ht
    · exact h.drop.all p hq
/-- One struct is put in. -/
theorem St.heldIns {G : List Nat} (h : St w0 w (ownD d x r.val G :: heldsP d (xs1 ++ xs2) (rs1 ++ rs2) Fs :: L)) (hl : rs1.length = xs1.length) : ∃ Fs', St w0 w (heldsP d (xs1 ++ x :: xs2) (rs1 ++ r :: rs2) Fs' :: L) := by
  have hall : All3 (d.M w) (xs1 ++ xs2) ((rs1 ++ rs2).map Raw.val) Fs := h.drop.head
  rw [List.map_append] at hall
  obtain ⟨z1, z2, rfl, a1, a2⟩ := all3_app hall (by simpa using hl)
  have hp : (feet (ownD d x r.val G :: heldsP d (xs1 ++ xs2) (rs1 ++ rs2) (z1 ++ z2) :: L)).Perm (feet (heldsP d (xs1 ++ x :: xs2) (rs1 ++ r :: rs2) (z1 ++ G :: z2) :: L)) := by
    simp only [feet_cons, ownD, heldsP, List.flatten_append, List.flatten_cons]
    rw [← List.append_assoc, ← List.append_assoc, ← List.append_assoc]
    refine List.Perm.append_right _ (List.Perm.append_right _ ?_)
    exact List.perm_append_comm
  refine ⟨z1 ++ G :: z2, h.below, fun p hq => ?_, hp.nodup_iff.1 h.nodup, fun b hb => h.ge b (hp.mem_iff.2 hb)⟩
  rcases List.mem_cons.1 hq with rfl | hq
  · show All3 (d.M w) (xs1 ++ x :: xs2) ((rs1 ++ r :: rs2).map Raw.val) (z1 ++ G :: z2)
    rw [List.map_append, List.map_cons]
    exact a1.append (.cons h.head a2)
  · exact h.drop.drop.all p hq
end

theorem Raw.ext {n : Nat} {a b : Raw n} (h : a.val = b.val) : a = b := by cases a; cases b; simp at h; subst h; rfl
end Go.Proofs.Yticjphaagmnahaa
