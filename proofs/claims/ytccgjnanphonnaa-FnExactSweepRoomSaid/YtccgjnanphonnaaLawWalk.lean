/- Words for the walks of the laws: boxes, and data that keep through a step. -/
import Derived.Test.YtccgjnanphonnaaLawInt
import Derived.Test.YtccgjnanphonnaaApp
import Derived.Deep.RegionWith
namespace Go.Proofs.Ytccgjnanphonnaa
open Go Go.RowKit
set_option linter.unusedVariables false

/-- The cells of a block, from its first on. -/
def Cells (W : World) (b : Nat) (cs : List Value) : Prop := ∀ j u, cs[j]? = some u → W.cell? ⟨b, j, none⟩ = some u
theorem Cells.below {w w' : World} {b : Nat} {cs : List Value} (h : Cells w b cs) (hb : Below w.heap.size w w') : Cells w' b cs := fun j u hj => cell_below hb (h j u hj)
theorem Chg.cell {F : List Nat} {w w' : World} (hc : Chg F w w') {b o : Nat} (hF : b ∉ F) {v : Value} (h : w.cell? ⟨b, o, none⟩ = some v) : w'.cell? ⟨b, o, none⟩ = some v := by
  have hl := World.block_lt_of_cell? w _ h
  have := hc.block b hl hF
  unfold World.cell? at *
  simp only at *
  rw [this]; exact h
theorem Cells.chg {w w' : World} {b : Nat} {cs : List Value} {F : List Nat} (h : Cells w b cs) (hc : Chg F w w') (hF : b ∉ F) : Cells w' b cs := fun j u hj => hc.cell hF (h j u hj)
theorem Cells.new {w V : World} {arr : Array Value} {t : TypeId} (h : V = w.alloc (.cells arr t)) : Cells V w.heap.size arr.toList := by
  intro j u hj
  subst h
  simpa using hj
theorem Cells.lt {w : World} {b : Nat} {cs : List Value} (h : Cells w b cs) (hn : cs ≠ []) : b < w.heap.size := by
  cases cs with
  | nil => exact absurd rfl hn
  | cons c cs => exact World.block_lt_of_cell? w _ (h 0 c rfl)
theorem boxed {w V : World} {o : Obj} (h : V = w.alloc o) : Below w.heap.size w V ∧ V.heap.size = w.heap.size + 1 := by
  subst h; exact ⟨(Below.refl _ _).alloc (Nat.le_refl _) _, by simp⟩

theorem SliceM.chg {α : Type} {d : Dt α} {e : TypeId} {w w' : World} {v : Value} {xs : List α} {F G : List Nat} (h : SliceM d e w v xs F) (hc : Chg G w w') (hd : ∀ b ∈ F, b ∉ G) : SliceM d e w' v xs F :=
  h.move fun b hb => hc.block b (h.lt b hb) (hd b hb)
theorem SliceM.by {α : Type} {d : Dt α} {e : TypeId} {w w' : World} {v : Value} {xs : List α} {F : List Nat} (h : SliceM d e w v xs F) (hc : Below w.heap.size w w') : SliceM d e w' v xs F :=
  h.move fun b hb => hc.block b (h.lt b hb)
theorem Dt.chg {α : Type} {d : Dt α} {w w' : World} {x : α} {cs : List Value} {F G : List Nat} (h : d.M w x cs F) (hc : Chg G w w') (hd : ∀ b ∈ F, b ∉ G) : d.M w' x cs F :=
  d.M_move (fun b hb => hc.block b (d.M_lt h b hb) (hd b hb)) h
theorem Dt.by {α : Type} {d : Dt α} {w w' : World} {x : α} {cs : List Value} {F : List Nat} (h : d.M w x cs F) (hc : Below w.heap.size w w') : d.M w' x cs F :=
  d.M_move (fun b hb => hc.block b (d.M_lt h b hb)) h
theorem apart {F G : List Nat} {n : Nat} (hF : ∀ b ∈ F, b < n) (hG : ∀ b ∈ G, n ≤ b) : ∀ b ∈ F, b ∉ G := fun b h1 h2 => by have := hF b h1; have := hG b h2; omega
theorem apart' {F G : List Nat} {n : Nat} (hF : ∀ b ∈ F, n ≤ b) (hG : ∀ b ∈ G, b < n) : ∀ b ∈ F, b ∉ G := fun b h1 h2 => by have := hF b h1; have := hG b h2; omega
theorem out_lt {G : List Nat} {n b : Nat} (hb : n ≤ b) (hG : ∀ b ∈ G, b < n) : b ∉ G := fun h => by have := hG b h; omega
theorem out_ge {G : List Nat} {n b : Nat} (hb : b < n) (hG : ∀ b ∈ G, n ≤ b) : b ∉ G := fun h => by have := hG b h; omega
theorem heldI_marks (k : Int) (n : Nat) : heldI k (marks k n) = k + n := by unfold heldI; rw [if_pos (by rw [marks_len]), marks_len]
theorem dec_same {α : Type} [DecidableEq α] (x : α) : decide (x = x) = true := by simp
theorem sizeAll_get {α : Type} (f : α → Nat) : ∀ (xs : List α) (x : α), x ∈ xs → f x ≤ sizeAll f xs
  | y :: xs, x, h => by
    rcases List.mem_cons.1 h with rfl | h
    · exact Nat.le_add_right _ _
    · exact Nat.le_trans (sizeAll_get f xs x h) (Nat.le_add_left _ _)

/-- A returned struct that was made behind w, and a Bool. -/
def RetElem2 {α : Type} (d : Dt α) (w : World) (x : α) (ok : Bool) (r : Ending) (w' : World) : Prop :=
  ∃ cs F, r = .returned (.tuple #[.agg cs.toArray, .bool ok]) ∧ d.M w' x cs F ∧ F.Nodup ∧ (∀ b ∈ F, w.heap.size ≤ b) ∧ Below w.heap.size w w'
/-- A returned struct that was made behind w, a number and a Bool. -/
def RetElem3 {α : Type} (d : Dt α) (w : World) (x : α) (n : Int) (ok : Bool) (r : Ending) (w' : World) : Prop :=
  ∃ cs F, r = .returned (.tuple #[.agg cs.toArray, .int .i64 n, .bool ok]) ∧ d.M w' x cs F ∧ F.Nodup ∧ (∀ b ∈ F, w.heap.size ≤ b) ∧ Below w.heap.size w w'
end Go.Proofs.Ytccgjnanphonnaa
