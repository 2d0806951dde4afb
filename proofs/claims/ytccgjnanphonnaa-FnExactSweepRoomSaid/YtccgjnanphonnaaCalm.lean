/- Regions that draw their order, read what was there, and call what only allocates: one walk serves every order. -/
import Derived.Test.YtccgjnanphonnaaBase
import Derived.BigQuiet
namespace Go.Proofs.Ytccgjnanphonnaa
open Go Go.RowKit
set_option linter.unusedVariables false

/-- A world that has kept all that lay in w. -/
structure Calm (w : World) where
  world : World
  below : Below w.heap.size w world

instance (w : World) : Nonempty (Calm w) := ⟨⟨w, Below.refl _ _⟩⟩

/-- A cell beyond what w held: not looked into. -/
def Calm.far {w : World} (i : Calm w) (a : Addr) : Option Value := i.world.cell? a
def Calm.farF {w : World} (i : Calm w) (a : Addr) : Bool := i.world.frozen? a

theorem Calm.cell {w : World} (i : Calm w) (b o : Nat) :
    i.world.cell? ⟨b, o, none⟩ = if b < w.heap.size then w.cell? ⟨b, o, none⟩ else i.far ⟨b, o, none⟩ := by
  split
  · exact i.below.cell (p := ⟨b, o, none⟩) ‹_›
  · rfl
theorem Calm.frozen {w : World} (i : Calm w) (b o : Nat) :
    i.world.frozen? ⟨b, o, none⟩ = if b < w.heap.size then w.frozen? ⟨b, o, none⟩ else i.farF ⟨b, o, none⟩ := by
  split
  · exact i.below.frozen (p := ⟨b, o, none⟩) ‹_›
  · rfl
theorem Calm.size {w : World} (i : Calm w) : w.heap.size ≤ i.world.heap.size := i.below.size
theorem Calm.next {w : World} (i : Calm w) {w2 : World} (h : Below i.world.heap.size i.world w2) : ∃ j : Calm w, w2 = j.world := ⟨⟨w2, i.below.trans (h.mono i.size)⟩, rfl⟩
theorem Calm.same {w : World} (i : Calm w) : ∃ j : Calm w, i.world = j.world := ⟨i, rfl⟩

/-- A region behind a fresh box. -/
theorem Calm.boxed {w : World} {c : Obj} (i : Calm (w.alloc c)) : Below w.heap.size w i.world := ((Below.refl _ _).alloc (Nat.le_refl _) _).trans (i.below.mono (by simp))

theorem wp_region_calm {P : Program} {id : Nat} {Q : Exit → Act → World → Prop} {a : Act} {w : World} {l : List Oper} (hm : P.follows .mixedOrders = true) (hB : Region.lexB .any l.toArray = true)
    (h : wpQuiet P l.toArray (fun w' => ∃ i : Calm w, w' = i.world) (fun a' => ∀ w', (∃ i : Calm w, w' = i.world) → Q .normal a' w') l a) : (Code.region id l.toArray true).wp P Q a w :=
  wp_region_quiet (C := fun w' => ∃ i : Calm w, w' = i.world) hm hB ⟨⟨_, (Below.refl _ w).drew⟩, rfl⟩ (by simpa using h)

end Go.Proofs.Ytccgjnanphonnaa
