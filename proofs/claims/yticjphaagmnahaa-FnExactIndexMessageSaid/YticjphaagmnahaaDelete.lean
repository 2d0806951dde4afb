/- A number is taken out of a row of a call's own. -/
import Derived.Test.YticjphaagmnahaaSearch
import Derived.Shelf.SlGeneric
import Derived.Shelf.SlicesG.Cells
namespace Go.Proofs.Yticjphaagmnahaa
open Go Go.RowKit
set_option linter.unusedVariables false
set_option linter.unusedSimpArgs false

theorem setCells_put : ∀ (us : List Value) (w : World) (b o : Nat), w.setCells b o us = putCells w b o us
  | [], _, _, _ => rfl
  | u :: us, w, b, o => by rw [World.setCells, putCells, setCells_put us]
end Go.Proofs.Yticjphaagmnahaa
