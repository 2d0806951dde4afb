/- Sets: rising numbers. -/
import Derived.Test.YtccgjnanphonnaaCore
import Derived.Shelf.Abstract
import Derived.Test.YtccgjnanphonnaaCalm
namespace Go.Proofs.Ytccgjnanphonnaa
open Go Go.RowKit Go.BigFrame
attribute [local go_sem] Calm.cell Calm.frozen
set_option linter.unusedVariables false
set_option linter.unusedSimpArgs false
/-! ### sets -/
theorem rise_no {p : Int → Bool} {x : Int} (h : ¬ p x = true) (q : Option Int) : riseF p x q = false := by simp [riseF, h]
theorem rise_not {p : Int → Bool} {x y : Int} (h : x ≤ y) : riseF p x (some y) = false := by simp [riseF]; intro _; omega
theorem rise_some {p : Int → Bool} {x y : Int} (h : p x = true) (h2 : y < x) : riseF p x (some y) = true := by simp [riseF, h, h2]
theorem rise_none {p : Int → Bool} {x : Int} (h : p x = true) : riseF p x none = true := by simp [riseF, h]
end Go.Proofs.Ytccgjnanphonnaa
