/- The laws' own helper markText: the letter m and a number's digits. -/
import Derived.Test.YtccgjnanphonnaaProg
import Derived.Test.YtccgjnanphonnaaBase
import Derived.Laws.IdiomStrings
namespace Go.Proofs.Ytccgjnanphonnaa
open Go Go.RowKit
set_option linter.unusedVariables false
set_option linter.unusedSimpArgs false

def digsD : Nat → Nat → ByteArray → ByteArray
  | 0, _, o => o
  | g + 1, n, o => if n = 0 then o else digsD g (n / 10) (⟨#[UInt8.ofNat (48 + n % 10)]⟩ ++ o)
theorem digsD_zero (g : Nat) (o : ByteArray) : digsD g 0 o = o := by cases g <;> simp [digsD]
/-- The text of a mark. -/
def markT (k : Int) : ByteArray := if k ≤ 0 then ⟨#[109, 48]⟩ else ⟨#[109]⟩ ++ digsD 14 k.toNat ⟨#[]⟩

end Go.Proofs.Ytccgjnanphonnaa
