/- What a member may do: the program and the reference. -/
import Derived.Test.YtnglccgbenlbjaaSpecRoom
import Derived.Test.YtnglccgbenlbjaaRTypes
namespace Go.Proofs.Ytnglccgbenlbjaa
open Go Go.RowKit Go.BigFrame
attribute [local go_sem] Calm.cell Calm.frozen
set_option linter.unusedVariables false
set_option linter.unusedSimpArgs false

end Go.Proofs.Ytnglccgbenlbjaa
