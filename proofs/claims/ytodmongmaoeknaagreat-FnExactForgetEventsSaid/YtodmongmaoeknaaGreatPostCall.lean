/- A message is posted: the reference's own call. -/
import Derived.Test.YtodmongmaoeknaaGreatPostSpec
namespace Go.Proofs.YtodmongmaoeknaaGreat
open Go Go.RowKit Go.BigFrame
attribute [local go_sem] Calm.cell Calm.frozen
set_option linter.unusedVariables false
set_option linter.unusedSimpArgs false

end Go.Proofs.YtodmongmaoeknaaGreat
