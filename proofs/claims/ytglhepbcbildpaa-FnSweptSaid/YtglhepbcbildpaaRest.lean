/- Ranks: the reference. -/
import Derived.Test.YtglhepbcbildpaaRanks
import Derived.Test.YtglhepbcbildpaaL02Copy
import Derived.Test.YtglhepbcbildpaaChanged
namespace Go.Proofs.Ytglhepbcbildpaa
open Go Go.RowKit Go.BigFrame
set_option linter.unusedVariables false
set_option linter.unusedSimpArgs false
end Go.Proofs.Ytglhepbcbildpaa
