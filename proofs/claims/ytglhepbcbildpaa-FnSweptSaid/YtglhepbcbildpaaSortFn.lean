/- A room's rows are sorted: the program. -/
import Derived.Test.YtglhepbcbildpaaInsPlain
import Derived.Test.YtglhepbcbildpaaSortRoom
import Derived.Test.YtglhepbcbildpaaChanged
import Derived.Test.YtglhepbcbildpaaRanks
namespace Go.Proofs.Ytglhepbcbildpaa
open Go Go.RowKit Go.BigFrame
set_option linter.unusedVariables false
set_option linter.unusedSimpArgs false
end Go.Proofs.Ytglhepbcbildpaa
