/- Ranks: the program. -/
import Derived.Test.YtnglccgbenlbjaaGreatRankPlain
import Derived.Test.YtnglccgbenlbjaaGreatSortRoom
import Derived.Test.YtnglccgbenlbjaaGreatRoomCopy
namespace Go.Proofs.YtnglccgbenlbjaaGreat
open Go Go.RowKit Go.BigFrame
set_option linter.unusedVariables false
set_option linter.unusedSimpArgs false
end Go.Proofs.YtnglccgbenlbjaaGreat
