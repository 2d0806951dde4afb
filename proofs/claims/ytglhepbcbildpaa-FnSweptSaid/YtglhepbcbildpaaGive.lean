/- A room is given, if it is valid: the reference. -/
import Derived.Test.YtglhepbcbildpaaSpecRoom
import Derived.Test.YtglhepbcbildpaaRoomPlain2
namespace Go.Proofs.Ytglhepbcbildpaa
open Go Go.RowKit Go.BigFrame
set_option linter.unusedVariables false
set_option linter.unusedSimpArgs false
end Go.Proofs.Ytglhepbcbildpaa
