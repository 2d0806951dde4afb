/- A member, an invite and a ban are taken out of a room: the program. -/
import Derived.Test.YtglhepbcbildpaaDelRoom
import Derived.Test.YtglhepbcbildpaaMayTo
import Derived.Test.YtglhepbcbildpaaRTypes
namespace Go.Proofs.Ytglhepbcbildpaa
open Go Go.RowKit Go.BigFrame
set_option linter.unusedVariables false
set_option linter.unusedSimpArgs false
def withoutR (r : Room) (id : Int) : Room := { r with members := dropP (idIs id) r.members, invites := dropP (invIs id) r.invites, bans := dropP (banIs id) r.bans }
end Go.Proofs.Ytglhepbcbildpaa
