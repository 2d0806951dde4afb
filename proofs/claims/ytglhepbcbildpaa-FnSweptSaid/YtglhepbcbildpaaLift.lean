/- A ban is lifted: the program. -/
import Derived.Test.YtglhepbcbildpaaWithout
import Derived.Test.YtglhepbcbildpaaRoomPlain2
namespace Go.Proofs.Ytglhepbcbildpaa
open Go Go.RowKit Go.BigFrame
set_option linter.unusedVariables false
set_option linter.unusedSimpArgs false
def bannd (r : Room) (n : Int) : Bool := decide (0 ≤ idxP (banIs n) r.bans)
def liftF (n id a : Int) (r : Room) : Room × Bool := (withoutR r id, mayToB r n id 6 a && bannd r id)
def liftV (r : Room) (n id a : Int) : Room := chR r (liftF n id a)
def liftOk (r : Room) (n id a : Int) : Bool := chOk r (liftF n id a)
end Go.Proofs.Ytglhepbcbildpaa
