/- The walk of the reference's In. -/
import Derived.Test.YtdjamdbamkhblacDoorBase
namespace Go.Proofs.YtdjamdbamkhblacDoor
open Go.RowKit

end Go.Proofs.YtdjamdbamkhblacDoor
