/- The walk of the reference's allWords. -/
import Derived.Test.YtdjamdbamkhblacDoorIn
namespace Go.Proofs.YtdjamdbamkhblacDoor
open Go.RowKit

end Go.Proofs.YtdjamdbamkhblacDoor
