/- A module, as plain data and as a value in memory. -/
import Derived.Test.YtdjamdbamkhblacDoorLaw
namespace Go.Proofs.YtdjamdbamkhblacDoor
open Go.RowKit

end Go.Proofs.YtdjamdbamkhblacDoor
