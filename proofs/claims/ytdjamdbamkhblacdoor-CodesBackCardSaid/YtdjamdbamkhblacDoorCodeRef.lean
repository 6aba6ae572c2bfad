/- The walk of the reference's CodeFault: what it returns, for every code. -/
import Derived.Test.YtdjamdbamkhblacDoorCode
namespace Go.Proofs.YtdjamdbamkhblacDoor
open Go.RowKit

end Go.Proofs.YtdjamdbamkhblacDoor
