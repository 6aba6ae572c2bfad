/- The walks of safe.Verify and of its reference: what they return, for every code. -/
import Derived.Test.YtdjamdbamkhblacDoorCodeRef
namespace Go.Proofs.YtdjamdbamkhblacDoor
open Go.RowKit
set_option maxRecDepth 100000

end Go.Proofs.YtdjamdbamkhblacDoor
