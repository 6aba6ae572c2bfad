/- Made code is trusted; what a verification that finds nothing says: plain mathematics. -/
import Derived.Test.YtdjamdbamkhblacDoorSim
import Derived.Test.YtdjamdbamkhblacDoorChk
namespace Go.Proofs.YtdjamdbamkhblacDoor
end Go.Proofs.YtdjamdbamkhblacDoor
