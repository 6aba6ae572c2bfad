/- Trusted code keeps to its region, and what it does hangs on its region alone: plain mathematics. -/
import Derived.Test.YtdjamdbamkhblacDoorCpuPure
import Derived.Test.YtdjamdbamkhblacDoorSafe
namespace Go.Proofs.YtdjamdbamkhblacDoor
end Go.Proofs.YtdjamdbamkhblacDoor
