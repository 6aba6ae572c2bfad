/- A struct of four integers that came in by value, opened. -/
import Derived.Test.YtdjamdbamkhblacDoorLaw
namespace Go.Proofs.YtdjamdbamkhblacDoor
open Go.RowKit Go.WideShapes Go.ChangeShapes Go.ChangeAt Go.Deep Go.Joins
section
variable {H : Type} {enc : TypeId × Value → H} {P : Program}
end
end Go.Proofs.YtdjamdbamkhblacDoor
