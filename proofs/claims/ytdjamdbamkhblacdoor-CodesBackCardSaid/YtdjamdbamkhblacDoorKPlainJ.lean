/- A round of K.Plain's loop: joined. No condition. -/
import Derived.Test.YtdjamdbamkhblacDoorKPlainU
namespace Go.Proofs.YtdjamdbamkhblacDoor
open Go.RowKit
set_option linter.unusedVariables false
set_option linter.unusedSimpArgs false
end Go.Proofs.YtdjamdbamkhblacDoor
