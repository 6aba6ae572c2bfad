/- A round of K.Plain's loop: the plain kinds. No condition. -/
import Derived.Test.YtdjamdbamkhblacDoorKPlainH
namespace Go.Proofs.YtdjamdbamkhblacDoor
open Go.RowKit
set_option linter.unusedVariables false
set_option linter.unusedSimpArgs false
end Go.Proofs.YtdjamdbamkhblacDoor
