/- The walk of K.Plain: plain code of raw things, as plain data. No condition. -/
import Derived.Test.YtdjamdbamkhblacDoorKPlainJ
namespace Go.Proofs.YtdjamdbamkhblacDoor
open Go.RowKit
set_option linter.unusedVariables false
set_option linter.unusedSimpArgs false
end Go.Proofs.YtdjamdbamkhblacDoor
