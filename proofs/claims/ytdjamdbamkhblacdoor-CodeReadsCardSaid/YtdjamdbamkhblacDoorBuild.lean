/- A strings.Builder of a call's own: copyCheck and WriteString. No condition. -/
import Derived.Test.YtdjamdbamkhblacDoorBlk
import Derived.Lib.Builder
import Derived.Lib.AppendStr
import Derived.Lib.OthersKept
import Derived.Laws.Externs
namespace Go.Proofs.YtdjamdbamkhblacDoor
open Go.RowKit
set_option linter.unusedVariables false
set_option linter.unusedSimpArgs false
def IsB (B b : Nat) (l : List UInt8) (w : World) : Prop := Lib.IsBuilder 115 5 B b (Lib.byteCells l) w
end Go.Proofs.YtdjamdbamkhblacDoor
