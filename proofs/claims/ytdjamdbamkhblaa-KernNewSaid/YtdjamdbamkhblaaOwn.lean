/- Rows of the call's own, read as lists (see Cells), beside module.Copy: no condition. -/
import Derived.Test.YtdjamdbamkhblaaModCopy
import Derived.Test.YtdjamdbamkhblaaCells
namespace Go.Proofs.Ytdjamdbamkhblaa
end Go.Proofs.Ytdjamdbamkhblaa
