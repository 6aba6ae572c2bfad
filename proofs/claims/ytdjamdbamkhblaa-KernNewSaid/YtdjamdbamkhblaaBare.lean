/- A world for the witness of a row that lists no variable: the settled one. -/
import Derived.Test.YtdjamdbamkhblaaLaw
namespace Go.Proofs.Ytdjamdbamkhblaa
noncomputable def laidWorld (os : Os) : World := World.holding Try.prog os ⟨#[], #[], []⟩
end Go.Proofs.Ytdjamdbamkhblaa
