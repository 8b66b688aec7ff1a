/- order.In and order.Runs, by walking their texts. -/
import Derived.Test.YtdbpjmfflofadaaGreatDoorSoWalkA
set_option linter.unusedVariables false
set_option linter.unusedSimpArgs false
namespace Go.Proofs.YtdbpjmfflofadaaGreatDoor
open Go.RowKit
end Go.Proofs.YtdbpjmfflofadaaGreatDoor
