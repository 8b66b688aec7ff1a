/- The law UtfEncodes' walk. -/
import Derived.Test.YtdbpjmfflofadaaGreatDoorNfPlain
set_option linter.unusedVariables false
set_option linter.unusedSimpArgs false
namespace Go.Proofs.YtdbpjmfflofadaaGreatDoor
open Go.RowKit
end Go.Proofs.YtdbpjmfflofadaaGreatDoor
