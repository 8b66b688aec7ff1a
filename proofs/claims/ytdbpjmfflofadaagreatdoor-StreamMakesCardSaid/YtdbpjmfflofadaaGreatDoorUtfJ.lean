/- Comparing texts: plain law, and the walks of Compare, Char, Chars. -/
import Derived.Test.YtdbpjmfflofadaaGreatDoorUtfH
import Derived.Lib.Bytealg
set_option linter.unusedVariables false
set_option linter.unusedSimpArgs false
namespace Go.Proofs.YtdbpjmfflofadaaGreatDoor
open Go.RowKit
end Go.Proofs.YtdbpjmfflofadaaGreatDoor
