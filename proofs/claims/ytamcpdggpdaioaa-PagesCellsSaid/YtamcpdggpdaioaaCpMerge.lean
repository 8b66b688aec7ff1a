/- The layer cpset: merge, by walking its text. -/
import Derived.Test.YtamcpdggpdaioaaCpLib
namespace Go.Proofs.Ytamcpdggpdaioaa
open Go.RowKit
set_option linter.unusedSimpArgs false
set_option linter.unusedVariables false

end Go.Proofs.Ytamcpdggpdaioaa
