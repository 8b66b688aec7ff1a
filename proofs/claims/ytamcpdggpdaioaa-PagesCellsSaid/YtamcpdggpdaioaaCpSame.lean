/- The layer cpset: Same, Within, All, Not, by walking their texts. -/
import Derived.Test.YtamcpdggpdaioaaCpOps
namespace Go.Proofs.Ytamcpdggpdaioaa
open Go.RowKit
set_option linter.unusedSimpArgs false
set_option linter.unusedVariables false

theorem C.fld (v : Value) (w : World) : (Instr.field 49 (.agg #[v]) 0).run Try.prog w = .ok v w := by
  have h1 := Try.underlying49
  have h2 := Try.underlying47
  simp [Instr.field, run_underlying h1, asAgg, Go.part, isAgg, run_underlying h2]

end Go.Proofs.Ytamcpdggpdaioaa
