/- The layer cpset: place, Has, by walking their texts. -/
import Derived.Test.YtgfkcbckddpbaaaDoorCpLib
import Derived.Test.YtgfkcbckddpbaaaDoorCpPlainD
namespace Go.Proofs.YtgfkcbckddpbaaaDoor
open Go.RowKit
set_option linter.unusedSimpArgs false
set_option linter.unusedVariables false

theorem C.nanC_any (x : Int) (w : World) : Calls Tryd.prog 102 #[.int .i32 x] w fun e w' => e = .returned (.bool false) ∧ w = w' := by
  go_enter Tryd.func102, Tryd.ntmps102
  go_wp2
  go_ret
  exact ⟨by simp, rfl⟩
set_option maxRecDepth 100000 in
theorem C.lessR_any (x y : Int) (w : World) : Calls Tryd.prog 90 #[.int .i32 x, .int .i32 y] w fun e w' => e = .returned (.bool (decide (x < y))) ∧ w = w' := by
  go_enter Tryd.func90, Tryd.ntmps90
  go_wp2_with fail
  refine (C.nanC_any _ _).mono ?_
  rintro e w1 ⟨rfl, rfl⟩
  go_wp2
  go_ret
  exact ⟨rfl, rfl⟩

def C.plc (l : List Int) (d : Int) : Nat := C.ltN l d + (if C.hit l d = true then 1 else 0)

end Go.Proofs.YtgfkcbckddpbaaaDoor
