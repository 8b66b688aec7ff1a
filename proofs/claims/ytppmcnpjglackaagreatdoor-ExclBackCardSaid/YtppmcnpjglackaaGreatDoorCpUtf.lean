/- utf.Is, by walking its text. -/
import Derived.Test.YtppmcnpjglackaaGreatDoorCpPlainD
import Derived.Test.YtppmcnpjglackaaGreatDoorSlt
namespace Go.Proofs.YtppmcnpjglackaaGreatDoor
open Go.RowKit
set_option linter.unusedSimpArgs false
set_option linter.unusedVariables false

theorem C.utfis_any (c : Int) (w : World) : Calls Tryz.prog 34 #[.int .i32 c] w fun e w' => e = .returned (.bool (C.isC c)) ∧ w = w' := by
  have e : C.isC c = (decide (0 ≤ c) && decide (c ≤ 1114111) && (decide (c < 55296) || decide (57343 < c))) := by
    unfold C.isC
    rw [Bool.eq_iff_iff]
    simp
    omega
  rw [e]
  clear e
  by_cases h1 : 0 ≤ c <;> by_cases h2 : c ≤ 1114111 <;> by_cases h3 : c < 55296 <;> by_cases h4 : 57343 < c
  all_goals
    first
      | (exfalso; omega)
      | (go_enter Tryz.func34, Tryz.ntmps34
         go_wp2
         go_ret
         exact ⟨by simp [h1, h2, h3, h4], rfl⟩)
end Go.Proofs.YtppmcnpjglackaaGreatDoor
