/- Whole numbers of 32 bits stay such under 'x &^ 255' and 'x | 255'. -/
import Derived.Test.YtamcpdggpdaioaaPgFew
namespace Go.Proofs.Ytamcpdggpdaioaa
open Go.RowKit
set_option linter.unusedSimpArgs false
set_option linter.unusedVariables false

theorem Pg.wrap_toInt (x : BitVec 64) : IntKind.i64.wrap (x.toNat : Nat) = x.toInt := by
  rw [IntKind.wrap_i64, BitVec.toInt_eq_toNat_cond]
  have := x.isLt
  split <;> omega
theorem Pg.ext32 (n : Int) (h0 : -2147483648 ≤ n) (h1 : n ≤ 2147483647) : BitVec.ofInt 64 n = (BitVec.ofInt 32 n).signExtend 64 := by
  apply BitVec.eq_of_toInt_eq
  rw [BitVec.toInt_signExtend_of_le (by decide), BitVec.toInt_ofInt, BitVec.toInt_ofInt]
  rw [Int.bmod_def, Int.bmod_def]
  split <;> split <;> omega
theorem Pg.toInt32 (x : BitVec 32) : -2147483648 ≤ (x.signExtend 64).toInt ∧ (x.signExtend 64).toInt ≤ 2147483647 := by
  rw [BitVec.toInt_signExtend_of_le (by decide), BitVec.toInt_eq_toNat_cond]
  have := x.isLt
  split <;> omega
theorem Pg.or_255 (n : Int) (h0 : -2147483648 ≤ n) (h1 : n ≤ 2147483647) : -2147483648 ≤ bits .or .i64 n 255 ∧ bits .or .i64 n 255 ≤ 2147483647 := by
  have e : bits .or .i64 n 255 = (BitVec.ofInt 64 n ||| BitVec.ofInt 64 255).toInt := Pg.wrap_toInt _
  rw [e, Pg.ext32 n h0 h1, Pg.ext32 255 (by decide) (by decide), ← BitVec.signExtend_or]
  exact Pg.toInt32 _
theorem Pg.andNot_255 (n : Int) (h0 : -2147483648 ≤ n) (h1 : n ≤ 2147483647) : -2147483648 ≤ bits .andNot .i64 n 255 ∧ bits .andNot .i64 n 255 ≤ 2147483647 := by
  have e : bits .andNot .i64 n 255 = (BitVec.ofInt 64 n &&& ~~~ BitVec.ofInt 64 255).toInt := Pg.wrap_toInt _
  have e2 : ~~~ BitVec.ofInt 64 255 = BitVec.ofInt 64 (-256) := by decide
  rw [e, e2, Pg.ext32 n h0 h1, Pg.ext32 (-256) (by decide) (by decide), ← BitVec.signExtend_and]
  exact Pg.toInt32 _
end Go.Proofs.Ytamcpdggpdaioaa
