/- Whole arrays, loaded and told apart. -/
import Derived.Test.YtamcpdggpdaioaaPgLib
import Derived.Laws.Rows
namespace Go.Proofs.Ytamcpdggpdaioaa
open Go.RowKit
set_option linter.unusedSimpArgs false
set_option linter.unusedVariables false

theorem Pg.run_load {P : Program} (w : World) (t : TypeId) (d : TypeDesc) (b o n : Nat) (xs : List Value) (hx : xs.length = n) (hc : ∀ (j : Nat) v, xs[j]? = some v → w.cell? ⟨b, o + j, none⟩ = some v)
    (hu : P.underlying t = some d) (hd : (match d with | .struct _ | .array _ _ => true | _ => false) = true) (hi : (P.info? t).map (·.size) = some n) :
    (Instr.loadAt t (.pointer (some ⟨b, o, none⟩))).run P w = .ok (.agg xs.toArray) w := by
  have hl : (loadCells ⟨b, o, none⟩ xs.length).run P w = .ok xs.toArray w :=
    run_loadCells_list (P := P) w ⟨b, o, none⟩ xs (fun j v hv => by
      have hadd : (⟨b, o, none⟩ : Addr).add j = ⟨b, o + j, none⟩ := by unfold Addr.add; split <;> simp_all
      rw [hadd]
      exact hc j v hv)
  subst hx
  have hagg : (isAgg t).run P w = .ok true w := by cases d <;> simp at hd <;> simp [isAgg, run_underlying hu]
  simp only [Instr.loadAt, Instr.sureAddr, Sem.run_bind, Sem.run_pure, Result.andThen]
  cases hq : P.info? t with
  | none => simp [hq] at hi
  | some i =>
    have hs : i.size = xs.length := by simp [hq] at hi; omega
    simp [loadVar, Sem.run_bind, hagg, sizeOf, typeInfo, hq, hs, hl]
theorem Pg.wp_load {P : Program} {o : Oper} {a : Act} {w : World} {K : Act → World → Prop} {Q : Exit → Act → World → Prop} (t : TypeId) (x : Operand) (ho : o.op = .load t x) (v u : Value) (hx : a.eval x = v)
    (hr : (Instr.loadAt t v).run P w = .ok u w) (h : K (a.put o.dst u) w) : o.wp P a w K Q := by
  unfold Oper.wp execOp
  subst hx
  simp only [ho, Sem.run_bind, hr, Result.andThen_ok, Sem.run_pure]
  exact h
theorem Pg.wpList_load {P : Program} {ops : Array Oper} {rest : List Oper} {o : Oper} {a : Act} {w : World} {Q : Exit → Act → World → Prop} (hgd : o.guard = none) (t : TypeId) (x : Operand) (ho : o.op = .load t x) (v u : Value) (hx : a.eval x = v)
    (hr : (Instr.loadAt t v).run P w = .ok u w) (h : wpList P ops Q rest (a.put o.dst u) w) : wpList P ops Q (o :: rest) a w :=
  wpList_plain hgd fun _ hK => Pg.wp_load t x ho v u hx hr (hK _ _ h)
theorem Pg.run_index {P : Program} (w : World) (t e : TypeId) (kd : IntKind) (n k : Nat) (cs : List Value) (v : Value) (hu : P.underlying t = some (.array n e)) (he : P.underlying e = some (.int kd)) (hs : (sizeOf e).run P w = .ok 1 w)
    (hk : k < n) (hv : cs[k]? = some v) : (Instr.index t (.agg cs.toArray) (.int .i64 k)).run P w = .ok v w := by
  have h0 : 0 ≤ (k : Int) ∧ (k : Int) < n := by omega
  have hagg : (isAgg e).run P w = .ok false w := by simp [isAgg, run_underlying he]
  unfold Instr.index
  simp only [asIntOf, Sem.run_bind, Sem.run_pure, Result.andThen, run_underlying hu]
  rw [if_pos h0]
  simp [Sem.run_bind, hs, part, hagg, hv, Result.andThen]
theorem Pg.infoIdx : (Try.prog.info? 75).map (·.size) = some 4352 := by kernel_rfl
theorem Pg.infoBlk : (Try.prog.info? 73).map (·.size) = some 256 := by kernel_rfl
theorem infoCell : (Try.prog.info? 38).map (fun i => (i.zero, i.size, i.bytes)) = some (some (.agg #[.int .i32 0, .int .u16 0]), 2, 8) := by kernel_rfl
theorem Pg.or_8 (n i : Nat) (h0 : n < 4352) (h1 : i < 256) : bits .or .i64 ((n : Int) * 256) i = 256 * (n : Int) + i := by
  have e1 : (BitVec.ofInt 64 ((n : Int) * 256)).toNat = 2 ^ 8 * n := by rw [BitVec.toNat_ofInt]; omega
  have e2 : (BitVec.ofInt 64 (i : Int)).toNat = i := by rw [BitVec.toNat_ofInt]; omega
  have key : (BitVec.ofInt 64 ((n : Int) * 256) ||| BitVec.ofInt 64 (i : Int)).toNat = 2 ^ 8 * n + i := by
    rw [BitVec.toNat_or, e1, e2, Nat.two_pow_add_eq_or_of_lt h1]
  show IntKind.i64.wrap ((BitVec.ofInt 64 ((n : Int) * 256) ||| BitVec.ofInt 64 (i : Int)).toNat : Nat) = _
  rw [key, IntKind.wrap_i64]
  omega

end Go.Proofs.Ytamcpdggpdaioaa
