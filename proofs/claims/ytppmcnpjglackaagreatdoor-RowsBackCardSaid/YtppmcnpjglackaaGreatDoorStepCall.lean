/- A quiet call inside a region that holds an append: its step. -/
import Derived.Test.YtppmcnpjglackaaGreatDoorLib4
import Derived.RangeFuncCalls
import Derived.Deep.RegionLaw
namespace Go.Proofs.YtppmcnpjglackaaGreatDoor
open Go.RowKit
set_option linter.unusedSimpArgs false
set_option linter.unusedVariables false

theorem step_quiet {P : Program} {ops : Array Oper} {o : Oper} {a : Act} {K : Act → World → Prop} {Q : Exit → Act → World → Prop} {E : Prop} (w : World) (hgd : o.guard = none) (f : FuncId) (x : Operand) (ts : Array TypeId)
    (ho : o.op = .call { callee := .value (.func f), args := #[x], argTypes := ts }) (entry : ∀ args w, (callFunc f args).run P w = .ok (.enter f args) w) (u : Value) (hv : a.eval x = u)
    (v : Value) (hC : Calls P f #[u] w fun e w' => e = .returned v ∧ w = w') (h : K (a.put o.dst v) w) :
    if Region.wanted o (yielded ops a.tmps) = true then Oper.wp P o a w K Q else E := by
  have hw : Region.wanted o (yielded ops a.tmps) = true := by simp [Region.wanted, hgd]
  rw [if_pos hw]
  have hrun : (execOp a.eval o).run P w = .ok (.enter f #[u]) w := by
    have hf : a.eval (.func f) = .func (.func f) #[] #[] := rfl
    unfold execOp
    subst hv
    simp [ho, resolve, invoke, go_sem, entry, hf]
  unfold Oper.wp
  rw [hrun, Oper.upon_enter]
  refine hC.mono ?_
  rintro e w' ⟨rfl, rfl⟩
  exact h
end Go.Proofs.YtppmcnpjglackaaGreatDoor
