/- Calls as steps of a staged region, with their facts in the order in which they are found. -/
import Derived.Test.YtjakbblocbicjaaGreatDoorPgReg
set_option linter.unusedVariables false
set_option linter.unusedSimpArgs false
namespace Go.Proofs.YtjakbblocbicjaaGreatDoor.Stg
open Go Go.RowKit
section
variable {P:Program} {ops:Array Oper} {R:World→World→Prop} {F:Act→World→Prop} {o:Oper} {l:List Oper} {k n:Nat} {a:Act} {ws:Nat→World}
theorem cl {fn:Func} (f:FuncId) (xs:List Operand) (ts:Array TypeId) (ho:o.op=.call { callee:=.value (.func f),args:=xs.toArray,argTypes:=ts }) (ae:P.funcs[f]?=some fn)
 (us:List Value) (hv:xs.map a.eval=us) (W:World) (T:Ending→World→Prop) (hC:Calls P f us.toArray W T)
 (hk:(fn.name != "runtime.NumGoroutine" && fn.body.isSome&&stOf ops k&&Region.wanted o (yielded ops a.tmps))=true) (hb:ws 0=W)
 (h:∀e w',T e w'→∃v,e=.returned v∧R W w'∧∀A,A=a.put o.dst v→Walk P ops R F l (k+1) A (n+1) (push w' ws)):Walk P ops R F (o::l) k a n ws:=
 call hk f xs ts ho ae us hv W T hC hb h
end
section
variable {P:Program} {ops:Array Oper} {md:Region.Mode} {R:World→World→Prop} {F:Act→World→Prop} {fuel:Nat} {listed:Array Bool} {a:Act} {w:World}
theorem clX {l:List Oper} (i:Nat) {o:Oper} {fn:Func} (hi':l[i]?=some o) (f:FuncId) (xs:List Operand) (ts:Array TypeId) (ho:o.op=.call { callee:=.value (.func f),args:=xs.toArray,argTypes:=ts })
 (ae:P.funcs[f]?=some fn) (us:List Value) (hv:xs.map a.eval=us) (T:Ending→World→Prop) (hC:Calls P f us.toArray w T) (hk:(fn.name != "runtime.NumGoroutine" && fn.body.isSome&&!readsOnly o.op&&Region.wanted o (yielded l.toArray a.tmps))=true) {K:Act→World→Prop}
 (h:∀e w',T e w'→∃v,e=.returned v∧R w w'∧∀A,A=a.put o.dst v→K A w'):xOp P l.toArray R i K a w:=
 callX i hk hi' f xs ts ho ae us hv T hC h
end
end Go.Proofs.YtjakbblocbicjaaGreatDoor.Stg
