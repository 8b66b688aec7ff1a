/- The layer cpset: Or, And, Less, by walking their texts. -/
import Derived.Test.YtamcpdggpdaioaaCpMerge
namespace Go.Proofs.Ytamcpdggpdaioaa
open Go.RowKit
set_option linter.unusedSimpArgs false
set_option linter.unusedVariables false


theorem C.enter' {P : Program} {f : FuncId} {fn : Func} (hf : P.funcs[f]? = some fn) (hname : (fn.name == "runtime.NumGoroutine") = false) (hb : fn.body.isNone = false) (args : Array Value) (w : World) :
    (callFunc f args).run P w = .ok (.enter f args) w := by
  rcases h : fn.body with _ | c
  · rw [h] at hb; cases hb
  · exact C.enter hf hname h args w

def C.orF : Bool → Bool → Bool := fun x y => x || y
def C.andF : Bool → Bool → Bool := fun x y => x && y
def C.lessF : Bool → Bool → Bool := fun x y => x && !y
end Go.Proofs.Ytamcpdggpdaioaa
