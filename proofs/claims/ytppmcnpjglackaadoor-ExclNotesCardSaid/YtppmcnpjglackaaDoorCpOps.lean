/- The layer cpset: merge, by walking its text. -/
import Derived.Test.YtppmcnpjglackaaDoorCpLib
namespace Go.Proofs.YtppmcnpjglackaaDoor
open Go.RowKit
set_option linter.unusedSimpArgs false
set_option linter.unusedVariables false

end Go.Proofs.YtppmcnpjglackaaDoor

/- The layer cpset: Or, And, Less, by walking their texts. -/
namespace Go.Proofs.YtppmcnpjglackaaDoor
open Go.RowKit
set_option linter.unusedSimpArgs false
set_option linter.unusedVariables false


theorem C.enter' {P : Program} {f : FuncId} {fn : Func} (hf : P.funcs[f]? = some fn) (hname : (fn.name == "runtime.NumGoroutine") = false) (hb : fn.body.isNone = false) (args : Array Value) (w : World) :
    (callFunc f args).run P w = .ok (.enter f args) w := by
  rcases h : fn.body with _ | c
  · rw [h] at hb; cases hb
  · exact C.enter hf hname h args w

def C.orF : Bool → Bool → Bool := fun x y => x || y
def C.andF : Bool → Bool → Bool := fun x y => x && y
def C.lessF : Bool → Bool → Bool := fun x y => x && !y
end Go.Proofs.YtppmcnpjglackaaDoor
