/- The fixed fact of the layer order. -/
import Derived.Test.YtdbpjmfflofadaaGreatDoorXtData
import Derived.Test.YtdbpjmfflofadaaGreatDoorNfLaid
set_option linter.unusedVariables false
set_option linter.unusedSimpArgs false
namespace Go.Proofs.YtdbpjmfflofadaaGreatDoor
open Go.RowKit
def zS1 (a b:Int):Int × Bool:=if (Hg.joinK a b).2=true then ((Hg.joinK a b).1,true) else ((zCj Xt.T (Md.xs zIF) Xt.T a b).getD 0,(zCj Xt.T (Md.xs zIF) Xt.T a b).isSome)
theorem zSO:Nc.j Xt.T zDQ=fun a b=>if (zS1 a b).2=true then some (zS1 a b).1 else none:=by
 funext a b
 have h:Ud.joinK Xt.T zDQ a b=zS1 a b:=by
  show (if (Hg.joinK a b).2=true then ((Hg.joinK a b).1,true) else ((zCj Xt.T (C.mem zDQ) Xt.T a b).getD 0,(zCj Xt.T (C.mem zDQ) Xt.T a b).isSome))=_;rw[Xt.mem];rfl
 unfold Nc.j;rw[h]
end Go.Proofs.YtdbpjmfflofadaaGreatDoor
