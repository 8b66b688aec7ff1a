/- The fixed fact of the layer order. -/
import Derived.Test.YtddbccflcekdpaaGreatDoorNfLaid
import Derived.Test.YtddbccflcekdpaaGreatDoorXtData
set_option linter.unusedVariables false
set_option linter.unusedSimpArgs false
namespace Go.Proofs.YtddbccflcekdpaaGreatDoor
open Go.RowKit
theorem Tx.lit16:Or.of (Md.cls Xt.T) [97,769,803]=[97,803,769]:=by decide +kernel
theorem Tx.lit16in:Or.inB (Md.cls Xt.T) 0 [97,803,769]=true:=by decide +kernel
theorem Nf.enc17:zA6 [7785]=⟨#[225,185,169]⟩:=by decide +kernel
def Nc.k18 (a b:Int):Int × Bool:=if (Hg.joinK a b).2=true then ((Hg.joinK a b).1,true) else ((zCk Xt.T (Md.xs zIl) Xt.T a b).getD 0,(zCk Xt.T (Md.xs zIl) Xt.T a b).isSome)
theorem Nc.j18:Nc.j Xt.T zR9=fun a b=>if (Nc.k18 a b).2=true then some (Nc.k18 a b).1 else none:=by
 funext a b
 have h:Ud.joinK Xt.T zR9 a b=Nc.k18 a b:=by
  show (if (Hg.joinK a b).2=true then ((Hg.joinK a b).1,true) else ((zCk Xt.T (C.mem zR9) Xt.T a b).getD 0,(zCk Xt.T (C.mem zR9) Xt.T a b).isSome))=_;rw[Xt.mem];rfl
 unfold Nc.j;rw[h]
theorem Nc.lit18:Nc.chars Xt.T zR9 [115,775,803]=[7785]:=by
 unfold Nc.chars zCf;rw[Nc.j18];decide +kernel
theorem Nc.enc18:zA6 [115,775,803]=⟨#[115,204,135,204,163]⟩:=by decide +kernel
end Go.Proofs.YtddbccflcekdpaaGreatDoor
