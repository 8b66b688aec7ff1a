/- Arrays that came in: [2]int, [2][]int. -/
import Derived.Test.YtjakbblocbicjaaGreatDoorHeadsOf
import Derived.OpenShut
namespace Go.Proofs.YtjakbblocbicjaaGreatDoor
open Go.ChangeShapes Go.WideShapes Go.RowKit Go.Deep Go.Joins
set_option linter.unusedVariables false
theorem Eq.cells2:Tryz.prog.cellsOf 3=1∧Tryz.prog.cellsOf 61=2:=⟨by kernel_rfl,by kernel_rfl⟩
set_option maxRecDepth 100000 in
theorem Eq.open_ints2 {H:Type} {enc:TypeId × Value→H} {W:World} {v:Value} {d:DataW H} {p:List MemPlace} (hv:Value.okWide Tryz.prog W .any 0 61 v) (h:DataW.Trod enc Tryz.prog W 0 (fun _=>true) true 61 v d p) :
 ∃c0 c1:Int,v=.agg #[.int .i64 c0,.int .i64 c1]∧(-9223372036854775808≤c0∧c0≤9223372036854775807)∧(-9223372036854775808≤c1∧c1≤9223372036854775807):=by
 obtain⟨e1,e2⟩:=Eq.cells2;simp only[Value.okWide,Tryz.underlying61]at hv;obtain⟨cs,rfl,hsz,_⟩:=hv;rw[e2]at hsz;obtain⟨l⟩:=cs;rcases l with _|⟨a0,_|⟨a1,_|⟨a2,l⟩⟩⟩ <;> simp at hsz
 obtain⟨fuel,hf⟩:=h;obtain⟨xs,m,_,_,_,hx,hi⟩:=DataW.trod_array Tryz.underlying61 hf;have h0:=hi 0 (by decide);have h1:=hi 1 (by decide);rw[e1]at h0 h1;simp only[Value.cells,Nat.zero_mul,Nat.one_mul,List.drop_zero,List.drop_succ_cons,List.take_succ_cons,List.take_zero]at h0 h1;rw[List.getElem?_eq_getElem (by omega)]at h0 h1;obtain⟨a,ea,_,wa⟩:=DataW.trod_int Tryz.underlying3 h0;obtain⟨b,eb,_,wb⟩:=DataW.trod_int Tryz.underlying3 h1;simp only[List.cons.injEq,and_true]at ea eb;subst ea;subst eb;exact⟨a,b,rfl,bounds_i64 wa,bounds_i64 wb⟩
end Go.Proofs.YtjakbblocbicjaaGreatDoor
