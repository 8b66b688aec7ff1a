/- An array that came in: [2][]int. -/
import Derived.Test.YtjakbblocbicjaaGreatDoorHeadsOf
import Derived.OpenShut
namespace Go.Proofs.YtjakbblocbicjaaGreatDoor
open Go.ChangeShapes Go.WideShapes Go.RowKit Go.Deep Go.Joins
set_option linter.unusedVariables false
theorem Eq.cells3:Tryz.prog.cellsOf 23=1∧Tryz.prog.cellsOf 51=2:=⟨by kernel_rfl,by kernel_rfl⟩
theorem Eq.row_of {H:Type} {enc:TypeId × Value→H} {W:World} {m:Nat} {a0:Value} {y:DataW H × List MemPlace} (h:DataW.trod enc Tryz.prog W 0 (fun _=>true) true m 23 [a0]=some y) :
 ∃(A:Option Addr) (n c:Nat) (zs:List Int),a0=.slice A n c∧IsRow .i64 W A n c zs:=by
 rcases open_ints Tryz.underlying23 Tryz.underlying3 (by kernel_rfl) h with ⟨hcs,_⟩|⟨x,l,c,zs,hcs,_,hl,hm,hz,_,hcell,hwz⟩
 · simp only[List.cons.injEq,and_true]at hcs;exact⟨none,0,0,[],hcs,.inl ⟨rfl,rfl,rfl,rfl⟩⟩
 simp only[List.cons.injEq,and_true]at hcs;exact⟨_,l,c,zs,hcs,.inr ⟨_,rfl,hl,hm,by simpa using hz,hcell,hwz⟩⟩
set_option maxRecDepth 100000 in
theorem Eq.open_rows2 {H:Type} {enc:TypeId × Value→H} {W:World} {v:Value} {d:DataW H} {p:List MemPlace} (hv:Value.okWide Tryz.prog W .any 0 51 v) (h:DataW.Trod enc Tryz.prog W 0 (fun _=>true) true 51 v d p) :
 ∃(RA:Option Addr) (ra rb:Nat) (RB:Option Addr) (sa sb:Nat) (rz sz:List Int),v=.agg #[.slice RA ra rb,.slice RB sa sb]∧IsRow .i64 W RA ra rb rz∧IsRow .i64 W RB sa sb sz:=by
 obtain⟨e1,e2⟩:=Eq.cells3;simp only[Value.okWide,Tryz.underlying51]at hv;obtain⟨cs,rfl,hsz,_⟩:=hv;rw[e2]at hsz;obtain⟨l⟩:=cs;rcases l with _|⟨a0,_|⟨a1,_|⟨a2,l⟩⟩⟩ <;> simp at hsz
 obtain⟨fuel,hf⟩:=h;obtain⟨xs,m,_,_,_,hx,hi⟩:=DataW.trod_array Tryz.underlying51 hf;have h0:=hi 0 (by decide);have h1:=hi 1 (by decide);rw[e1]at h0 h1;simp only[Value.cells,Nat.zero_mul,Nat.one_mul,List.drop_zero,List.drop_succ_cons,List.take_succ_cons,List.take_zero]at h0 h1;rw[List.getElem?_eq_getElem (by omega)]at h0 h1;obtain⟨A,n,c,zs,rfl,w0⟩:=Eq.row_of h0;obtain⟨A',n',c',zs',rfl,w1⟩:=Eq.row_of h1;exact⟨A,n,c,A',n',c',zs,zs',rfl,w0,w1⟩
end Go.Proofs.YtjakbblocbicjaaGreatDoor
