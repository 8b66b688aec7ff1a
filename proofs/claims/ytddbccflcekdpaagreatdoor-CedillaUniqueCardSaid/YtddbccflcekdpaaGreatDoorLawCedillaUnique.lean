/- The card of the law CedillaUnique: for every input it answers true, and the input reads as it did, where the library's listed variables are as its text lays them (the tie is given). No other condition. -/
import Derived.Test.YtddbccflcekdpaaGreatDoorLwTUnique
import Derived.Test.YtddbccflcekdpaaGreatDoorTxOpen
import Derived.Test.YtddbccflcekdpaaGreatDoorNfLaid
import Derived.Test.YtddbccflcekdpaaGreatDoorCards
import Derived.Test.YtddbccflcekdpaaGreatDoorTie
import Derived.ShutString
import Derived.ChangeOld
namespace Go.Proofs.YtddbccflcekdpaaGreatDoor
open Go.ChangeShapes Go.WideShapes Go.ChangeAt Go.RowKit
open Go.ChangeMaps (open_string shut_string)
set_option linter.unusedVariables false
set_option maxRecDepth 100000
theorem cedillaUnique_own:ownKnob Tryz.prog.godebug=none:=by kernel_rfl
theorem cedillaUnique_laidOut:laidOutB Tryz.prog=true:=by kernel_rfl
set_option maxRecDepth 100000 in
theorem cedillaUnique_contract (H:Type) (enc:TypeId × Value→H) (W:World) (base:Nat) (args:Array Value) (ds gs:List (DataW H)) (before:List MemPlace)
 (hval:∀(j:Nat) t v,Tryz.f3.params[j]?=some t→args[j]?=some v→Value.okWide Tryz.prog W .any base t v)
 (hW:DataW.Whole enc Tryz.prog Tryz.f3.params.toList Rows.cedillaUniqueSpec.vars false W args.toList ds gs before) (hL:laidMetH Tryz.prog Rows.cedillaUniqueRow.laid W) (hS:W.ShapedOpen Tryz.prog) :
 Calls Tryz.prog 3 args W fun e W'=>∃v,e=.returned v∧Rows.cedillaUniqueSpec.post enc Tryz.prog Tryz.f3 false true false false W args v W':=by
 have laidOut:=cedillaUnique_laidOut;have hHeads:Nf.Laid W:=⟨Rw.laid_of (by kernel_rfl) (by simp[Rows.cedillaUniqueRow]) (by simp[Rows.cedillaUniqueRow]) (by simp[Rows.cedillaUniqueRow]) (by simp[Rows.cedillaUniqueRow]) hL hS,Nf.heads_of (by kernel_rfl) (by simp[Rows.cedillaUniqueRow]) hL⟩;have hW':=hW;obtain⟨p,q,hA0,hV,rfl,hfz,hnd⟩:=hW;have hA:DataW.TrodAll enc Tryz.prog W 0 (fun _=>true) true Tryz.f3.params.toList args.toList ds p:=hA0;rw[Tryz.params3]at hA hval;obtain⟨v0,vs0,d0,ds0,p0,q0,hargs,rfl,rfl,h0,r0⟩:=trodAll_cons hA;obtain⟨v1,vs1,d1,ds1,p1,q1,rfl,rfl,rfl,h1,r1⟩:=trodAll_cons r0;obtain⟨rfl,rfl,rfl⟩:=trodAll_nil r1;obtain rfl:args = #[v0,v1]:=by cases args;simp_all
 obtain⟨rfl,rfl⟩:=trodVars_none hV;have k0:=h0;have lt0:∀x∈p0,x.block<W.heap.size:=by obtain⟨m,hm⟩:=k0;exact DataW.trod_lt m _ _ _ hm
 obtain⟨A0,XA0,PA0,MA0,n0,c0,xn0,xc0,pn0,pc0,mn0,mc0,T00,E00,P0,M0,rfl,w0⟩:=Tx.open_text ((hval 0 27 v0 rfl rfl)) h0;obtain⟨a1,len1,cap1,rfl⟩:=okWide_slice Tryz.underlying23 (hval 1 23 v1 rfl rfl);have k1:=h1;have lt1:∀x∈p1,x.block<W.heap.size:=by obtain⟨m,hm⟩:=k1;exact DataW.trod_lt m _ _ _ hm
 obtain⟨z1,w1⟩:∃zs,IsRow .i64 W a1 len1 cap1 zs:=by
  obtain⟨fuel,hf⟩:=h1;rcases open_ints Tryz.underlying23 Tryz.underlying3 (by kernel_rfl) hf with ⟨hcs,_⟩|⟨x,l,c,zs,hcs,_,hl,hm,hz,_,hcell,hwz⟩
  · simp[Value.cells]at hcs;obtain⟨rfl,rfl,rfl⟩:=hcs;exact⟨[],.inl ⟨rfl,rfl,rfl,rfl⟩⟩
  simp[Value.cells]at hcs;obtain⟨rfl,rfl,rfl⟩:=hcs;exact⟨zs,.inr ⟨_,rfl,hl,hm,by simpa using hz,hcell,hwz⟩⟩
 clear hA0;refine (Tp.cedillaUnique_any W A0 XA0 PA0 MA0 n0 c0 xn0 xc0 pn0 pc0 mn0 mc0 T00 E00 P0 M0 w0 a1 len1 cap1 z1 w1 (fun c hc=>bounds_i64 (w1.wf c hc)) hHeads).mono fun e W' ⟨he,bel⟩=>?_
 subst he;exact⟨_,rfl,_,_,_,[],_,[],hW',trodAll_mk1 (shut_bool Tryz.underlying4 _),(trodAll_cons_mk (Below.trod laidOut (by kernel_rfl) (of_decide_eq_true (by kernel_rfl)) k0 bel lt0) (trodAll_cons_mk (Below.trod laidOut (by kernel_rfl) (of_decide_eq_true (by kernel_rfl)) k1 bel lt1) trodAll_mk0)),rfl,bel.frame _,fun h=>by cases h⟩
theorem cedillaUnique_reads (os:Os) {H:Type} (enc:TypeId × Value→H):∃places,DataW.whole enc Tryz.prog ((World.laidAll Tryz.prog os Rows.cedillaUniqueRow.laid).forCall (fun _ _=>0) ⟨#[],#[Value.agg #[.slice none 0 0,.slice none 0 0,.slice none 0 0,.slice none 0 0],Value.slice none 0 0],[]⟩).memory Tryz.f3.params.toList Rows.cedillaUniqueSpec.vars false (#[Value.agg #[.slice none 0 0,.slice none 0 0,.slice none 0 0,.slice none 0 0],Value.slice none 0 0]:Array Value).toList 8=some ([.agg [.agg [.nil,.nil],.nil,.nil],.nil],[],places) :=
 ⟨[],by kernel_rfl⟩
set_option maxRecDepth 100000 in
theorem cedillaUnique_lifted (os:Os) (started:os.Started) (H:Type) (enc:TypeId × Value→H) (F:Stop.Interp) :
 ReturnsInHanded {} Tryz.checked os 3 .any ((OpenSpec.ofChange Rows.cedillaUniqueSpec).preRow enc Tryz.prog Tryz.f3 Rows.cedillaUniqueRow.domain false Rows.cedillaUniqueRow.laid) (((OpenSpec.ofChange Rows.cedillaUniqueSpec).at F).post enc Tryz.prog Tryz.f3 false true false false):=by
 obtain⟨places,hx⟩:=cedillaUnique_reads os enc
 refine returnsInHanded_of_row (C:=Tryz.checked) (s:=OpenSpec.ofChange Rows.cedillaUniqueSpec) cedillaUnique_own started (by kernel_rfl) Tryz.func3
  (Fi.witness (enc:=enc) os #[Value.agg #[.slice none 0 0,.slice none 0 0,.slice none 0 0,.slice none 0 0],Value.slice none 0 0] (World.shaped_of_ZipB (by kernel_rfl) (by kernel_rfl)) (by kernel_rfl)
    (OpenSpec.preRow_of_cond 8 hx (by kernel_rfl) (fun k hk=>by cases hk) (by kernel_rfl) (by rw[MakeChecks.laidMetH_plain _ _ _ (by kernel_rfl)];exact laidMet_laidAll _ (by kernel_rfl) (by kernel_rfl)))) ?_
 intro W base args ds gs before hval hW _ _ _ hL hS _;exact cedillaUnique_contract H enc W base args ds gs before hval hW hL hS
theorem cedillaUnique_k1:(Rows.cedillaUniqueRow.inPlace == Tryz.pinned.checked.prog.inPlace 3)=true:=by kernel_rfl
theorem cedillaUnique_k2:(Rows.cedillaUniqueRow.unfollowed == Tryz.pinned.checked.prog.unfollowed 3)=true:=by kernel_rfl
theorem cedillaUnique_k3:(Rows.cedillaUniqueRow.recurses == Tryz.pinned.checked.prog.recurses 3)=true:=by kernel_rfl
theorem cedillaUnique_k4:(Rows.cedillaUniqueRow.named == Tryz.pinned.checked.prog.varsNamed 3)=true:=by kernel_rfl
theorem cedillaUnique_closed:joinedFacts Tryz.pinned.checked.prog 3 Tryz.f3 (OpenSpec.ofChange Rows.cedillaUniqueSpec).bare Rows.cedillaUniqueRow=true:=by
 unfold joinedFacts;rw[cedillaUnique_k1,cedillaUnique_k2,cedillaUnique_k3,cedillaUnique_k4];kernel_rfl
theorem cedillaUnique_said:Rows.CedillaUniqueSaid :=
 OpenClaim.holds_of_cond 3 Tryz.f3 rfl rfl rfl rfl rfl rfl rfl ⟨rfl,rfl,rfl,rfl,rfl⟩ rfl rfl rfl rfl rfl (by kernel_rfl) Tryz.func3 cedillaUnique_closed
  (of_decide_eq_true (by kernel_rfl)) (by unfold Func.isWrapper;first|(rw[if_pos (by decide +kernel)];kernel_rfl)|(rw[if_neg (by decide +kernel)];exact⟨rfl,rfl⟩))
  (fun os started H enc _ F=>by rw[OpenClaim.pre_eq_preRow];exact cedillaUnique_lifted os started H enc F)
theorem cedillaUnique_plain (f:FuncId) (fn:Func) (hf:Tryz.pinned.checked.prog.funcNamed Rows.cedillaUniqueRow.func=some f) (hfn:Tryz.pinned.checked.prog.funcs[f]?=some fn) :
 true=Tryz.pinned.checked.prog.looks []∧∀(j:Nat) t,fn.params[j]?=some t→Tryz.pinned.checked.prog.wantsStandIn t=false:=by
 obtain rfl:f=3:=Option.some.inj ((show Tryz.prog.funcNamed Rows.cedillaUniqueRow.func=some 3 by kernel_rfl).symm.trans hf) |>.symm
 obtain rfl:fn=Tryz.f3:=(Option.some.inj (Tryz.func3.symm.trans hfn)).symm;refine⟨by kernel_rfl,fun j t ht=>?_⟩;rw[Tryz.params3]at ht;have hm:t∈[27,23]:=by simpa using Array.mem_of_getElem? ht
 have hall:([27,23].all fun u=>!Tryz.prog.wantsStandIn u)=true:=by kernel_rfl
 exact (show Tryz.prog.wantsStandIn t=false by simpa using List.all_eq_true.1 hall t hm)
theorem CedillaUnique_card:Rows.CedillaUniqueCardSaid :=
 Claim7.holds_tied_plain_at .later [] _ _ _ _ cedillaUnique_said (fun _ h=>by cases h) (by kernel_rfl) (fun _ h=>by cases h) cedillaUnique_row_tie rfl ⟨rfl,rfl⟩ (by kernel_rfl) rfl cedillaUnique_plain (by kernel_rfl)
#print axioms CedillaUnique_card
end Go.Proofs.YtddbccflcekdpaaGreatDoor
