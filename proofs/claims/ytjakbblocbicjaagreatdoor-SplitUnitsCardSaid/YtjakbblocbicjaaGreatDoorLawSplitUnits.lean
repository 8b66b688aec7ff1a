/- The card of the law SplitUnits: for every input it answers true, and the input reads as it did, where the library's listed variables are as its text lays them (the tie is given). No other condition. -/
import Derived.Test.YtjakbblocbicjaaGreatDoorLwSUnits
import Derived.Test.YtjakbblocbicjaaGreatDoorHeadsOf
import Derived.Test.YtjakbblocbicjaaGreatDoorNfLaw
import Derived.Test.YtjakbblocbicjaaGreatDoorCards
import Derived.Test.YtjakbblocbicjaaGreatDoorTie
import Derived.ShutString
import Derived.ChangeOld
namespace Go.Proofs.YtjakbblocbicjaaGreatDoor
open Go.ChangeShapes Go.WideShapes Go.ChangeAt Go.RowKit
open Go.ChangeMaps (open_string shut_string)
set_option linter.unusedVariables false
set_option maxRecDepth 100000
theorem splitUnits_own:ownKnob Tryz.prog.godebug=none:=by kernel_rfl
theorem splitUnits_laidOut:laidOutB Tryz.prog=true:=by kernel_rfl
set_option maxRecDepth 100000 in
theorem splitUnits_contract (H:Type) (enc:TypeId × Value→H) (W:World) (base:Nat) (args:Array Value) (ds gs:List (DataW H)) (before:List MemPlace)
 (hval:∀(j:Nat) t v,Tryz.f3.params[j]?=some t→args[j]?=some v→Value.okWide Tryz.prog W .any base t v)
 (hW:DataW.Whole enc Tryz.prog Tryz.f3.params.toList Rows.splitUnitsSpec.vars false W args.toList ds gs before) (hL:laidMetH Tryz.prog Rows.splitUnitsRow.laid W) (hS:W.ShapedOpen Tryz.prog) :
 Calls Tryz.prog 3 args W fun e W'=>∃v,e=.returned v∧Rows.splitUnitsSpec.post enc Tryz.prog Tryz.f3 false true false false W args v W':=by
 have laidOut:=splitUnits_laidOut;have hHeads:Nf.Laid W:=⟨Rw.laid_of (by kernel_rfl) (by simp[Rows.splitUnitsRow]) (by simp[Rows.splitUnitsRow]) (by simp[Rows.splitUnitsRow]) (by simp[Rows.splitUnitsRow]) hL hS,zOo (by kernel_rfl) (by simp[Rows.splitUnitsRow]) hL⟩;have hW':=hW;obtain⟨p,q,hA0,hV,rfl,hfz,hnd⟩:=hW;have hA:DataW.TrodAll enc Tryz.prog W 0 (fun _=>true) true Tryz.f3.params.toList args.toList ds p:=hA0;rw[Tryz.params3]at hA hval;obtain⟨v0,vs0,d0,ds0,p0,q0,hargs,rfl,rfl,h0,r0⟩:=trodAll_cons hA;obtain⟨rfl,rfl,rfl⟩:=trodAll_nil r0;obtain rfl:args = #[v0]:=by cases args;simp_all
 obtain⟨rfl,rfl⟩:=trodVars_none hV;have k0:=h0;have lt0:∀x∈p0,x.block<W.heap.size:=by obtain⟨m,hm⟩:=k0;exact DataW.trod_lt m _ _ _ hm
 obtain⟨A0,XA0,PA0,MA0,n0,c0,xn0,xc0,pn0,pc0,mn0,mc0,T00,E00,P0,M0,rfl,w0⟩:=zMS ((hval 0 27 v0 rfl rfl)) h0;clear hA0;refine (Sp.splitUnits_any W A0 XA0 PA0 MA0 n0 c0 xn0 xc0 pn0 pc0 mn0 mc0 T00 E00 P0 M0 w0 hHeads).mono fun e W' ⟨he,bel⟩=>?_
 subst he;exact⟨_,rfl,_,_,_,[],_,[],hW',trodAll_mk1 (shut_bool Tryz.underlying4 _),(trodAll_cons_mk (Below.trod laidOut (by kernel_rfl) (of_decide_eq_true (by kernel_rfl)) k0 bel lt0) trodAll_mk0),rfl,bel.frame _,fun h=>by cases h⟩
theorem splitUnits_reads (os:Os) {H:Type} (enc:TypeId × Value→H):∃places,DataW.whole enc Tryz.prog ((World.laidAll Tryz.prog os Rows.splitUnitsRow.laid).forCall (fun _ _=>0) ⟨#[],#[Value.agg #[.slice none 0 0,.slice none 0 0,.slice none 0 0,.slice none 0 0]],[]⟩).memory Tryz.f3.params.toList Rows.splitUnitsSpec.vars false (#[Value.agg #[.slice none 0 0,.slice none 0 0,.slice none 0 0,.slice none 0 0]]:Array Value).toList 8=some ([.agg [.agg [.nil,.nil],.nil,.nil]],[],places) :=
 ⟨[],by kernel_rfl⟩
set_option maxRecDepth 100000 in
theorem splitUnits_lifted (os:Os) (started:os.Started) (H:Type) (enc:TypeId × Value→H) (F:Stop.Interp) :
 ReturnsInHanded {} Tryz.checked os 3 .any ((OpenSpec.ofChange Rows.splitUnitsSpec).preRow enc Tryz.prog Tryz.f3 Rows.splitUnitsRow.domain false Rows.splitUnitsRow.laid) (((OpenSpec.ofChange Rows.splitUnitsSpec).at F).post enc Tryz.prog Tryz.f3 false true false false):=by
 obtain⟨places,hx⟩:=splitUnits_reads os enc
 refine returnsInHanded_of_row (C:=Tryz.checked) (s:=OpenSpec.ofChange Rows.splitUnitsSpec) splitUnits_own started (by kernel_rfl) Tryz.func3
  (zPU (enc:=enc) os #[Value.agg #[.slice none 0 0,.slice none 0 0,.slice none 0 0,.slice none 0 0]] (World.shaped_of_ZipB (by kernel_rfl) (by kernel_rfl)) (by kernel_rfl)
    (OpenSpec.preRow_of_cond 8 hx (by kernel_rfl) (fun k hk=>by cases hk) (by kernel_rfl) (by rw[MakeChecks.laidMetH_plain _ _ _ (by kernel_rfl)];exact laidMet_laidAll _ (by kernel_rfl) (by kernel_rfl)))) ?_
 intro W base args ds gs before hval hW _ _ _ hL hS _;exact splitUnits_contract H enc W base args ds gs before hval hW hL hS
theorem splitUnits_k1:(Rows.splitUnitsRow.inPlace == Tryz.pinned.checked.prog.inPlace 3)=true:=by kernel_rfl
theorem splitUnits_k2:(Rows.splitUnitsRow.unfollowed == Tryz.pinned.checked.prog.unfollowed 3)=true:=by kernel_rfl
theorem splitUnits_k3:(Rows.splitUnitsRow.recurses == Tryz.pinned.checked.prog.recurses 3)=true:=by kernel_rfl
theorem splitUnits_k4:(Rows.splitUnitsRow.named == Tryz.pinned.checked.prog.varsNamed 3)=true:=by kernel_rfl
theorem splitUnits_closed:joinedFacts Tryz.pinned.checked.prog 3 Tryz.f3 (OpenSpec.ofChange Rows.splitUnitsSpec).bare Rows.splitUnitsRow=true:=by
 unfold joinedFacts;rw[splitUnits_k1,splitUnits_k2,splitUnits_k3,splitUnits_k4];kernel_rfl
theorem splitUnits_said:Rows.SplitUnitsSaid :=
 OpenClaim.holds_of_cond 3 Tryz.f3 rfl rfl rfl rfl rfl rfl rfl ⟨rfl,rfl,rfl,rfl,rfl⟩ rfl rfl rfl rfl rfl (by kernel_rfl) Tryz.func3 splitUnits_closed
  (of_decide_eq_true (by kernel_rfl)) (by unfold Func.isWrapper;first|(rw[if_pos (by decide +kernel)];kernel_rfl)|(rw[if_neg (by decide +kernel)];exact⟨rfl,rfl⟩))
  (fun os started H enc _ F=>by rw[OpenClaim.pre_eq_preRow];exact splitUnits_lifted os started H enc F)
theorem splitUnits_plain (f:FuncId) (fn:Func) (hf:Tryz.pinned.checked.prog.funcNamed Rows.splitUnitsRow.func=some f) (hfn:Tryz.pinned.checked.prog.funcs[f]?=some fn) :
 true=Tryz.pinned.checked.prog.looks []∧∀(j:Nat) t,fn.params[j]?=some t→Tryz.pinned.checked.prog.wantsStandIn t=false:=by
 obtain rfl:f=3:=Option.some.inj ((show Tryz.prog.funcNamed Rows.splitUnitsRow.func=some 3 by kernel_rfl).symm.trans hf) |>.symm
 obtain rfl:fn=Tryz.f3:=(Option.some.inj (Tryz.func3.symm.trans hfn)).symm;refine⟨by kernel_rfl,fun j t ht=>?_⟩;rw[Tryz.params3]at ht;have hm:t∈[27]:=by simpa using Array.mem_of_getElem? ht
 have hall:([27].all fun u=>!Tryz.prog.wantsStandIn u)=true:=by kernel_rfl
 exact (show Tryz.prog.wantsStandIn t=false by simpa using List.all_eq_true.1 hall t hm)
theorem SplitUnits_card:Rows.SplitUnitsCardSaid :=
 Claim7.holds_tied_plain_at .later [] _ _ _ _ splitUnits_said (fun _ h=>by cases h) (by kernel_rfl) (fun _ h=>by cases h) splitUnits_row_tie rfl ⟨rfl,rfl⟩ (by kernel_rfl) rfl splitUnits_plain (by kernel_rfl)
#print axioms SplitUnits_card
end Go.Proofs.YtjakbblocbicjaaGreatDoor
