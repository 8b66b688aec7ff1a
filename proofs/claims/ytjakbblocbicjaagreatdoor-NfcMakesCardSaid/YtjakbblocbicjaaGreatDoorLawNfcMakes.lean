/- The card of the law NfcMakes: for every input it answers true, and the input reads as it did, where the library's listed variables are as its text lays them (the tie is given). No other condition. -/
import Derived.Test.YtjakbblocbicjaaGreatDoorLwMakes
import Derived.Test.YtjakbblocbicjaaGreatDoorHeadsOf
import Derived.Test.YtjakbblocbicjaaGreatDoorCards
import Derived.Test.YtjakbblocbicjaaGreatDoorTie
set_option maxRecDepth 100000
set_option linter.unusedVariables false
set_option linter.unusedSimpArgs false
namespace Go.Proofs.YtjakbblocbicjaaGreatDoor
open Go.Proofs.Tryz
open Go.ChangeShapes Go.WideShapes Go.ChangeAt Go.RowKit
open Go.ChangeMaps (open_string shut_string)
theorem nfcMakes_own:ownKnob prog.godebug=none:=by kernel_rfl
theorem nfcMakes_laidOut:laidOutB prog=true:=by kernel_rfl
theorem nfcMakes_contract (H:Type) (enc:TypeId × Value→H) (W:World) (base:Nat) (args:Array Value) (ds gs:List (DataW H)) (before:List MemPlace)
 (hval:∀(j:Nat) t v,Tryz.f11.params[j]?=some t→args[j]?=some v→Value.okWide prog W .any base t v)
 (hW:DataW.Whole enc prog Tryz.f11.params.toList Rows.nfcMakesSpec.vars false W args.toList ds gs before) (hL:laidMetH prog Rows.nfcMakesRow.laid W) (hS:W.ShapedOpen prog) :
 Calls prog 11 args W fun e W'=>∃v,e=.returned v∧Rows.nfcMakesSpec.post enc prog Tryz.f11 false true false false W args v W':=by
 have laidOut:=nfcMakes_laidOut;have aa:Nf.Laid W:=⟨Rw.laid_of (by kernel_rfl) (by simp[Rows.nfcMakesRow]) (by simp[Rows.nfcMakesRow]) (by simp[Rows.nfcMakesRow]) (by simp[Rows.nfcMakesRow]) hL hS,zOo (by kernel_rfl) (by simp[Rows.nfcMakesRow]) hL⟩;have ai:=hW;obtain⟨p,q,ae,hV,rfl,az,ay⟩:=hW;have hA:DataW.TrodAll enc prog W 0 (fun _=>true) true Tryz.f11.params.toList args.toList ds p:=ae;rw[Tryz.params11]at hA hval;obtain⟨v0,a1,d0,a6,p0,q0,af,rfl,rfl,h0,r0⟩:=trodAll_cons hA;obtain⟨rfl,rfl,rfl⟩:=trodAll_nil r0;obtain rfl:args = #[v0]:=by cases args;simp_all
 obtain⟨rfl,rfl⟩:=trodVars_none hV;have k0:=h0;have ar:∀x∈p0,x.block<W.heap.size:=by obtain⟨m,hm⟩:=k0;exact DataW.trod_lt m _ _ _ hm
 obtain⟨A0,ax,ap,ah,n0,c0,aj,au,ak,ag,aw,aq,ao,av,P0,M0,rfl,w0⟩:=zMS ((hval 0 27 v0 rfl rfl)) h0;clear ae;refine (zJq W A0 ax ap ah n0 c0 aj au ak ag aw aq ao av P0 M0 w0 aa).mono fun e W' ⟨he,bel⟩=>?_
 subst he;exact⟨_,rfl,_,_,_,[],_,[],ai,trodAll_mk1 (shut_bool underlying4 _),(trodAll_cons_mk (Below.trod laidOut (by kernel_rfl) (YM (by kernel_rfl)) k0 bel ar) trodAll_mk0),rfl,bel.frame _,fun h=>by cases h⟩
theorem nfcMakes_reads (os:Os) {H:Type} (enc:TypeId × Value→H):∃places,DataW.whole enc prog ((World.laidAll prog os Rows.nfcMakesRow.laid).forCall (fun _ _=>0) ⟨#[],#[Value.agg #[.slice none 0 0,.slice none 0 0,.slice none 0 0,.slice none 0 0]],[]⟩).memory Tryz.f11.params.toList Rows.nfcMakesSpec.vars false (#[Value.agg #[.slice none 0 0,.slice none 0 0,.slice none 0 0,.slice none 0 0]]:Array Value).toList 8=some ([.agg [.agg [.nil,.nil],.nil,.nil]],[],places) :=
 ⟨[],by kernel_rfl⟩
theorem nfcMakes_lifted (os:Os) (started:os.Started) (H:Type) (enc:TypeId × Value→H) (F:Stop.Interp) :
 ReturnsInHanded {} Tryz.checked os 11 .any ((OpenSpec.ofChange Rows.nfcMakesSpec).preRow enc prog Tryz.f11 Rows.nfcMakesRow.domain false Rows.nfcMakesRow.laid) (((OpenSpec.ofChange Rows.nfcMakesSpec).at F).post enc prog Tryz.f11 false true false false):=by
 obtain⟨places,hx⟩:=nfcMakes_reads os enc
 refine returnsInHanded_of_row (C:=Tryz.checked) (s:=OpenSpec.ofChange Rows.nfcMakesSpec) nfcMakes_own started (by kernel_rfl) func11
  (zPU (enc:=enc) os #[Value.agg #[.slice none 0 0,.slice none 0 0,.slice none 0 0,.slice none 0 0]] (World.shaped_of_ZipB (by kernel_rfl) (by kernel_rfl)) (by kernel_rfl)
    (OpenSpec.preRow_of_cond 8 hx (by kernel_rfl) (fun k hk=>by cases hk) (by kernel_rfl) (by rw[MakeChecks.laidMetH_plain _ _ _ (by kernel_rfl)];exact laidMet_laidAll _ (by kernel_rfl) (by kernel_rfl)))) ?_
 intro W base args ds gs before hval hW _ _ _ hL hS _;exact nfcMakes_contract H enc W base args ds gs before hval hW hL hS
theorem nfcMakes_k1:(Rows.nfcMakesRow.inPlace == Tryz.pinned.checked.prog.inPlace 11)=true:=by kernel_rfl
theorem nfcMakes_k2:(Rows.nfcMakesRow.unfollowed == Tryz.pinned.checked.prog.unfollowed 11)=true:=by kernel_rfl
theorem nfcMakes_k3:(Rows.nfcMakesRow.recurses == Tryz.pinned.checked.prog.recurses 11)=true:=by kernel_rfl
theorem nfcMakes_k4:(Rows.nfcMakesRow.named == Tryz.pinned.checked.prog.varsNamed 11)=true:=by kernel_rfl
theorem nfcMakes_closed:joinedFacts Tryz.pinned.checked.prog 11 Tryz.f11 (OpenSpec.ofChange Rows.nfcMakesSpec).bare Rows.nfcMakesRow=true:=by
 unfold joinedFacts;rw[nfcMakes_k1,nfcMakes_k2,nfcMakes_k3,nfcMakes_k4];kernel_rfl
theorem nfcMakes_said:Rows.NfcMakesSaid :=
 OpenClaim.holds_of_cond 11 Tryz.f11 rfl rfl rfl rfl rfl rfl rfl ⟨rfl,rfl,rfl,rfl,rfl⟩ rfl rfl rfl rfl rfl (by kernel_rfl) func11 nfcMakes_closed
  (of_decide_eq_true (by kernel_rfl)) (by unfold Func.isWrapper;first|(rw[if_pos (by decide +kernel)];kernel_rfl)|(rw[if_neg (by decide +kernel)];exact⟨rfl,rfl⟩))
  (fun os started H enc _ F=>by rw[OpenClaim.pre_eq_preRow];exact nfcMakes_lifted os started H enc F)
theorem nfcMakes_plain (f:FuncId) (fn:Func) (hf:Tryz.pinned.checked.prog.funcNamed Rows.nfcMakesRow.func=some f) (ae:Tryz.pinned.checked.prog.funcs[f]?=some fn) :
 true=Tryz.pinned.checked.prog.looks []∧∀(j:Nat) t,fn.params[j]?=some t→Tryz.pinned.checked.prog.wantsStandIn t=false:=by
 obtain rfl:f=11:=Yg ((show prog.funcNamed Rows.nfcMakesRow.func=some 11 by kernel_rfl).symm.trans hf) |>.symm
 obtain rfl:fn=Tryz.f11:=(Yg (func11.symm.trans ae)).symm;refine⟨by kernel_rfl,fun j t ht=>?_⟩;rw[Tryz.params11]at ht;have hm:t∈[27]:=by simpa using Array.mem_of_getElem? ht
 have aa:([27].all fun u=>!prog.wantsStandIn u)=true:=by kernel_rfl
 exact (show prog.wantsStandIn t=false by simpa using List.all_eq_true.1 aa t hm)
theorem NfcMakes_card:Rows.NfcMakesCardSaid :=
 Claim7.holds_tied_plain_at .later [] _ _ _ _ nfcMakes_said (fun _ h=>by cases h) (by kernel_rfl) (fun _ h=>by cases h) nfcMakes_row_tie rfl ⟨rfl,rfl⟩ (by kernel_rfl) rfl nfcMakes_plain (by kernel_rfl)
#print axioms NfcMakes_card
end Go.Proofs.YtjakbblocbicjaaGreatDoor
