/- The card of the law NfdSteps: for every input it answers true, and the input reads as it did, where the library's listed variables are as its text lays them (the tie is given). No other condition. -/
import Derived.Test.YtikiplbhlohmdaaGreatDoorLwSteps
import Derived.Test.YtikiplbhlohmdaaGreatDoorHeadsOf
import Derived.Test.YtikiplbhlohmdaaGreatDoorCards
import Derived.Test.YtikiplbhlohmdaaGreatDoorTie
set_option linter.unusedVariables false
set_option linter.unusedSimpArgs false
namespace Go.Proofs.YtikiplbhlohmdaaGreatDoor
open Go.ChangeShapes Go.WideShapes Go.ChangeAt Go.RowKit
open Go.ChangeMaps (open_string shut_string)
set_option maxRecDepth 100000
theorem nfdSteps_own:ownKnob Tryz.prog.godebug=none:=by kernel_rfl
theorem nfdSteps_laidOut:laidOutB Tryz.prog=true:=by kernel_rfl
set_option maxRecDepth 100000 in
theorem nfdSteps_contract (H:Type) (enc:TypeId × Value→H) (W:World) (base:Nat) (args:Array Value) (ds gs:List (DataW H)) (before:List MemPlace)
 (hval:∀(j:Nat) t v,Tryz.f3.params[j]?=some t→args[j]?=some v→Value.okWide Tryz.prog W .any base t v)
 (hW:DataW.Whole enc Tryz.prog Tryz.f3.params.toList Rows.nfdStepsSpec.vars false W args.toList ds gs before) (hL:laidMetH Tryz.prog Rows.nfdStepsRow.laid W) (hS:W.ShapedOpen Tryz.prog) :
 Calls Tryz.prog 3 args W fun e W'=>∃v,e=.returned v∧Rows.nfdStepsSpec.post enc Tryz.prog Tryz.f3 false true false false W args v W':=by
 have laidOut:=nfdSteps_laidOut
 have aa:Nf.Laid W:=⟨Rw.laid_of (by kernel_rfl) (by simp[Rows.nfdStepsRow]) (by simp[Rows.nfdStepsRow]) (by simp[Rows.nfdStepsRow]) (by simp[Rows.nfdStepsRow]) hL hS,Nf.heads_of (by kernel_rfl) (by simp[Rows.nfdStepsRow]) hL⟩
 have ag:=hW
 obtain⟨p,q,ae,hV,rfl,ay,ba⟩:=hW
 have hA:DataW.TrodAll enc Tryz.prog W 0 (fun _=>true) true Tryz.f3.params.toList args.toList ds p:=ae
 rw[Tryz.params3]at hA hval
 obtain⟨v0,a6,d0,a8,p0,q0,af,rfl,rfl,h0,r0⟩:=Xp hA
 obtain⟨v1,az,d1,a7,p1,q1,rfl,rfl,rfl,h1,r1⟩:=Xp r0
 obtain⟨rfl,rfl,rfl⟩:=trodAll_nil r1
 obtain rfl:args = #[v0,v1]:=by cases args;simp_all
 obtain⟨rfl,rfl⟩:=trodVars_none hV
 have k0:=h0
 have ak:∀x∈p0,x.block<W.heap.size:=by obtain⟨m,hm⟩:=k0;exact DataW.trod_lt m _ _ _ hm
 obtain⟨A0,ai,au,ao,n0,c0,aw,aj,av,ah,ap,aq,ax,ar,P0,M0,rfl,w0⟩:=Tx.open_text ((hval 0 27 v0 rfl rfl)) h0
 obtain⟨a1,rfl,rfl,rfl,w1⟩:=open_int Tryz.underlying3 (hval 1 3 v1 rfl rfl) h1
 have b1:=bounds_i64 w1
 clear ae
 refine (Nf.nfdSteps_any W A0 ai au ao n0 c0 aw aj av ah ap aq ax ar P0 M0 w0 a1 b1.1 b1.2 aa).mono fun e W' ⟨he,bel⟩=>?_
 subst he
 exact⟨_,rfl,_,_,_,[],_,[],ag,trodAll_mk1 (shut_bool Tryz.underlying4 _),(trodAll_cons_mk (Below.trod laidOut (by kernel_rfl) (Yg (by kernel_rfl)) k0 bel ak) (trodAll_cons_mk (shut_int Tryz.underlying3 w1) trodAll_mk0)),rfl,bel.frame _,fun h=>by cases h⟩
theorem nfdSteps_reads (os:Os) {H:Type} (enc:TypeId × Value→H):∃places,DataW.whole enc Tryz.prog ((World.laidAll Tryz.prog os Rows.nfdStepsRow.laid).forCall (fun _ _=>0) ⟨#[],#[Value.agg #[.slice none 0 0,.slice none 0 0,.slice none 0 0,.slice none 0 0],Value.int .i64 0],[]⟩).memory Tryz.f3.params.toList Rows.nfdStepsSpec.vars false (#[Value.agg #[.slice none 0 0,.slice none 0 0,.slice none 0 0,.slice none 0 0],Value.int .i64 0]:Array Value).toList 8=some ([.agg [.agg [.nil,.nil],.nil,.nil],.lit (.int .i64 0)],[],places) :=
 ⟨[],by kernel_rfl⟩
set_option maxRecDepth 100000 in
theorem nfdSteps_lifted (os:Os) (started:os.Started) (H:Type) (enc:TypeId × Value→H) (F:Stop.Interp) :
 ReturnsInHanded {} Tryz.checked os 3 .any ((OpenSpec.ofChange Rows.nfdStepsSpec).preRow enc Tryz.prog Tryz.f3 Rows.nfdStepsRow.domain false Rows.nfdStepsRow.laid) (((OpenSpec.ofChange Rows.nfdStepsSpec).at F).post enc Tryz.prog Tryz.f3 false true false false):=by
 obtain⟨places,hx⟩:=nfdSteps_reads os enc
 refine returnsInHanded_of_row (C:=Tryz.checked) (s:=OpenSpec.ofChange Rows.nfdStepsSpec) nfdSteps_own started (by kernel_rfl) Tryz.func3
  (Fi.witness (enc:=enc) os #[Value.agg #[.slice none 0 0,.slice none 0 0,.slice none 0 0,.slice none 0 0],Value.int .i64 0] (World.shaped_of_ZipB (by kernel_rfl) (by kernel_rfl)) (by kernel_rfl)
    (OpenSpec.preRow_of_cond 8 hx (by kernel_rfl) (fun k hk=>by cases hk) (by kernel_rfl) (by rw[MakeChecks.laidMetH_plain _ _ _ (by kernel_rfl)];exact laidMet_laidAll _ (by kernel_rfl) (by kernel_rfl)))) ?_
 intro W base args ds gs before hval hW _ _ _ hL hS _
 exact nfdSteps_contract H enc W base args ds gs before hval hW hL hS
theorem nfdSteps_k1:(Rows.nfdStepsRow.inPlace == Tryz.pinned.checked.prog.inPlace 3)=true:=by kernel_rfl
theorem nfdSteps_k2:(Rows.nfdStepsRow.unfollowed == Tryz.pinned.checked.prog.unfollowed 3)=true:=by kernel_rfl
theorem nfdSteps_k3:(Rows.nfdStepsRow.recurses == Tryz.pinned.checked.prog.recurses 3)=true:=by kernel_rfl
theorem nfdSteps_k4:(Rows.nfdStepsRow.named == Tryz.pinned.checked.prog.varsNamed 3)=true:=by kernel_rfl
theorem nfdSteps_closed:joinedFacts Tryz.pinned.checked.prog 3 Tryz.f3 (OpenSpec.ofChange Rows.nfdStepsSpec).bare Rows.nfdStepsRow=true:=by
 unfold joinedFacts
 rw[nfdSteps_k1,nfdSteps_k2,nfdSteps_k3,nfdSteps_k4]
 kernel_rfl
theorem nfdSteps_said:Rows.NfdStepsSaid :=
 OpenClaim.holds_of_cond 3 Tryz.f3 rfl rfl rfl rfl rfl rfl rfl ⟨rfl,rfl,rfl,rfl,rfl⟩ rfl rfl rfl rfl rfl (by kernel_rfl) Tryz.func3 nfdSteps_closed
  (of_decide_eq_true (by kernel_rfl)) (by unfold Func.isWrapper;first|(rw[if_pos (by decide +kernel)];kernel_rfl)|(rw[if_neg (by decide +kernel)];exact⟨rfl,rfl⟩))
  (fun os started H enc _ F=>by rw[OpenClaim.pre_eq_preRow];exact nfdSteps_lifted os started H enc F)
theorem nfdSteps_plain (f:FuncId) (fn:Func) (hf:Tryz.pinned.checked.prog.funcNamed Rows.nfdStepsRow.func=some f) (ae:Tryz.pinned.checked.prog.funcs[f]?=some fn) :
 true=Tryz.pinned.checked.prog.looks []∧∀(j:Nat) t,fn.params[j]?=some t→Tryz.pinned.checked.prog.wantsStandIn t=false:=by
 obtain rfl:f=3:=ZU ((show Tryz.prog.funcNamed Rows.nfdStepsRow.func=some 3 by kernel_rfl).symm.trans hf) |>.symm
 obtain rfl:fn=Tryz.f3:=(ZU (Tryz.func3.symm.trans ae)).symm
 refine⟨by kernel_rfl,fun j t ht=>?_⟩
 rw[Tryz.params3]at ht
 have hm:t∈[27,3]:=by simpa using Array.mem_of_getElem? ht
 have aa:([27,3].all fun u=>!Tryz.prog.wantsStandIn u)=true:=by kernel_rfl
 exact (show Tryz.prog.wantsStandIn t=false by simpa using List.all_eq_true.1 aa t hm)
theorem NfdSteps_card:Rows.NfdStepsCardSaid :=
 Claim7.holds_tied_plain_at .later [] _ _ _ _ nfdSteps_said (fun _ h=>by cases h) (by kernel_rfl) (fun _ h=>by cases h) nfdSteps_row_tie rfl ⟨rfl,rfl⟩ (by kernel_rfl) rfl nfdSteps_plain (by kernel_rfl)
#print axioms NfdSteps_card
end Go.Proofs.YtikiplbhlohmdaaGreatDoor
