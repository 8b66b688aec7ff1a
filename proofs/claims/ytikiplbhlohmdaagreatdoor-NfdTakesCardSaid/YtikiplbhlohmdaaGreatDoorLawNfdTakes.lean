/- The card of the law NfdTakes: for every input it answers true, and the input reads as it did, where the library's listed variables are as its text lays them (the tie is given). No other condition. -/
import Derived.Test.YtikiplbhlohmdaaGreatDoorLwTakes
import Derived.Test.YtikiplbhlohmdaaGreatDoorHeadsOf
import Derived.Test.YtikiplbhlohmdaaGreatDoorCards
import Derived.Test.YtikiplbhlohmdaaGreatDoorTie
set_option linter.unusedVariables false
set_option linter.unusedSimpArgs false
namespace Go.Proofs.YtikiplbhlohmdaaGreatDoor
open Go.ChangeShapes Go.WideShapes Go.ChangeAt Go.RowKit
open Go.ChangeMaps (open_string shut_string)
set_option maxRecDepth 100000
theorem nfdTakes_own:ownKnob Tryz.prog.godebug=none:=by kernel_rfl
theorem nfdTakes_laidOut:laidOutB Tryz.prog=true:=by kernel_rfl
set_option maxRecDepth 100000 in
theorem nfdTakes_contract (H:Type) (enc:TypeId × Value→H) (W:World) (base:Nat) (args:Array Value) (ds gs:List (DataW H)) (before:List MemPlace)
 (hval:∀(j:Nat) t v,Tryz.f7.params[j]?=some t→args[j]?=some v→Value.okWide Tryz.prog W .any base t v)
 (hW:DataW.Whole enc Tryz.prog Tryz.f7.params.toList Rows.nfdTakesSpec.vars false W args.toList ds gs before) (hL:laidMetH Tryz.prog Rows.nfdTakesRow.laid W) (hS:W.ShapedOpen Tryz.prog) :
 Calls Tryz.prog 7 args W fun e W'=>∃v,e=.returned v∧Rows.nfdTakesSpec.post enc Tryz.prog Tryz.f7 false true false false W args v W':=by
 have laidOut:=nfdTakes_laidOut
 have aa:Nf.Laid W:=⟨Rw.laid_of (by kernel_rfl) (by simp[Rows.nfdTakesRow]) (by simp[Rows.nfdTakesRow]) (by simp[Rows.nfdTakesRow]) (by simp[Rows.nfdTakesRow]) hL hS,Nf.heads_of (by kernel_rfl) (by simp[Rows.nfdTakesRow]) hL⟩
 have ag:=hW
 obtain⟨p,q,ae,hV,rfl,ay,a6⟩:=hW
 have hA:DataW.TrodAll enc Tryz.prog W 0 (fun _=>true) true Tryz.f7.params.toList args.toList ds p:=ae
 rw[Tryz.params7]at hA hval
 obtain⟨v0,az,d0,a1,p0,q0,af,rfl,rfl,h0,r0⟩:=Xp hA
 obtain⟨rfl,rfl,rfl⟩:=trodAll_nil r0
 obtain rfl:args = #[v0]:=by cases args;simp_all
 obtain⟨rfl,rfl⟩:=trodVars_none hV
 have k0:=h0
 have ak:∀x∈p0,x.block<W.heap.size:=by obtain⟨m,hm⟩:=k0;exact DataW.trod_lt m _ _ _ hm
 obtain⟨A0,ai,au,ao,n0,c0,aw,aj,av,ah,ap,aq,ax,ar,P0,M0,rfl,w0⟩:=Tx.open_text ((hval 0 27 v0 rfl rfl)) h0
 clear ae
 refine (Nf.nfdTakes_any W A0 ai au ao n0 c0 aw aj av ah ap aq ax ar P0 M0 w0 aa).mono fun e W' ⟨he,bel⟩=>?_
 subst he
 exact⟨_,rfl,_,_,_,[],_,[],ag,trodAll_mk1 (shut_bool Tryz.underlying4 _),(trodAll_cons_mk (Below.trod laidOut (by kernel_rfl) (Yg (by kernel_rfl)) k0 bel ak) trodAll_mk0),rfl,bel.frame _,fun h=>by cases h⟩
theorem nfdTakes_reads (os:Os) {H:Type} (enc:TypeId × Value→H):∃places,DataW.whole enc Tryz.prog ((World.laidAll Tryz.prog os Rows.nfdTakesRow.laid).forCall (fun _ _=>0) ⟨#[],#[Value.agg #[.slice none 0 0,.slice none 0 0,.slice none 0 0,.slice none 0 0]],[]⟩).memory Tryz.f7.params.toList Rows.nfdTakesSpec.vars false (#[Value.agg #[.slice none 0 0,.slice none 0 0,.slice none 0 0,.slice none 0 0]]:Array Value).toList 8=some ([.agg [.agg [.nil,.nil],.nil,.nil]],[],places) :=
 ⟨[],by kernel_rfl⟩
set_option maxRecDepth 100000 in
theorem nfdTakes_lifted (os:Os) (started:os.Started) (H:Type) (enc:TypeId × Value→H) (F:Stop.Interp) :
 ReturnsInHanded {} Tryz.checked os 7 .any ((OpenSpec.ofChange Rows.nfdTakesSpec).preRow enc Tryz.prog Tryz.f7 Rows.nfdTakesRow.domain false Rows.nfdTakesRow.laid) (((OpenSpec.ofChange Rows.nfdTakesSpec).at F).post enc Tryz.prog Tryz.f7 false true false false):=by
 obtain⟨places,hx⟩:=nfdTakes_reads os enc
 refine returnsInHanded_of_row (C:=Tryz.checked) (s:=OpenSpec.ofChange Rows.nfdTakesSpec) nfdTakes_own started (by kernel_rfl) Tryz.func7
  (Fi.witness (enc:=enc) os #[Value.agg #[.slice none 0 0,.slice none 0 0,.slice none 0 0,.slice none 0 0]] (World.shaped_of_ZipB (by kernel_rfl) (by kernel_rfl)) (by kernel_rfl)
    (OpenSpec.preRow_of_cond 8 hx (by kernel_rfl) (fun k hk=>by cases hk) (by kernel_rfl) (by rw[MakeChecks.laidMetH_plain _ _ _ (by kernel_rfl)];exact laidMet_laidAll _ (by kernel_rfl) (by kernel_rfl)))) ?_
 intro W base args ds gs before hval hW _ _ _ hL hS _
 exact nfdTakes_contract H enc W base args ds gs before hval hW hL hS
theorem nfdTakes_k1:(Rows.nfdTakesRow.inPlace == Tryz.pinned.checked.prog.inPlace 7)=true:=by kernel_rfl
theorem nfdTakes_k2:(Rows.nfdTakesRow.unfollowed == Tryz.pinned.checked.prog.unfollowed 7)=true:=by kernel_rfl
theorem nfdTakes_k3:(Rows.nfdTakesRow.recurses == Tryz.pinned.checked.prog.recurses 7)=true:=by kernel_rfl
theorem nfdTakes_k4:(Rows.nfdTakesRow.named == Tryz.pinned.checked.prog.varsNamed 7)=true:=by kernel_rfl
theorem nfdTakes_closed:joinedFacts Tryz.pinned.checked.prog 7 Tryz.f7 (OpenSpec.ofChange Rows.nfdTakesSpec).bare Rows.nfdTakesRow=true:=by
 unfold joinedFacts
 rw[nfdTakes_k1,nfdTakes_k2,nfdTakes_k3,nfdTakes_k4]
 kernel_rfl
theorem nfdTakes_said:Rows.NfdTakesSaid :=
 OpenClaim.holds_of_cond 7 Tryz.f7 rfl rfl rfl rfl rfl rfl rfl ⟨rfl,rfl,rfl,rfl,rfl⟩ rfl rfl rfl rfl rfl (by kernel_rfl) Tryz.func7 nfdTakes_closed
  (of_decide_eq_true (by kernel_rfl)) (by unfold Func.isWrapper;first|(rw[if_pos (by decide +kernel)];kernel_rfl)|(rw[if_neg (by decide +kernel)];exact⟨rfl,rfl⟩))
  (fun os started H enc _ F=>by rw[OpenClaim.pre_eq_preRow];exact nfdTakes_lifted os started H enc F)
theorem nfdTakes_plain (f:FuncId) (fn:Func) (hf:Tryz.pinned.checked.prog.funcNamed Rows.nfdTakesRow.func=some f) (ae:Tryz.pinned.checked.prog.funcs[f]?=some fn) :
 true=Tryz.pinned.checked.prog.looks []∧∀(j:Nat) t,fn.params[j]?=some t→Tryz.pinned.checked.prog.wantsStandIn t=false:=by
 obtain rfl:f=7:=ZU ((show Tryz.prog.funcNamed Rows.nfdTakesRow.func=some 7 by kernel_rfl).symm.trans hf) |>.symm
 obtain rfl:fn=Tryz.f7:=(ZU (Tryz.func7.symm.trans ae)).symm
 refine⟨by kernel_rfl,fun j t ht=>?_⟩
 rw[Tryz.params7]at ht
 have hm:t∈[27]:=by simpa using Array.mem_of_getElem? ht
 have aa:([27].all fun u=>!Tryz.prog.wantsStandIn u)=true:=by kernel_rfl
 exact (show Tryz.prog.wantsStandIn t=false by simpa using List.all_eq_true.1 aa t hm)
theorem NfdTakes_card:Rows.NfdTakesCardSaid :=
 Claim7.holds_tied_plain_at .later [] _ _ _ _ nfdTakes_said (fun _ h=>by cases h) (by kernel_rfl) (fun _ h=>by cases h) nfdTakes_row_tie rfl ⟨rfl,rfl⟩ (by kernel_rfl) rfl nfdTakes_plain (by kernel_rfl)
#print axioms NfdTakes_card
end Go.Proofs.YtikiplbhlohmdaaGreatDoor
