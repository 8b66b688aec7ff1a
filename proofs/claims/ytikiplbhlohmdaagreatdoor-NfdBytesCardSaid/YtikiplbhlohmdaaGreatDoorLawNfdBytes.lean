/- The card of the law NfdBytes: for every input it answers true, and the input reads as it did, where the library's listed variables are as its text lays them (the tie is given). No other condition. -/
import Derived.Test.YtikiplbhlohmdaaGreatDoorLwBytes
import Derived.Test.YtikiplbhlohmdaaGreatDoorHeadsOf
import Derived.Test.YtikiplbhlohmdaaGreatDoorCards
import Derived.Test.YtikiplbhlohmdaaGreatDoorTie
set_option linter.unusedVariables false
set_option linter.unusedSimpArgs false
namespace Go.Proofs.YtikiplbhlohmdaaGreatDoor
open Go.ChangeShapes Go.WideShapes Go.ChangeAt Go.RowKit
open Go.ChangeMaps (open_string shut_string)
set_option maxRecDepth 100000
theorem nfdBytes_own:ownKnob Tryz.prog.godebug=none:=by kernel_rfl
theorem nfdBytes_laidOut:laidOutB Tryz.prog=true:=by kernel_rfl
set_option maxRecDepth 100000 in
theorem nfdBytes_contract (H:Type) (enc:TypeId × Value→H) (W:World) (base:Nat) (args:Array Value) (ds gs:List (DataW H)) (before:List MemPlace)
 (hval:∀(j:Nat) t v,Tryz.f4.params[j]?=some t→args[j]?=some v→Value.okWide Tryz.prog W .any base t v)
 (hW:DataW.Whole enc Tryz.prog Tryz.f4.params.toList Rows.nfdBytesSpec.vars false W args.toList ds gs before) (hL:laidMetH Tryz.prog Rows.nfdBytesRow.laid W) (hS:W.ShapedOpen Tryz.prog) :
 Calls Tryz.prog 4 args W fun e W'=>∃v,e=.returned v∧Rows.nfdBytesSpec.post enc Tryz.prog Tryz.f4 false true false false W args v W':=by
 have laidOut:=nfdBytes_laidOut
 have aa:Nf.Laid W:=⟨Rw.laid_of (by kernel_rfl) (by simp[Rows.nfdBytesRow]) (by simp[Rows.nfdBytesRow]) (by simp[Rows.nfdBytesRow]) (by simp[Rows.nfdBytesRow]) hL hS,Nf.heads_of (by kernel_rfl) (by simp[Rows.nfdBytesRow]) hL⟩
 have ag:=hW
 obtain⟨p,q,ae,hV,rfl,ay,ba⟩:=hW
 have hA:DataW.TrodAll enc Tryz.prog W 0 (fun _=>true) true Tryz.f4.params.toList args.toList ds p:=ae
 rw[Tryz.params4]at hA hval
 obtain⟨v0,a6,d0,a8,p0,q0,af,rfl,rfl,h0,r0⟩:=Xp hA
 obtain⟨v1,az,d1,a7,p1,q1,rfl,rfl,rfl,h1,r1⟩:=Xp r0
 obtain⟨rfl,rfl,rfl⟩:=trodAll_nil r1
 obtain rfl:args = #[v0,v1]:=by cases args;simp_all
 obtain⟨rfl,rfl⟩:=trodVars_none hV
 have k0:=h0
 have ak:∀x∈p0,x.block<W.heap.size:=by obtain⟨m,hm⟩:=k0;exact DataW.trod_lt m _ _ _ hm
 obtain⟨A0,ai,au,ao,n0,c0,aw,aj,av,ah,ap,aq,ax,ar,P0,M0,rfl,w0⟩:=Tx.open_text ((hval 0 27 v0 rfl rfl)) h0
 obtain⟨a1,rfl,rfl,rfl,w1⟩:=open_string Tryz.underlying9 (hval 1 9 v1 rfl rfl) h1
 clear ae
 refine (Nf.nfdBytes_any W A0 ai au ao n0 c0 aw aj av ah ap aq ax ar P0 M0 w0 a1 w1 aa).mono fun e W' ⟨he,bel⟩=>?_
 subst he
 exact⟨_,rfl,_,_,_,[],_,[],ag,trodAll_mk1 (shut_bool Tryz.underlying4 _),(trodAll_cons_mk (Below.trod laidOut (by kernel_rfl) (Yg (by kernel_rfl)) k0 bel ak) (trodAll_cons_mk (shut_string Tryz.underlying9 w1) trodAll_mk0)),rfl,bel.frame _,fun h=>by cases h⟩
theorem nfdBytes_reads (os:Os) {H:Type} (enc:TypeId × Value→H):∃places,DataW.whole enc Tryz.prog ((World.laidAll Tryz.prog os Rows.nfdBytesRow.laid).forCall (fun _ _=>0) ⟨#[],#[Value.agg #[.slice none 0 0,.slice none 0 0,.slice none 0 0,.slice none 0 0],Value.string ⟨#[]⟩],[]⟩).memory Tryz.f4.params.toList Rows.nfdBytesSpec.vars false (#[Value.agg #[.slice none 0 0,.slice none 0 0,.slice none 0 0,.slice none 0 0],Value.string ⟨#[]⟩]:Array Value).toList 8=some ([.agg [.agg [.nil,.nil],.nil,.nil],.lit (.string [])],[],places) :=
 ⟨[],by kernel_rfl⟩
set_option maxRecDepth 100000 in
theorem nfdBytes_lifted (os:Os) (started:os.Started) (H:Type) (enc:TypeId × Value→H) (F:Stop.Interp) :
 ReturnsInHanded {} Tryz.checked os 4 .any ((OpenSpec.ofChange Rows.nfdBytesSpec).preRow enc Tryz.prog Tryz.f4 Rows.nfdBytesRow.domain false Rows.nfdBytesRow.laid) (((OpenSpec.ofChange Rows.nfdBytesSpec).at F).post enc Tryz.prog Tryz.f4 false true false false):=by
 obtain⟨places,hx⟩:=nfdBytes_reads os enc
 refine returnsInHanded_of_row (C:=Tryz.checked) (s:=OpenSpec.ofChange Rows.nfdBytesSpec) nfdBytes_own started (by kernel_rfl) Tryz.func4
  (Fi.witness (enc:=enc) os #[Value.agg #[.slice none 0 0,.slice none 0 0,.slice none 0 0,.slice none 0 0],Value.string ⟨#[]⟩] (World.shaped_of_ZipB (by kernel_rfl) (by kernel_rfl)) (by kernel_rfl)
    (OpenSpec.preRow_of_cond 8 hx (by kernel_rfl) (fun k hk=>by cases hk) (by kernel_rfl) (by rw[MakeChecks.laidMetH_plain _ _ _ (by kernel_rfl)];exact laidMet_laidAll _ (by kernel_rfl) (by kernel_rfl)))) ?_
 intro W base args ds gs before hval hW _ _ _ hL hS _
 exact nfdBytes_contract H enc W base args ds gs before hval hW hL hS
theorem nfdBytes_k1:(Rows.nfdBytesRow.inPlace == Tryz.pinned.checked.prog.inPlace 4)=true:=by kernel_rfl
theorem nfdBytes_k2:(Rows.nfdBytesRow.unfollowed == Tryz.pinned.checked.prog.unfollowed 4)=true:=by kernel_rfl
theorem nfdBytes_k3:(Rows.nfdBytesRow.recurses == Tryz.pinned.checked.prog.recurses 4)=true:=by kernel_rfl
theorem nfdBytes_k4:(Rows.nfdBytesRow.named == Tryz.pinned.checked.prog.varsNamed 4)=true:=by kernel_rfl
theorem nfdBytes_closed:joinedFacts Tryz.pinned.checked.prog 4 Tryz.f4 (OpenSpec.ofChange Rows.nfdBytesSpec).bare Rows.nfdBytesRow=true:=by
 unfold joinedFacts
 rw[nfdBytes_k1,nfdBytes_k2,nfdBytes_k3,nfdBytes_k4]
 kernel_rfl
theorem nfdBytes_said:Rows.NfdBytesSaid :=
 OpenClaim.holds_of_cond 4 Tryz.f4 rfl rfl rfl rfl rfl rfl rfl ⟨rfl,rfl,rfl,rfl,rfl⟩ rfl rfl rfl rfl rfl (by kernel_rfl) Tryz.func4 nfdBytes_closed
  (of_decide_eq_true (by kernel_rfl)) (by unfold Func.isWrapper;first|(rw[if_pos (by decide +kernel)];kernel_rfl)|(rw[if_neg (by decide +kernel)];exact⟨rfl,rfl⟩))
  (fun os started H enc _ F=>by rw[OpenClaim.pre_eq_preRow];exact nfdBytes_lifted os started H enc F)
theorem nfdBytes_plain (f:FuncId) (fn:Func) (hf:Tryz.pinned.checked.prog.funcNamed Rows.nfdBytesRow.func=some f) (ae:Tryz.pinned.checked.prog.funcs[f]?=some fn) :
 true=Tryz.pinned.checked.prog.looks []∧∀(j:Nat) t,fn.params[j]?=some t→Tryz.pinned.checked.prog.wantsStandIn t=false:=by
 obtain rfl:f=4:=ZU ((show Tryz.prog.funcNamed Rows.nfdBytesRow.func=some 4 by kernel_rfl).symm.trans hf) |>.symm
 obtain rfl:fn=Tryz.f4:=(ZU (Tryz.func4.symm.trans ae)).symm
 refine⟨by kernel_rfl,fun j t ht=>?_⟩
 rw[Tryz.params4]at ht
 have hm:t∈[27,9]:=by simpa using Array.mem_of_getElem? ht
 have aa:([27,9].all fun u=>!Tryz.prog.wantsStandIn u)=true:=by kernel_rfl
 exact (show Tryz.prog.wantsStandIn t=false by simpa using List.all_eq_true.1 aa t hm)
theorem NfdBytes_card:Rows.NfdBytesCardSaid :=
 Claim7.holds_tied_plain_at .later [] _ _ _ _ nfdBytes_said (fun _ h=>by cases h) (by kernel_rfl) (fun _ h=>by cases h) nfdBytes_row_tie rfl ⟨rfl,rfl⟩ (by kernel_rfl) rfl nfdBytes_plain (by kernel_rfl)
#print axioms NfdBytes_card
end Go.Proofs.YtikiplbhlohmdaaGreatDoor
