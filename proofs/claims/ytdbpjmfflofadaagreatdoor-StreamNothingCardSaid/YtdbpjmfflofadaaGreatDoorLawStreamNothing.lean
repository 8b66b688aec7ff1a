/- The card of the law StreamNothing: for every input it answers true, and the input reads as it did, where the library's listed variables are as its text lays them (the tie is given). No other condition. -/
import Derived.Test.YtdbpjmfflofadaaGreatDoorLwSmNothing
import Derived.Test.YtdbpjmfflofadaaGreatDoorTxOpen
import Derived.Test.YtdbpjmfflofadaaGreatDoorCards
import Derived.Test.YtdbpjmfflofadaaGreatDoorTie
set_option maxRecDepth 100000
set_option linter.unusedVariables false
set_option linter.unusedSimpArgs false
namespace Go.Proofs.YtdbpjmfflofadaaGreatDoor
open Go.Proofs.Tryz
open Go.ChangeShapes Go.WideShapes Go.ChangeAt Go.RowKit
open Go.ChangeMaps (open_string shut_string)
theorem streamNothing_own:ownKnob prog.godebug=none:=by kernel_rfl
theorem streamNothing_laidOut:laidOutB prog=true:=by kernel_rfl
theorem streamNothing_contract (H:Type) (enc:TypeId × Value→H) (W:World) (base:Nat) (args:Array Value) (ds gs:List (DataW H)) (before:List MemPlace)
 (hval:∀(j:Nat) t v,Tryz.f7.params[j]?=some t→args[j]?=some v→Value.okWide prog W .any base t v)
 (hW:DataW.Whole enc prog Tryz.f7.params.toList Rows.streamNothingSpec.vars false W args.toList ds gs before) (hL:laidMetH prog Rows.streamNothingRow.laid W) (hS:W.ShapedOpen prog) :
 Calls prog 7 args W fun e W'=>∃v,e=.returned v∧Rows.streamNothingSpec.post enc prog Tryz.f7 false true false false W args v W':=by
 have laidOut:=streamNothing_laidOut;have aa:Nf.Laid W:=⟨Rw.laid_of (by kernel_rfl) (by simp[Rows.streamNothingRow]) (by simp[Rows.streamNothingRow]) (by simp[Rows.streamNothingRow]) (by simp[Rows.streamNothingRow]) hL hS,zEJ (by kernel_rfl) (by simp[Rows.streamNothingRow]) hL⟩;have aw:=hW;obtain⟨p,q,ae,hV,rfl,az,bc⟩:=hW;have hA:DataW.TrodAll enc prog W 0 (fun _=>true) true Tryz.f7.params.toList args.toList ds p:=ae;rw[Tryz.params7]at hA hval;obtain⟨v0,bb,d0,ba,p0,q0,af,rfl,rfl,h0,r0⟩:=Xm hA;obtain⟨v1,a6,d1,a8,p1,q1,rfl,rfl,rfl,h1,r1⟩:=Xm r0;obtain⟨v2,ay,d2,a7,p2,q2,rfl,rfl,rfl,h2,r2⟩:=Xm r1;obtain⟨rfl,rfl,rfl⟩:=JL r2;obtain rfl:args = #[v0,v1,v2]:=by cases args;simp_all
 obtain⟨rfl,rfl⟩:=Q2 hV;have k0:=h0;have ai:∀x∈p0,x.block<W.heap.size:=by obtain⟨m,hm⟩:=k0;exact Qz m _ _ _ hm
 obtain⟨A0,ar,ak,aj,n0,c0,ao,av,ag,ah,au,aq,ap,ax,P0,M0,rfl,w0⟩:=zFn ((hval 0 40 v0 rfl rfl)) h0;obtain⟨a1,rfl,rfl,rfl⟩:=open_bool underlying4 (hval 1 4 v1 rfl rfl) h1;obtain⟨a2,rfl,rfl,rfl,w2⟩:=open_int underlying3 (hval 2 3 v2 rfl rfl) h2;have b2:=bounds_i64 w2;clear ae;refine (Tp.streamNothing_any W A0 ar ak aj n0 c0 ao av ag ah au aq ap ax P0 M0 w0 a1 a2 aa).mono fun e W' ⟨he,bel⟩=>?_
 subst he;exact⟨_,rfl,_,_,_,[],_,[],aw,JM (Jb underlying4 _),(trodAll_cons_mk (Jl laidOut (by kernel_rfl) (Yf (by kernel_rfl)) k0 bel ai) (trodAll_cons_mk (Jb underlying4 a1) (trodAll_cons_mk (shut_int underlying3 w2) JN))),rfl,bel.frame _,fun h=>by cases h⟩
theorem streamNothing_reads (os:Os) {H:Type} (enc:TypeId × Value→H):∃places,DataW.whole enc prog ((World.laidAll prog os Rows.streamNothingRow.laid).forCall (fun _ _=>0) ⟨#[],#[Value.agg #[.slice none 0 0,.slice none 0 0,.slice none 0 0,.slice none 0 0],Value.bool false,Value.int .i64 0],[]⟩).memory Tryz.f7.params.toList Rows.streamNothingSpec.vars false (#[Value.agg #[.slice none 0 0,.slice none 0 0,.slice none 0 0,.slice none 0 0],Value.bool false,Value.int .i64 0]:Array Value).toList 8=some ([.agg [.agg [.nil,.nil],.nil,.nil],.lit (.bool false),.lit (.int .i64 0)],[],places) :=
 ⟨[],by kernel_rfl⟩
theorem streamNothing_lifted (os:Os) (started:os.Started) (H:Type) (enc:TypeId × Value→H) (F:Stop.Interp) :
 ReturnsInHanded {} Tryz.checked os 7 .any ((OpenSpec.ofChange Rows.streamNothingSpec).preRow enc prog Tryz.f7 Rows.streamNothingRow.domain false Rows.streamNothingRow.laid) (((OpenSpec.ofChange Rows.streamNothingSpec).at F).post enc prog Tryz.f7 false true false false):=by
 obtain⟨places,hx⟩:=streamNothing_reads os enc
 refine returnsInHanded_of_row (C:=Tryz.checked) (s:=OpenSpec.ofChange Rows.streamNothingSpec) streamNothing_own started (by kernel_rfl) func7
  (zFO (enc:=enc) os #[Value.agg #[.slice none 0 0,.slice none 0 0,.slice none 0 0,.slice none 0 0],Value.bool false,Value.int .i64 0] (World.shaped_of_ZipB (by kernel_rfl) (by kernel_rfl)) (by kernel_rfl)
    (OpenSpec.preRow_of_cond 8 hx (by kernel_rfl) (fun k hk=>by cases hk) (by kernel_rfl) (by rw[MakeChecks.laidMetH_plain _ _ _ (by kernel_rfl)];exact laidMet_laidAll _ (by kernel_rfl) (by kernel_rfl)))) ?_
 intro W base args ds gs before hval hW _ _ _ hL hS _;exact streamNothing_contract H enc W base args ds gs before hval hW hL hS
theorem streamNothing_k1:(Rows.streamNothingRow.inPlace == Tryz.pinned.checked.prog.inPlace 7)=true:=by kernel_rfl
theorem streamNothing_k2:(Rows.streamNothingRow.unfollowed == Tryz.pinned.checked.prog.unfollowed 7)=true:=by kernel_rfl
theorem streamNothing_k3:(Rows.streamNothingRow.recurses == Tryz.pinned.checked.prog.recurses 7)=true:=by kernel_rfl
theorem streamNothing_k4:(Rows.streamNothingRow.named == Tryz.pinned.checked.prog.varsNamed 7)=true:=by kernel_rfl
theorem streamNothing_closed:joinedFacts Tryz.pinned.checked.prog 7 Tryz.f7 (OpenSpec.ofChange Rows.streamNothingSpec).bare Rows.streamNothingRow=true:=by
 unfold joinedFacts;rw[streamNothing_k1,streamNothing_k2,streamNothing_k3,streamNothing_k4];kernel_rfl
theorem streamNothing_said:Rows.StreamNothingSaid :=
 OpenClaim.holds_of_cond 7 Tryz.f7 rfl rfl rfl rfl rfl rfl rfl ⟨rfl,rfl,rfl,rfl,rfl⟩ rfl rfl rfl rfl rfl (by kernel_rfl) func7 streamNothing_closed
  (of_decide_eq_true (by kernel_rfl)) (by unfold Func.isWrapper;first|(rw[if_pos (by decide +kernel)];kernel_rfl)|(rw[if_neg (by decide +kernel)];exact⟨rfl,rfl⟩))
  (fun os started H enc _ F=>by rw[OpenClaim.pre_eq_preRow];exact streamNothing_lifted os started H enc F)
theorem streamNothing_plain (f:FuncId) (fn:Func) (hf:Tryz.pinned.checked.prog.funcNamed Rows.streamNothingRow.func=some f) (ae:Tryz.pinned.checked.prog.funcs[f]?=some fn) :
 true=Tryz.pinned.checked.prog.looks []∧∀(j:Nat) t,fn.params[j]?=some t→Tryz.pinned.checked.prog.wantsStandIn t=false:=by
 obtain rfl:f=7:=Z6 ((show prog.funcNamed Rows.streamNothingRow.func=some 7 by kernel_rfl).symm.trans hf) |>.symm
 obtain rfl:fn=Tryz.f7:=(Z6 (func7.symm.trans ae)).symm;refine⟨by kernel_rfl,fun j t ht=>?_⟩;rw[Tryz.params7]at ht;have hm:t∈[40,4,3]:=by simpa using Array.mem_of_getElem? ht
 have aa:([40,4,3].all fun u=>!prog.wantsStandIn u)=true:=by kernel_rfl
 exact (show prog.wantsStandIn t=false by simpa using List.all_eq_true.1 aa t hm)
theorem StreamNothing_card:Rows.StreamNothingCardSaid :=
 Claim7.holds_tied_plain_at .later [] _ _ _ _ streamNothing_said (fun _ h=>by cases h) (by kernel_rfl) (fun _ h=>by cases h) streamNothing_row_tie rfl ⟨rfl,rfl⟩ (by kernel_rfl) rfl streamNothing_plain (by kernel_rfl)
#print axioms StreamNothing_card
end Go.Proofs.YtdbpjmfflofadaaGreatDoor
