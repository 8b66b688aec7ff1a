/- The card of the law StreamLong: for every input it answers true, and the input reads as it did, where the library's listed variables are as its text lays them (the tie is given). No other condition. -/
import Derived.Test.YtdbpjmfflofadaaGreatDoorLwSmLong
import Derived.Test.YtdbpjmfflofadaaGreatDoorTxOpen
import Derived.Test.YtdbpjmfflofadaaGreatDoorCards
import Derived.Test.YtdbpjmfflofadaaGreatDoorTie
set_option maxRecDepth 100000
set_option linter.unusedVariables false
set_option linter.unusedSimpArgs false
namespace Go.Proofs.YtdbpjmfflofadaaGreatDoor
open Go.Proofs.Tryz
open Go.ChangeShapes Go.WideShapes Go.ChangeAt Go.RowKit
open Go.ChangeMaps (open_string shut_string)
theorem streamLong_own:ownKnob prog.godebug=none:=by kernel_rfl
theorem streamLong_laidOut:laidOutB prog=true:=by kernel_rfl
theorem streamLong_contract (H:Type) (enc:TypeId × Value→H) (W:World) (base:Nat) (args:Array Value) (ds gs:List (DataW H)) (before:List MemPlace)
 (hval:∀(j:Nat) t v,Tryz.f3.params[j]?=some t→args[j]?=some v→Value.okWide prog W .any base t v)
 (hW:DataW.Whole enc prog Tryz.f3.params.toList Rows.streamLongSpec.vars false W args.toList ds gs before) (hL:laidMetH prog Rows.streamLongRow.laid W) (hS:W.ShapedOpen prog) :
 Calls prog 3 args W fun e W'=>∃v,e=.returned v∧Rows.streamLongSpec.post enc prog Tryz.f3 false true false false W args v W':=by
 have laidOut:=streamLong_laidOut;have aa:Nf.Laid W:=⟨Rw.laid_of (by kernel_rfl) (by simp[Rows.streamLongRow]) (by simp[Rows.streamLongRow]) (by simp[Rows.streamLongRow]) (by simp[Rows.streamLongRow]) hL hS,zEJ (by kernel_rfl) (by simp[Rows.streamLongRow]) hL⟩;have ag:=hW;obtain⟨p,q,ae,hV,rfl,ah,ao⟩:=hW;have hA:DataW.TrodAll enc prog W 0 (fun _=>true) true Tryz.f3.params.toList args.toList ds p:=ae;rw[Tryz.params3]at hA hval;obtain⟨v0,ap,d0,ak,p0,q0,af,rfl,rfl,h0,r0⟩:=Xm hA;obtain⟨v1,ai,d1,aj,p1,q1,rfl,rfl,rfl,h1,r1⟩:=Xm r0;obtain⟨rfl,rfl,rfl⟩:=JL r1;obtain rfl:args = #[v0,v1]:=by cases args;simp_all
 obtain⟨rfl,rfl⟩:=Q2 hV;obtain⟨a0,rfl,rfl,rfl,w0⟩:=open_int underlying3 (hval 0 3 v0 rfl rfl) h0;have b0:=bounds_i64 w0;obtain⟨a1,rfl,rfl,rfl,w1⟩:=open_int underlying3 (hval 1 3 v1 rfl rfl) h1;have b1:=bounds_i64 w1;clear ae;refine (Sm.streamLong_any W a0 a1 aa).mono fun e W' ⟨he,bel⟩=>?_
 subst he;exact⟨_,rfl,_,_,_,[],_,[],ag,JM (Jb underlying4 _),(trodAll_cons_mk (shut_int underlying3 w0) (trodAll_cons_mk (shut_int underlying3 w1) JN)),rfl,bel.frame _,fun h=>by cases h⟩
theorem streamLong_reads (os:Os) {H:Type} (enc:TypeId × Value→H):∃places,DataW.whole enc prog ((World.laidAll prog os Rows.streamLongRow.laid).forCall (fun _ _=>0) ⟨#[],#[Value.int .i64 0,Value.int .i64 0],[]⟩).memory Tryz.f3.params.toList Rows.streamLongSpec.vars false (#[Value.int .i64 0,Value.int .i64 0]:Array Value).toList 8=some ([.lit (.int .i64 0),.lit (.int .i64 0)],[],places) :=
 ⟨[],by kernel_rfl⟩
theorem streamLong_lifted (os:Os) (started:os.Started) (H:Type) (enc:TypeId × Value→H) (F:Stop.Interp) :
 ReturnsInHanded {} Tryz.checked os 3 .any ((OpenSpec.ofChange Rows.streamLongSpec).preRow enc prog Tryz.f3 Rows.streamLongRow.domain false Rows.streamLongRow.laid) (((OpenSpec.ofChange Rows.streamLongSpec).at F).post enc prog Tryz.f3 false true false false):=by
 obtain⟨places,hx⟩:=streamLong_reads os enc
 refine returnsInHanded_of_row (C:=Tryz.checked) (s:=OpenSpec.ofChange Rows.streamLongSpec) streamLong_own started (by kernel_rfl) func3
  (zFO (enc:=enc) os #[Value.int .i64 0,Value.int .i64 0] (World.shaped_of_ZipB (by kernel_rfl) (by kernel_rfl)) (by kernel_rfl)
    (OpenSpec.preRow_of_cond 8 hx (by kernel_rfl) (fun k hk=>by cases hk) (by kernel_rfl) (by rw[MakeChecks.laidMetH_plain _ _ _ (by kernel_rfl)];exact laidMet_laidAll _ (by kernel_rfl) (by kernel_rfl)))) ?_
 intro W base args ds gs before hval hW _ _ _ hL hS _;exact streamLong_contract H enc W base args ds gs before hval hW hL hS
theorem streamLong_k1:(Rows.streamLongRow.inPlace == Tryz.pinned.checked.prog.inPlace 3)=true:=by kernel_rfl
theorem streamLong_k2:(Rows.streamLongRow.unfollowed == Tryz.pinned.checked.prog.unfollowed 3)=true:=by kernel_rfl
theorem streamLong_k3:(Rows.streamLongRow.recurses == Tryz.pinned.checked.prog.recurses 3)=true:=by kernel_rfl
theorem streamLong_k4:(Rows.streamLongRow.named == Tryz.pinned.checked.prog.varsNamed 3)=true:=by kernel_rfl
theorem streamLong_closed:joinedFacts Tryz.pinned.checked.prog 3 Tryz.f3 (OpenSpec.ofChange Rows.streamLongSpec).bare Rows.streamLongRow=true:=by
 unfold joinedFacts;rw[streamLong_k1,streamLong_k2,streamLong_k3,streamLong_k4];kernel_rfl
theorem streamLong_said:Rows.StreamLongSaid :=
 OpenClaim.holds_of_cond 3 Tryz.f3 rfl rfl rfl rfl rfl rfl rfl ⟨rfl,rfl,rfl,rfl,rfl⟩ rfl rfl rfl rfl rfl (by kernel_rfl) func3 streamLong_closed
  (of_decide_eq_true (by kernel_rfl)) (by unfold Func.isWrapper;first|(rw[if_pos (by decide +kernel)];kernel_rfl)|(rw[if_neg (by decide +kernel)];exact⟨rfl,rfl⟩))
  (fun os started H enc _ F=>by rw[OpenClaim.pre_eq_preRow];exact streamLong_lifted os started H enc F)
theorem streamLong_plain (f:FuncId) (fn:Func) (hf:Tryz.pinned.checked.prog.funcNamed Rows.streamLongRow.func=some f) (ae:Tryz.pinned.checked.prog.funcs[f]?=some fn) :
 true=Tryz.pinned.checked.prog.looks []∧∀(j:Nat) t,fn.params[j]?=some t→Tryz.pinned.checked.prog.wantsStandIn t=false:=by
 obtain rfl:f=3:=Z6 ((show prog.funcNamed Rows.streamLongRow.func=some 3 by kernel_rfl).symm.trans hf) |>.symm
 obtain rfl:fn=Tryz.f3:=(Z6 (func3.symm.trans ae)).symm;refine⟨by kernel_rfl,fun j t ht=>?_⟩;rw[Tryz.params3]at ht;have hm:t∈[3,3]:=by simpa using Array.mem_of_getElem? ht
 have aa:([3,3].all fun u=>!prog.wantsStandIn u)=true:=by kernel_rfl
 exact (show prog.wantsStandIn t=false by simpa using List.all_eq_true.1 aa t hm)
theorem StreamLong_card:Rows.StreamLongCardSaid :=
 Claim7.holds_tied_plain_at .later [] _ _ _ _ streamLong_said (fun _ h=>by cases h) (by kernel_rfl) (fun _ h=>by cases h) streamLong_row_tie rfl ⟨rfl,rfl⟩ (by kernel_rfl) rfl streamLong_plain (by kernel_rfl)
#print axioms StreamLong_card
end Go.Proofs.YtdbpjmfflofadaaGreatDoor
