/- The card of the law NfdLong: for every input it answers true, and the input reads as it did, where the library's listed variables are as its text lays them (the tie is given). No other condition. -/
import Derived.Test.YtikiplbhlohmdaaGreatDoorLwLong
import Derived.Test.YtikiplbhlohmdaaGreatDoorHeadsOf
import Derived.Test.YtikiplbhlohmdaaGreatDoorCards
import Derived.Test.YtikiplbhlohmdaaGreatDoorTie
set_option linter.unusedVariables false
set_option linter.unusedSimpArgs false
namespace Go.Proofs.YtikiplbhlohmdaaGreatDoor
open Go.ChangeShapes Go.WideShapes Go.ChangeAt Go.RowKit
open Go.ChangeMaps (open_string shut_string)
set_option maxRecDepth 100000
theorem nfdLong_own:ownKnob Tryz.prog.godebug=none:=by kernel_rfl
theorem nfdLong_laidOut:laidOutB Tryz.prog=true:=by kernel_rfl
set_option maxRecDepth 100000 in
theorem nfdLong_contract (H:Type) (enc:TypeId × Value→H) (W:World) (base:Nat) (args:Array Value) (ds gs:List (DataW H)) (before:List MemPlace)
 (hval:∀(j:Nat) t v,Tryz.f5.params[j]?=some t→args[j]?=some v→Value.okWide Tryz.prog W .any base t v)
 (hW:DataW.Whole enc Tryz.prog Tryz.f5.params.toList Rows.nfdLongSpec.vars false W args.toList ds gs before) (hL:laidMetH Tryz.prog Rows.nfdLongRow.laid W) (hS:W.ShapedOpen Tryz.prog) :
 Calls Tryz.prog 5 args W fun e W'=>∃v,e=.returned v∧Rows.nfdLongSpec.post enc Tryz.prog Tryz.f5 false true false false W args v W':=by
 have laidOut:=nfdLong_laidOut
 have aa:Nf.Laid W:=⟨Rw.laid_of (by kernel_rfl) (by simp[Rows.nfdLongRow]) (by simp[Rows.nfdLongRow]) (by simp[Rows.nfdLongRow]) (by simp[Rows.nfdLongRow]) hL hS,Nf.heads_of (by kernel_rfl) (by simp[Rows.nfdLongRow]) hL⟩
 have ag:=hW
 obtain⟨p,q,ae,hV,rfl,ah,ap⟩:=hW
 have hA:DataW.TrodAll enc Tryz.prog W 0 (fun _=>true) true Tryz.f5.params.toList args.toList ds p:=ae
 rw[Tryz.params5]at hA hval
 obtain⟨v0,aj,d0,ao,p0,q0,af,rfl,rfl,h0,r0⟩:=Xp hA
 obtain⟨v1,ai,d1,ak,p1,q1,rfl,rfl,rfl,h1,r1⟩:=Xp r0
 obtain⟨rfl,rfl,rfl⟩:=trodAll_nil r1
 obtain rfl:args = #[v0,v1]:=by cases args;simp_all
 obtain⟨rfl,rfl⟩:=trodVars_none hV
 obtain⟨a0,rfl,rfl,rfl,w0⟩:=open_int Tryz.underlying3 (hval 0 3 v0 rfl rfl) h0
 have b0:=bounds_i64 w0
 obtain⟨a1,rfl,rfl,rfl,w1⟩:=open_int Tryz.underlying21 (hval 1 21 v1 rfl rfl) h1
 have b1:=bounds_i32 w1
 clear ae
 refine (Nf.nfdLong_any W a0 a1 b0.1 b0.2 b1.1 b1.2 aa).mono fun e W' ⟨he,bel⟩=>?_
 subst he
 exact⟨_,rfl,_,_,_,[],_,[],ag,trodAll_mk1 (shut_bool Tryz.underlying4 _),(trodAll_cons_mk (shut_int Tryz.underlying3 w0) (trodAll_cons_mk (shut_int Tryz.underlying21 w1) trodAll_mk0)),rfl,bel.frame _,fun h=>by cases h⟩
theorem nfdLong_reads (os:Os) {H:Type} (enc:TypeId × Value→H):∃places,DataW.whole enc Tryz.prog ((World.laidAll Tryz.prog os Rows.nfdLongRow.laid).forCall (fun _ _=>0) ⟨#[],#[Value.int .i64 0,Value.int .i32 0],[]⟩).memory Tryz.f5.params.toList Rows.nfdLongSpec.vars false (#[Value.int .i64 0,Value.int .i32 0]:Array Value).toList 8=some ([.lit (.int .i64 0),.lit (.int .i32 0)],[],places) :=
 ⟨[],by kernel_rfl⟩
set_option maxRecDepth 100000 in
theorem nfdLong_lifted (os:Os) (started:os.Started) (H:Type) (enc:TypeId × Value→H) (F:Stop.Interp) :
 ReturnsInHanded {} Tryz.checked os 5 .any ((OpenSpec.ofChange Rows.nfdLongSpec).preRow enc Tryz.prog Tryz.f5 Rows.nfdLongRow.domain false Rows.nfdLongRow.laid) (((OpenSpec.ofChange Rows.nfdLongSpec).at F).post enc Tryz.prog Tryz.f5 false true false false):=by
 obtain⟨places,hx⟩:=nfdLong_reads os enc
 refine returnsInHanded_of_row (C:=Tryz.checked) (s:=OpenSpec.ofChange Rows.nfdLongSpec) nfdLong_own started (by kernel_rfl) Tryz.func5
  (Fi.witness (enc:=enc) os #[Value.int .i64 0,Value.int .i32 0] (World.shaped_of_ZipB (by kernel_rfl) (by kernel_rfl)) (by kernel_rfl)
    (OpenSpec.preRow_of_cond 8 hx (by kernel_rfl) (fun k hk=>by cases hk) (by kernel_rfl) (by rw[MakeChecks.laidMetH_plain _ _ _ (by kernel_rfl)];exact laidMet_laidAll _ (by kernel_rfl) (by kernel_rfl)))) ?_
 intro W base args ds gs before hval hW _ _ _ hL hS _
 exact nfdLong_contract H enc W base args ds gs before hval hW hL hS
theorem nfdLong_k1:(Rows.nfdLongRow.inPlace == Tryz.pinned.checked.prog.inPlace 5)=true:=by kernel_rfl
theorem nfdLong_k2:(Rows.nfdLongRow.unfollowed == Tryz.pinned.checked.prog.unfollowed 5)=true:=by kernel_rfl
theorem nfdLong_k3:(Rows.nfdLongRow.recurses == Tryz.pinned.checked.prog.recurses 5)=true:=by kernel_rfl
theorem nfdLong_k4:(Rows.nfdLongRow.named == Tryz.pinned.checked.prog.varsNamed 5)=true:=by kernel_rfl
theorem nfdLong_closed:joinedFacts Tryz.pinned.checked.prog 5 Tryz.f5 (OpenSpec.ofChange Rows.nfdLongSpec).bare Rows.nfdLongRow=true:=by
 unfold joinedFacts
 rw[nfdLong_k1,nfdLong_k2,nfdLong_k3,nfdLong_k4]
 kernel_rfl
theorem nfdLong_said:Rows.NfdLongSaid :=
 OpenClaim.holds_of_cond 5 Tryz.f5 rfl rfl rfl rfl rfl rfl rfl ⟨rfl,rfl,rfl,rfl,rfl⟩ rfl rfl rfl rfl rfl (by kernel_rfl) Tryz.func5 nfdLong_closed
  (of_decide_eq_true (by kernel_rfl)) (by unfold Func.isWrapper;first|(rw[if_pos (by decide +kernel)];kernel_rfl)|(rw[if_neg (by decide +kernel)];exact⟨rfl,rfl⟩))
  (fun os started H enc _ F=>by rw[OpenClaim.pre_eq_preRow];exact nfdLong_lifted os started H enc F)
theorem nfdLong_plain (f:FuncId) (fn:Func) (hf:Tryz.pinned.checked.prog.funcNamed Rows.nfdLongRow.func=some f) (ae:Tryz.pinned.checked.prog.funcs[f]?=some fn) :
 true=Tryz.pinned.checked.prog.looks []∧∀(j:Nat) t,fn.params[j]?=some t→Tryz.pinned.checked.prog.wantsStandIn t=false:=by
 obtain rfl:f=5:=ZU ((show Tryz.prog.funcNamed Rows.nfdLongRow.func=some 5 by kernel_rfl).symm.trans hf) |>.symm
 obtain rfl:fn=Tryz.f5:=(ZU (Tryz.func5.symm.trans ae)).symm
 refine⟨by kernel_rfl,fun j t ht=>?_⟩
 rw[Tryz.params5]at ht
 have hm:t∈[3,21]:=by simpa using Array.mem_of_getElem? ht
 have aa:([3,21].all fun u=>!Tryz.prog.wantsStandIn u)=true:=by kernel_rfl
 exact (show Tryz.prog.wantsStandIn t=false by simpa using List.all_eq_true.1 aa t hm)
theorem NfdLong_card:Rows.NfdLongCardSaid :=
 Claim7.holds_tied_plain_at .later [] _ _ _ _ nfdLong_said (fun _ h=>by cases h) (by kernel_rfl) (fun _ h=>by cases h) nfdLong_row_tie rfl ⟨rfl,rfl⟩ (by kernel_rfl) rfl nfdLong_plain (by kernel_rfl)
#print axioms NfdLong_card
end Go.Proofs.YtikiplbhlohmdaaGreatDoor
