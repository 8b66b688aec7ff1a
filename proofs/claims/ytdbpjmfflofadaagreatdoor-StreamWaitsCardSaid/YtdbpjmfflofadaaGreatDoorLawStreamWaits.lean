/- The card of the law StreamWaits: for every input it answers true, and the input reads as it did, where the library's listed variables are as its text lays them (the tie is given). No other condition. -/
import Derived.Test.YtdbpjmfflofadaaGreatDoorLwSmWaits
import Derived.Test.YtdbpjmfflofadaaGreatDoorTxOpen
import Derived.Test.YtdbpjmfflofadaaGreatDoorCards
import Derived.Test.YtdbpjmfflofadaaGreatDoorTie
set_option maxRecDepth 100000
set_option linter.unusedVariables false
set_option linter.unusedSimpArgs false
namespace Go.Proofs.YtdbpjmfflofadaaGreatDoor
open Go.Proofs.Tryz
open Go.ChangeShapes Go.WideShapes Go.ChangeAt Go.RowKit
open Go.ChangeMaps (open_string shut_string)
theorem streamWaits_own:ownKnob prog.godebug=none:=by kernel_rfl
theorem streamWaits_laidOut:laidOutB prog=true:=by kernel_rfl
theorem streamWaits_contract (H:Type) (enc:TypeId × Value→H) (W:World) (base:Nat) (args:Array Value) (ds gs:List (DataW H)) (before:List MemPlace)
 (hval:∀(j:Nat) t v,Tryz.f5.params[j]?=some t→args[j]?=some v→Value.okWide prog W .any base t v)
 (hW:DataW.Whole enc prog Tryz.f5.params.toList Rows.streamWaitsSpec.vars false W args.toList ds gs before) (hL:laidMetH prog Rows.streamWaitsRow.laid W) (hS:W.ShapedOpen prog) :
 Calls prog 5 args W fun e W'=>∃v,e=.returned v∧Rows.streamWaitsSpec.post enc prog Tryz.f5 false true false false W args v W':=by
 have laidOut:=streamWaits_laidOut;have aa:Nf.Laid W:=⟨Rw.laid_of (by kernel_rfl) (by simp[Rows.streamWaitsRow]) (by simp[Rows.streamWaitsRow]) (by simp[Rows.streamWaitsRow]) (by simp[Rows.streamWaitsRow]) hL hS,zEJ (by kernel_rfl) (by simp[Rows.streamWaitsRow]) hL⟩;have a7:=hW;obtain⟨p,q,ag,hV,rfl,a8,bg⟩:=hW;have hA:DataW.TrodAll enc prog W 0 (fun _=>true) true Tryz.f5.params.toList args.toList ds p:=ag;rw[Tryz.params5]at hA hval;obtain⟨v0,bf,d0,bc,p0,q0,ah,rfl,rfl,h0,r0⟩:=Xm hA;obtain⟨v1,ba,d1,bb,p1,q1,rfl,rfl,rfl,h1,r1⟩:=Xm r0;obtain⟨rfl,rfl,rfl⟩:=JL r1;obtain rfl:args = #[v0,v1]:=by cases args;simp_all
 obtain⟨rfl,rfl⟩:=Q2 hV;have k0:=h0;have ak:∀x∈p0,x.block<W.heap.size:=by obtain⟨m,hm⟩:=k0;exact Qz m _ _ _ hm
 obtain⟨A0,ax,aq,ao,n0,c0,ar,a6,ai,aj,az,aw,av,ay,P0,M0,rfl,w0⟩:=zFn ((hval 0 40 v0 rfl rfl)) h0;obtain⟨a1,af,ae,rfl⟩:=okWide_slice underlying36 (hval 1 36 v1 rfl rfl);have k1:=h1;have au:∀x∈p1,x.block<W.heap.size:=by obtain⟨m,hm⟩:=k1;exact Qz m _ _ _ hm
 obtain⟨z1,w1⟩:∃zs,IsRow .i64 W a1 af ae zs:=by
  obtain⟨fuel,hf⟩:=h1;rcases open_ints underlying36 underlying3 (by kernel_rfl) hf with ⟨hcs,_⟩|⟨x,l,c,zs,hcs,_,hl,hm,hz,_,hcell,ap⟩
  · simp[Value.cells]at hcs;obtain⟨rfl,rfl,rfl⟩:=hcs;exact⟨[],.inl ⟨rfl,rfl,rfl,rfl⟩⟩
  simp[Value.cells]at hcs;obtain⟨rfl,rfl,rfl⟩:=hcs;exact⟨zs,.inr ⟨_,rfl,hl,hm,by simpa using hz,hcell,ap⟩⟩
 clear ag;refine (Tp.streamWaits_any W A0 ax aq ao n0 c0 ar a6 ai aj az aw av ay P0 M0 w0 a1 af ae z1 w1 (fun c hc=>bounds_i64 (w1.wf c hc)) aa).mono fun e W' ⟨he,bel⟩=>?_
 subst he;exact⟨_,rfl,_,_,_,[],_,[],a7,JM (Jb underlying4 _),(trodAll_cons_mk (Jl laidOut (by kernel_rfl) (Yf (by kernel_rfl)) k0 bel ak) (trodAll_cons_mk (Jl laidOut (by kernel_rfl) (Yf (by kernel_rfl)) k1 bel au) JN)),rfl,bel.frame _,fun h=>by cases h⟩
theorem streamWaits_reads (os:Os) {H:Type} (enc:TypeId × Value→H):∃places,DataW.whole enc prog ((World.laidAll prog os Rows.streamWaitsRow.laid).forCall (fun _ _=>0) ⟨#[],#[Value.agg #[.slice none 0 0,.slice none 0 0,.slice none 0 0,.slice none 0 0],Value.slice none 0 0],[]⟩).memory Tryz.f5.params.toList Rows.streamWaitsSpec.vars false (#[Value.agg #[.slice none 0 0,.slice none 0 0,.slice none 0 0,.slice none 0 0],Value.slice none 0 0]:Array Value).toList 8=some ([.agg [.agg [.nil,.nil],.nil,.nil],.nil],[],places) :=
 ⟨[],by kernel_rfl⟩
theorem streamWaits_lifted (os:Os) (started:os.Started) (H:Type) (enc:TypeId × Value→H) (F:Stop.Interp) :
 ReturnsInHanded {} Tryz.checked os 5 .any ((OpenSpec.ofChange Rows.streamWaitsSpec).preRow enc prog Tryz.f5 Rows.streamWaitsRow.domain false Rows.streamWaitsRow.laid) (((OpenSpec.ofChange Rows.streamWaitsSpec).at F).post enc prog Tryz.f5 false true false false):=by
 obtain⟨places,hx⟩:=streamWaits_reads os enc
 refine returnsInHanded_of_row (C:=Tryz.checked) (s:=OpenSpec.ofChange Rows.streamWaitsSpec) streamWaits_own started (by kernel_rfl) func5
  (zFO (enc:=enc) os #[Value.agg #[.slice none 0 0,.slice none 0 0,.slice none 0 0,.slice none 0 0],Value.slice none 0 0] (World.shaped_of_ZipB (by kernel_rfl) (by kernel_rfl)) (by kernel_rfl)
    (OpenSpec.preRow_of_cond 8 hx (by kernel_rfl) (fun k hk=>by cases hk) (by kernel_rfl) (by rw[MakeChecks.laidMetH_plain _ _ _ (by kernel_rfl)];exact laidMet_laidAll _ (by kernel_rfl) (by kernel_rfl)))) ?_
 intro W base args ds gs before hval hW _ _ _ hL hS _;exact streamWaits_contract H enc W base args ds gs before hval hW hL hS
theorem streamWaits_k1:(Rows.streamWaitsRow.inPlace == Tryz.pinned.checked.prog.inPlace 5)=true:=by kernel_rfl
theorem streamWaits_k2:(Rows.streamWaitsRow.unfollowed == Tryz.pinned.checked.prog.unfollowed 5)=true:=by kernel_rfl
theorem streamWaits_k3:(Rows.streamWaitsRow.recurses == Tryz.pinned.checked.prog.recurses 5)=true:=by kernel_rfl
theorem streamWaits_k4:(Rows.streamWaitsRow.named == Tryz.pinned.checked.prog.varsNamed 5)=true:=by kernel_rfl
theorem streamWaits_closed:joinedFacts Tryz.pinned.checked.prog 5 Tryz.f5 (OpenSpec.ofChange Rows.streamWaitsSpec).bare Rows.streamWaitsRow=true:=by
 unfold joinedFacts;rw[streamWaits_k1,streamWaits_k2,streamWaits_k3,streamWaits_k4];kernel_rfl
theorem streamWaits_said:Rows.StreamWaitsSaid :=
 OpenClaim.holds_of_cond 5 Tryz.f5 rfl rfl rfl rfl rfl rfl rfl ⟨rfl,rfl,rfl,rfl,rfl⟩ rfl rfl rfl rfl rfl (by kernel_rfl) func5 streamWaits_closed
  (of_decide_eq_true (by kernel_rfl)) (by unfold Func.isWrapper;first|(rw[if_pos (by decide +kernel)];kernel_rfl)|(rw[if_neg (by decide +kernel)];exact⟨rfl,rfl⟩))
  (fun os started H enc _ F=>by rw[OpenClaim.pre_eq_preRow];exact streamWaits_lifted os started H enc F)
theorem streamWaits_plain (f:FuncId) (fn:Func) (hf:Tryz.pinned.checked.prog.funcNamed Rows.streamWaitsRow.func=some f) (ae:Tryz.pinned.checked.prog.funcs[f]?=some fn) :
 true=Tryz.pinned.checked.prog.looks []∧∀(j:Nat) t,fn.params[j]?=some t→Tryz.pinned.checked.prog.wantsStandIn t=false:=by
 obtain rfl:f=5:=Z6 ((show prog.funcNamed Rows.streamWaitsRow.func=some 5 by kernel_rfl).symm.trans hf) |>.symm
 obtain rfl:fn=Tryz.f5:=(Z6 (func5.symm.trans ae)).symm;refine⟨by kernel_rfl,fun j t ht=>?_⟩;rw[Tryz.params5]at ht;have hm:t∈[40,36]:=by simpa using Array.mem_of_getElem? ht
 have aa:([40,36].all fun u=>!prog.wantsStandIn u)=true:=by kernel_rfl
 exact (show prog.wantsStandIn t=false by simpa using List.all_eq_true.1 aa t hm)
theorem StreamWaits_card:Rows.StreamWaitsCardSaid :=
 Claim7.holds_tied_plain_at .later [] _ _ _ _ streamWaits_said (fun _ h=>by cases h) (by kernel_rfl) (fun _ h=>by cases h) streamWaits_row_tie rfl ⟨rfl,rfl⟩ (by kernel_rfl) rfl streamWaits_plain (by kernel_rfl)
#print axioms StreamWaits_card
end Go.Proofs.YtdbpjmfflofadaaGreatDoor
