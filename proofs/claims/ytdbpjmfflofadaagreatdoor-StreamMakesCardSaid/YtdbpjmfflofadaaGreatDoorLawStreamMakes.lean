/- The card of the law StreamMakes: for every input it answers true, and the input reads as it did, where the library's listed variables are as its text lays them (the tie is given). No other condition. -/
import Derived.Test.YtdbpjmfflofadaaGreatDoorLwSmMakes
import Derived.Test.YtdbpjmfflofadaaGreatDoorTxOpen
import Derived.Test.YtdbpjmfflofadaaGreatDoorCards
import Derived.Test.YtdbpjmfflofadaaGreatDoorTie
set_option maxRecDepth 100000
set_option linter.unusedVariables false
set_option linter.unusedSimpArgs false
namespace Go.Proofs.YtdbpjmfflofadaaGreatDoor
open Go.Proofs.Tryz
open Go.ChangeShapes Go.WideShapes Go.ChangeAt Go.RowKit
open Go.ChangeMaps (open_string shut_string)
theorem streamMakes_own:ownKnob prog.godebug=none:=by kernel_rfl
theorem streamMakes_laidOut:laidOutB prog=true:=by kernel_rfl
theorem streamMakes_contract (H:Type) (enc:TypeId × Value→H) (W:World) (base:Nat) (args:Array Value) (ds gs:List (DataW H)) (before:List MemPlace)
 (hval:∀(j:Nat) t v,Tryz.f4.params[j]?=some t→args[j]?=some v→Value.okWide prog W .any base t v)
 (hW:DataW.Whole enc prog Tryz.f4.params.toList Rows.streamMakesSpec.vars false W args.toList ds gs before) (hL:laidMetH prog Rows.streamMakesRow.laid W) (hS:W.ShapedOpen prog) :
 Calls prog 4 args W fun e W'=>∃v,e=.returned v∧Rows.streamMakesSpec.post enc prog Tryz.f4 false true false false W args v W':=by
 have laidOut:=streamMakes_laidOut;have aa:Nf.Laid W:=⟨Rw.laid_of (by kernel_rfl) (by simp[Rows.streamMakesRow]) (by simp[Rows.streamMakesRow]) (by simp[Rows.streamMakesRow]) (by simp[Rows.streamMakesRow]) hL hS,zEJ (by kernel_rfl) (by simp[Rows.streamMakesRow]) hL⟩;have a6:=hW;obtain⟨p,q,ag,hV,rfl,ba,bi⟩:=hW;have hA:DataW.TrodAll enc prog W 0 (fun _=>true) true Tryz.f4.params.toList args.toList ds p:=ag;rw[Tryz.params4]at hA hval;obtain⟨v0,bh,d0,bg,p0,q0,ah,rfl,rfl,h0,r0⟩:=Xm hA;obtain⟨v1,bb,d1,bf,p1,q1,rfl,rfl,rfl,h1,r1⟩:=Xm r0;obtain⟨v2,a8,d2,bc,p2,q2,rfl,rfl,rfl,h2,r2⟩:=Xm r1;obtain⟨rfl,rfl,rfl⟩:=JL r2;obtain rfl:args = #[v0,v1,v2]:=by cases args;simp_all
 obtain⟨rfl,rfl⟩:=Q2 hV;have k0:=h0;have ak:∀x∈p0,x.block<W.heap.size:=by obtain⟨m,hm⟩:=k0;exact Qz m _ _ _ hm
 obtain⟨A0,aw,aq,ao,n0,c0,ar,ay,ai,aj,ax,av,au,a7,P0,M0,rfl,w0⟩:=zFn ((hval 0 40 v0 rfl rfl)) h0;obtain⟨a1,rfl,rfl,rfl⟩:=open_bool underlying4 (hval 1 4 v1 rfl rfl) h1;obtain⟨a2,ae,af,rfl⟩:=okWide_slice underlying36 (hval 2 36 v2 rfl rfl);have k2:=h2;have az:∀x∈p2,x.block<W.heap.size:=by obtain⟨m,hm⟩:=k2;exact Qz m _ _ _ hm
 obtain⟨z2,w2⟩:∃zs,IsRow .i64 W a2 ae af zs:=by
  obtain⟨fuel,hf⟩:=h2;rcases open_ints underlying36 underlying3 (by kernel_rfl) hf with ⟨hcs,_⟩|⟨x,l,c,zs,hcs,_,hl,hm,hz,_,hcell,ap⟩
  · simp[Value.cells]at hcs;obtain⟨rfl,rfl,rfl⟩:=hcs;exact⟨[],.inl ⟨rfl,rfl,rfl,rfl⟩⟩
  simp[Value.cells]at hcs;obtain⟨rfl,rfl,rfl⟩:=hcs;exact⟨zs,.inr ⟨_,rfl,hl,hm,by simpa using hz,hcell,ap⟩⟩
 clear ag;refine (Tp.streamMakes_any W A0 aw aq ao n0 c0 ar ay ai aj ax av au a7 P0 M0 w0 a1 a2 ae af z2 w2 (fun c hc=>bounds_i64 (w2.wf c hc)) aa).mono fun e W' ⟨he,bel⟩=>?_
 subst he;exact⟨_,rfl,_,_,_,[],_,[],a6,JM (Jb underlying4 _),(trodAll_cons_mk (Jl laidOut (by kernel_rfl) (Yf (by kernel_rfl)) k0 bel ak) (trodAll_cons_mk (Jb underlying4 a1) (trodAll_cons_mk (Jl laidOut (by kernel_rfl) (Yf (by kernel_rfl)) k2 bel az) JN))),rfl,bel.frame _,fun h=>by cases h⟩
theorem streamMakes_reads (os:Os) {H:Type} (enc:TypeId × Value→H):∃places,DataW.whole enc prog ((World.laidAll prog os Rows.streamMakesRow.laid).forCall (fun _ _=>0) ⟨#[],#[Value.agg #[.slice none 0 0,.slice none 0 0,.slice none 0 0,.slice none 0 0],Value.bool false,Value.slice none 0 0],[]⟩).memory Tryz.f4.params.toList Rows.streamMakesSpec.vars false (#[Value.agg #[.slice none 0 0,.slice none 0 0,.slice none 0 0,.slice none 0 0],Value.bool false,Value.slice none 0 0]:Array Value).toList 8=some ([.agg [.agg [.nil,.nil],.nil,.nil],.lit (.bool false),.nil],[],places) :=
 ⟨[],by kernel_rfl⟩
theorem streamMakes_lifted (os:Os) (started:os.Started) (H:Type) (enc:TypeId × Value→H) (F:Stop.Interp) :
 ReturnsInHanded {} Tryz.checked os 4 .any ((OpenSpec.ofChange Rows.streamMakesSpec).preRow enc prog Tryz.f4 Rows.streamMakesRow.domain false Rows.streamMakesRow.laid) (((OpenSpec.ofChange Rows.streamMakesSpec).at F).post enc prog Tryz.f4 false true false false):=by
 obtain⟨places,hx⟩:=streamMakes_reads os enc
 refine returnsInHanded_of_row (C:=Tryz.checked) (s:=OpenSpec.ofChange Rows.streamMakesSpec) streamMakes_own started (by kernel_rfl) func4
  (zFO (enc:=enc) os #[Value.agg #[.slice none 0 0,.slice none 0 0,.slice none 0 0,.slice none 0 0],Value.bool false,Value.slice none 0 0] (World.shaped_of_ZipB (by kernel_rfl) (by kernel_rfl)) (by kernel_rfl)
    (OpenSpec.preRow_of_cond 8 hx (by kernel_rfl) (fun k hk=>by cases hk) (by kernel_rfl) (by rw[MakeChecks.laidMetH_plain _ _ _ (by kernel_rfl)];exact laidMet_laidAll _ (by kernel_rfl) (by kernel_rfl)))) ?_
 intro W base args ds gs before hval hW _ _ _ hL hS _;exact streamMakes_contract H enc W base args ds gs before hval hW hL hS
theorem streamMakes_k1:(Rows.streamMakesRow.inPlace == Tryz.pinned.checked.prog.inPlace 4)=true:=by kernel_rfl
theorem streamMakes_k2:(Rows.streamMakesRow.unfollowed == Tryz.pinned.checked.prog.unfollowed 4)=true:=by kernel_rfl
theorem streamMakes_k3:(Rows.streamMakesRow.recurses == Tryz.pinned.checked.prog.recurses 4)=true:=by kernel_rfl
theorem streamMakes_k4:(Rows.streamMakesRow.named == Tryz.pinned.checked.prog.varsNamed 4)=true:=by kernel_rfl
theorem streamMakes_closed:joinedFacts Tryz.pinned.checked.prog 4 Tryz.f4 (OpenSpec.ofChange Rows.streamMakesSpec).bare Rows.streamMakesRow=true:=by
 unfold joinedFacts;rw[streamMakes_k1,streamMakes_k2,streamMakes_k3,streamMakes_k4];kernel_rfl
theorem streamMakes_said:Rows.StreamMakesSaid :=
 OpenClaim.holds_of_cond 4 Tryz.f4 rfl rfl rfl rfl rfl rfl rfl ⟨rfl,rfl,rfl,rfl,rfl⟩ rfl rfl rfl rfl rfl (by kernel_rfl) func4 streamMakes_closed
  (of_decide_eq_true (by kernel_rfl)) (by unfold Func.isWrapper;first|(rw[if_pos (by decide +kernel)];kernel_rfl)|(rw[if_neg (by decide +kernel)];exact⟨rfl,rfl⟩))
  (fun os started H enc _ F=>by rw[OpenClaim.pre_eq_preRow];exact streamMakes_lifted os started H enc F)
theorem streamMakes_plain (f:FuncId) (fn:Func) (hf:Tryz.pinned.checked.prog.funcNamed Rows.streamMakesRow.func=some f) (ae:Tryz.pinned.checked.prog.funcs[f]?=some fn) :
 true=Tryz.pinned.checked.prog.looks []∧∀(j:Nat) t,fn.params[j]?=some t→Tryz.pinned.checked.prog.wantsStandIn t=false:=by
 obtain rfl:f=4:=Z6 ((show prog.funcNamed Rows.streamMakesRow.func=some 4 by kernel_rfl).symm.trans hf) |>.symm
 obtain rfl:fn=Tryz.f4:=(Z6 (func4.symm.trans ae)).symm;refine⟨by kernel_rfl,fun j t ht=>?_⟩;rw[Tryz.params4]at ht;have hm:t∈[40,4,36]:=by simpa using Array.mem_of_getElem? ht
 have aa:([40,4,36].all fun u=>!prog.wantsStandIn u)=true:=by kernel_rfl
 exact (show prog.wantsStandIn t=false by simpa using List.all_eq_true.1 aa t hm)
theorem StreamMakes_card:Rows.StreamMakesCardSaid :=
 Claim7.holds_tied_plain_at .later [] _ _ _ _ streamMakes_said (fun _ h=>by cases h) (by kernel_rfl) (fun _ h=>by cases h) streamMakes_row_tie rfl ⟨rfl,rfl⟩ (by kernel_rfl) rfl streamMakes_plain (by kernel_rfl)
#print axioms StreamMakes_card
end Go.Proofs.YtdbpjmfflofadaaGreatDoor
