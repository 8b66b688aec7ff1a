/- The card of the law EqualGoes: for every input it answers true, and the input reads as it did, where the library's listed variables are as its text lays them (the tie is given). No other condition. -/
import Derived.Test.YtjakbblocbicjaaGreatDoorLwEGoes
import Derived.Test.YtjakbblocbicjaaGreatDoorHeadsOf
import Derived.Test.YtjakbblocbicjaaGreatDoorArrOpen2
import Derived.Test.YtjakbblocbicjaaGreatDoorNfLaw
import Derived.Test.YtjakbblocbicjaaGreatDoorCards
import Derived.Test.YtjakbblocbicjaaGreatDoorTie
import Derived.ShutString
import Derived.ChangeOld
namespace Go.Proofs.YtjakbblocbicjaaGreatDoor
open Go.ChangeShapes Go.WideShapes Go.ChangeAt Go.RowKit
open Go.ChangeMaps (open_string shut_string)
set_option linter.unusedVariables false
set_option maxRecDepth 100000
theorem equalGoes_own:ownKnob Tryz.prog.godebug=none:=by kernel_rfl
theorem equalGoes_laidOut:laidOutB Tryz.prog=true:=by kernel_rfl
set_option maxRecDepth 100000 in
theorem equalGoes_contract (H:Type) (enc:TypeId × Value→H) (W:World) (base:Nat) (args:Array Value) (ds gs:List (DataW H)) (before:List MemPlace)
 (hval:∀(j:Nat) t v,Tryz.f6.params[j]?=some t→args[j]?=some v→Value.okWide Tryz.prog W .any base t v)
 (hW:DataW.Whole enc Tryz.prog Tryz.f6.params.toList Rows.equalGoesSpec.vars false W args.toList ds gs before) (hL:laidMetH Tryz.prog Rows.equalGoesRow.laid W) (hS:W.ShapedOpen Tryz.prog) :
 Calls Tryz.prog 6 args W fun e W'=>∃v,e=.returned v∧Rows.equalGoesSpec.post enc Tryz.prog Tryz.f6 false true false false W args v W':=by
 have laidOut:=equalGoes_laidOut;have hHeads:Nf.Laid W:=⟨Rw.laid_of (by kernel_rfl) (by simp[Rows.equalGoesRow]) (by simp[Rows.equalGoesRow]) (by simp[Rows.equalGoesRow]) (by simp[Rows.equalGoesRow]) hL hS,zOo (by kernel_rfl) (by simp[Rows.equalGoesRow]) hL⟩;have hW':=hW;obtain⟨p,q,hA0,hV,rfl,hfz,hnd⟩:=hW;have hA:DataW.TrodAll enc Tryz.prog W 0 (fun _=>true) true Tryz.f6.params.toList args.toList ds p:=hA0;rw[Tryz.params6]at hA hval;obtain⟨v0,vs0,d0,ds0,p0,q0,hargs,rfl,rfl,h0,r0⟩:=trodAll_cons hA;obtain⟨v1,vs1,d1,ds1,p1,q1,rfl,rfl,rfl,h1,r1⟩:=trodAll_cons r0;obtain⟨v2,vs2,d2,ds2,p2,q2,rfl,rfl,rfl,h2,r2⟩:=trodAll_cons r1;obtain⟨rfl,rfl,rfl⟩:=trodAll_nil r2;obtain rfl:args = #[v0,v1,v2]:=by cases args;simp_all
 obtain⟨rfl,rfl⟩:=trodVars_none hV;have k0:=h0;have lt0:∀x∈p0,x.block<W.heap.size:=by obtain⟨m,hm⟩:=k0;exact DataW.trod_lt m _ _ _ hm
 obtain⟨A0,XA0,PA0,MA0,n0,c0,xn0,xc0,pn0,pc0,mn0,mc0,T00,E00,P0,M0,rfl,w0⟩:=zMS ((hval 0 27 v0 rfl rfl)) h0;have k1:=h1;have lt1:∀x∈p1,x.block<W.heap.size:=by obtain⟨m,hm⟩:=k1;exact DataW.trod_lt m _ _ _ hm
 obtain⟨RA1,ra1,rb1,RB1,sa1,sb1,rz1,sz1,rfl,wr1,ws1⟩:=Eq.open_rows2 ((hval 1 51 v1 rfl rfl)) h1;obtain⟨a2,len2,cap2,rfl⟩:=okWide_slice Tryz.underlying23 (hval 2 23 v2 rfl rfl);have k2:=h2;have lt2:∀x∈p2,x.block<W.heap.size:=by obtain⟨m,hm⟩:=k2;exact DataW.trod_lt m _ _ _ hm
 obtain⟨z2,w2⟩:∃zs,IsRow .i64 W a2 len2 cap2 zs:=by
  obtain⟨fuel,hf⟩:=h2;rcases open_ints Tryz.underlying23 Tryz.underlying3 (by kernel_rfl) hf with ⟨hcs,_⟩|⟨x,l,c,zs,hcs,_,hl,hm,hz,_,hcell,hwz⟩
  · simp[Value.cells]at hcs;obtain⟨rfl,rfl,rfl⟩:=hcs;exact⟨[],.inl ⟨rfl,rfl,rfl,rfl⟩⟩
  simp[Value.cells]at hcs;obtain⟨rfl,rfl,rfl⟩:=hcs;exact⟨zs,.inr ⟨_,rfl,hl,hm,by simpa using hz,hcell,hwz⟩⟩
 clear hA0;refine (Eq.equalGoes_any W A0 XA0 PA0 MA0 n0 c0 xn0 xc0 pn0 pc0 mn0 mc0 T00 E00 P0 M0 w0 RA1 ra1 rb1 RB1 sa1 sb1 rz1 sz1 wr1 ws1 a2 len2 cap2 z2 w2 (fun c hc=>bounds_i64 (w2.wf c hc)) hHeads).mono fun e W' ⟨he,bel⟩=>?_
 subst he;exact⟨_,rfl,_,_,_,[],_,[],hW',trodAll_mk1 (shut_bool Tryz.underlying4 _),(trodAll_cons_mk (Below.trod laidOut (by kernel_rfl) (of_decide_eq_true (by kernel_rfl)) k0 bel lt0) (trodAll_cons_mk (Below.trod laidOut (by kernel_rfl) (of_decide_eq_true (by kernel_rfl)) k1 bel lt1) (trodAll_cons_mk (Below.trod laidOut (by kernel_rfl) (of_decide_eq_true (by kernel_rfl)) k2 bel lt2) trodAll_mk0))),rfl,bel.frame _,fun h=>by cases h⟩
theorem equalGoes_reads (os:Os) {H:Type} (enc:TypeId × Value→H):∃places,DataW.whole enc Tryz.prog ((World.laidAll Tryz.prog os Rows.equalGoesRow.laid).forCall (fun _ _=>0) ⟨#[],#[Value.agg #[.slice none 0 0,.slice none 0 0,.slice none 0 0,.slice none 0 0],Value.agg #[.slice none 0 0,.slice none 0 0],Value.slice none 0 0],[]⟩).memory Tryz.f6.params.toList Rows.equalGoesSpec.vars false (#[Value.agg #[.slice none 0 0,.slice none 0 0,.slice none 0 0,.slice none 0 0],Value.agg #[.slice none 0 0,.slice none 0 0],Value.slice none 0 0]:Array Value).toList 8=some ([.agg [.agg [.nil,.nil],.nil,.nil],.agg [.nil,.nil],.nil],[],places) :=
 ⟨[],by kernel_rfl⟩
set_option maxRecDepth 100000 in
theorem equalGoes_lifted (os:Os) (started:os.Started) (H:Type) (enc:TypeId × Value→H) (F:Stop.Interp) :
 ReturnsInHanded {} Tryz.checked os 6 .any ((OpenSpec.ofChange Rows.equalGoesSpec).preRow enc Tryz.prog Tryz.f6 Rows.equalGoesRow.domain false Rows.equalGoesRow.laid) (((OpenSpec.ofChange Rows.equalGoesSpec).at F).post enc Tryz.prog Tryz.f6 false true false false):=by
 obtain⟨places,hx⟩:=equalGoes_reads os enc
 refine returnsInHanded_of_row (C:=Tryz.checked) (s:=OpenSpec.ofChange Rows.equalGoesSpec) equalGoes_own started (by kernel_rfl) Tryz.func6
  (zPU (enc:=enc) os #[Value.agg #[.slice none 0 0,.slice none 0 0,.slice none 0 0,.slice none 0 0],Value.agg #[.slice none 0 0,.slice none 0 0],Value.slice none 0 0] (World.shaped_of_ZipB (by kernel_rfl) (by kernel_rfl)) (by kernel_rfl)
    (OpenSpec.preRow_of_cond 8 hx (by kernel_rfl) (fun k hk=>by cases hk) (by kernel_rfl) (by rw[MakeChecks.laidMetH_plain _ _ _ (by kernel_rfl)];exact laidMet_laidAll _ (by kernel_rfl) (by kernel_rfl)))) ?_
 intro W base args ds gs before hval hW _ _ _ hL hS _;exact equalGoes_contract H enc W base args ds gs before hval hW hL hS
theorem equalGoes_k1:(Rows.equalGoesRow.inPlace == Tryz.pinned.checked.prog.inPlace 6)=true:=by kernel_rfl
theorem equalGoes_k2:(Rows.equalGoesRow.unfollowed == Tryz.pinned.checked.prog.unfollowed 6)=true:=by kernel_rfl
theorem equalGoes_k3:(Rows.equalGoesRow.recurses == Tryz.pinned.checked.prog.recurses 6)=true:=by kernel_rfl
theorem equalGoes_k4:(Rows.equalGoesRow.named == Tryz.pinned.checked.prog.varsNamed 6)=true:=by kernel_rfl
theorem equalGoes_closed:joinedFacts Tryz.pinned.checked.prog 6 Tryz.f6 (OpenSpec.ofChange Rows.equalGoesSpec).bare Rows.equalGoesRow=true:=by
 unfold joinedFacts;rw[equalGoes_k1,equalGoes_k2,equalGoes_k3,equalGoes_k4];kernel_rfl
theorem equalGoes_said:Rows.EqualGoesSaid :=
 OpenClaim.holds_of_cond 6 Tryz.f6 rfl rfl rfl rfl rfl rfl rfl ⟨rfl,rfl,rfl,rfl,rfl⟩ rfl rfl rfl rfl rfl (by kernel_rfl) Tryz.func6 equalGoes_closed
  (of_decide_eq_true (by kernel_rfl)) (by unfold Func.isWrapper;first|(rw[if_pos (by decide +kernel)];kernel_rfl)|(rw[if_neg (by decide +kernel)];exact⟨rfl,rfl⟩))
  (fun os started H enc _ F=>by rw[OpenClaim.pre_eq_preRow];exact equalGoes_lifted os started H enc F)
theorem equalGoes_plain (f:FuncId) (fn:Func) (hf:Tryz.pinned.checked.prog.funcNamed Rows.equalGoesRow.func=some f) (hfn:Tryz.pinned.checked.prog.funcs[f]?=some fn) :
 true=Tryz.pinned.checked.prog.looks []∧∀(j:Nat) t,fn.params[j]?=some t→Tryz.pinned.checked.prog.wantsStandIn t=false:=by
 obtain rfl:f=6:=Option.some.inj ((show Tryz.prog.funcNamed Rows.equalGoesRow.func=some 6 by kernel_rfl).symm.trans hf) |>.symm
 obtain rfl:fn=Tryz.f6:=(Option.some.inj (Tryz.func6.symm.trans hfn)).symm;refine⟨by kernel_rfl,fun j t ht=>?_⟩;rw[Tryz.params6]at ht;have hm:t∈[27,51,23]:=by simpa using Array.mem_of_getElem? ht
 have hall:([27,51,23].all fun u=>!Tryz.prog.wantsStandIn u)=true:=by kernel_rfl
 exact (show Tryz.prog.wantsStandIn t=false by simpa using List.all_eq_true.1 hall t hm)
theorem EqualGoes_card:Rows.EqualGoesCardSaid :=
 Claim7.holds_tied_plain_at .later [] _ _ _ _ equalGoes_said (fun _ h=>by cases h) (by kernel_rfl) (fun _ h=>by cases h) equalGoes_row_tie rfl ⟨rfl,rfl⟩ (by kernel_rfl) rfl equalGoes_plain (by kernel_rfl)
#print axioms EqualGoes_card
end Go.Proofs.YtjakbblocbicjaaGreatDoor
