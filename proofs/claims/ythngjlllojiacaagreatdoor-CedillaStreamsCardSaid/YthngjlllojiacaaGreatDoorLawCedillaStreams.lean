/- The card of the law CedillaStreams: for every input it answers true, and the input reads as it did, where the library's listed variables are as its text lays them (the tie is given). No other condition. -/
import Derived.Test.YthngjlllojiacaaGreatDoorLwSmTop
import Derived.Test.YthngjlllojiacaaGreatDoorTxOpen
import Derived.Test.YthngjlllojiacaaGreatDoorNfLaid
import Derived.Test.YthngjlllojiacaaGreatDoorCards
import Derived.Test.YthngjlllojiacaaGreatDoorTie
import Derived.ShutString
import Derived.ChangeOld
namespace Go.Proofs.YthngjlllojiacaaGreatDoor
open Go.ChangeShapes Go.WideShapes Go.ChangeAt Go.RowKit
open Go.ChangeMaps (open_string shut_string)
set_option linter.unusedVariables false
set_option maxRecDepth 100000
theorem cedillaStreams_own:ownKnob Tryz.prog.godebug=none:=by kernel_rfl
theorem cedillaStreams_laidOut:laidOutB Tryz.prog=true:=by kernel_rfl
set_option maxRecDepth 100000 in
theorem cedillaStreams_contract (H:Type) (enc:TypeId × Value→H) (W:World) (base:Nat) (args:Array Value) (ds gs:List (DataW H)) (before:List MemPlace)
 (hval:∀(j:Nat) t v,Tryz.f8.params[j]?=some t→args[j]?=some v→Value.okWide Tryz.prog W .any base t v)
 (hW:DataW.Whole enc Tryz.prog Tryz.f8.params.toList Rows.cedillaStreamsSpec.vars false W args.toList ds gs before) (hL:laidMetH Tryz.prog Rows.cedillaStreamsRow.laid W) (hS:W.ShapedOpen Tryz.prog) :
 Calls Tryz.prog 8 args W fun e W'=>∃v,e=.returned v∧Rows.cedillaStreamsSpec.post enc Tryz.prog Tryz.f8 false true false false W args v W':=by
 have laidOut:=cedillaStreams_laidOut;have hHeads:Nf.Laid W:=⟨Rw.laid_of (by kernel_rfl) (by simp[Rows.cedillaStreamsRow]) (by simp[Rows.cedillaStreamsRow]) (by simp[Rows.cedillaStreamsRow]) (by simp[Rows.cedillaStreamsRow]) hL hS,Nf.heads_of (by kernel_rfl) (by simp[Rows.cedillaStreamsRow]) hL⟩;have hW':=hW;obtain⟨p,q,hA0,hV,rfl,hfz,hnd⟩:=hW;have hA:DataW.TrodAll enc Tryz.prog W 0 (fun _=>true) true Tryz.f8.params.toList args.toList ds p:=hA0;rw[Tryz.params8]at hA hval;obtain⟨v0,vs0,d0,ds0,p0,q0,hargs,rfl,rfl,h0,r0⟩:=trodAll_cons hA;obtain⟨v1,vs1,d1,ds1,p1,q1,rfl,rfl,rfl,h1,r1⟩:=trodAll_cons r0;obtain⟨v2,vs2,d2,ds2,p2,q2,rfl,rfl,rfl,h2,r2⟩:=trodAll_cons r1;obtain⟨rfl,rfl,rfl⟩:=trodAll_nil r2;obtain rfl:args = #[v0,v1,v2]:=by cases args;simp_all
 obtain⟨rfl,rfl⟩:=trodVars_none hV;have k0:=h0;have lt0:∀x∈p0,x.block<W.heap.size:=by obtain⟨m,hm⟩:=k0;exact DataW.trod_lt m _ _ _ hm
 obtain⟨A0,XA0,PA0,MA0,n0,c0,xn0,xc0,pn0,pc0,mn0,mc0,T00,E00,P0,M0,rfl,w0⟩:=Tx.open_text ((hval 0 40 v0 rfl rfl)) h0;obtain⟨a1,len1,cap1,rfl⟩:=okWide_slice Tryz.underlying36 (hval 1 36 v1 rfl rfl);have k1:=h1;have lt1:∀x∈p1,x.block<W.heap.size:=by obtain⟨m,hm⟩:=k1;exact DataW.trod_lt m _ _ _ hm
 obtain⟨z1,w1⟩:∃zs,IsRow .i64 W a1 len1 cap1 zs:=by
  obtain⟨fuel,hf⟩:=h1;rcases open_ints Tryz.underlying36 Tryz.underlying3 (by kernel_rfl) hf with ⟨hcs,_⟩|⟨x,l,c,zs,hcs,_,hl,hm,hz,_,hcell,hwz⟩
  · simp[Value.cells]at hcs;obtain⟨rfl,rfl,rfl⟩:=hcs;exact⟨[],.inl ⟨rfl,rfl,rfl,rfl⟩⟩
  simp[Value.cells]at hcs;obtain⟨rfl,rfl,rfl⟩:=hcs;exact⟨zs,.inr ⟨_,rfl,hl,hm,by simpa using hz,hcell,hwz⟩⟩
 obtain⟨a2,rfl,rfl,rfl⟩:=open_bool Tryz.underlying4 (hval 2 4 v2 rfl rfl) h2;clear hA0;refine (Tp.cedillaStreams_any W A0 XA0 PA0 MA0 n0 c0 xn0 xc0 pn0 pc0 mn0 mc0 T00 E00 P0 M0 w0 a1 len1 cap1 z1 w1 (fun c hc=>bounds_i64 (w1.wf c hc)) a2 hHeads).mono fun e W' ⟨he,bel⟩=>?_
 subst he;exact⟨_,rfl,_,_,_,[],_,[],hW',trodAll_mk1 (shut_bool Tryz.underlying4 _),(trodAll_cons_mk (Below.trod laidOut (by kernel_rfl) (of_decide_eq_true (by kernel_rfl)) k0 bel lt0) (trodAll_cons_mk (Below.trod laidOut (by kernel_rfl) (of_decide_eq_true (by kernel_rfl)) k1 bel lt1) (trodAll_cons_mk (shut_bool Tryz.underlying4 a2) trodAll_mk0))),rfl,bel.frame _,fun h=>by cases h⟩
theorem cedillaStreams_reads (os:Os) {H:Type} (enc:TypeId × Value→H):∃places,DataW.whole enc Tryz.prog ((World.laidAll Tryz.prog os Rows.cedillaStreamsRow.laid).forCall (fun _ _=>0) ⟨#[],#[Value.agg #[.slice none 0 0,.slice none 0 0,.slice none 0 0,.slice none 0 0],Value.slice none 0 0,Value.bool false],[]⟩).memory Tryz.f8.params.toList Rows.cedillaStreamsSpec.vars false (#[Value.agg #[.slice none 0 0,.slice none 0 0,.slice none 0 0,.slice none 0 0],Value.slice none 0 0,Value.bool false]:Array Value).toList 8=some ([.agg [.agg [.nil,.nil],.nil,.nil],.nil,.lit (.bool false)],[],places) :=
 ⟨[],by kernel_rfl⟩
set_option maxRecDepth 100000 in
theorem cedillaStreams_lifted (os:Os) (started:os.Started) (H:Type) (enc:TypeId × Value→H) (F:Stop.Interp) :
 ReturnsInHanded {} Tryz.checked os 8 .any ((OpenSpec.ofChange Rows.cedillaStreamsSpec).preRow enc Tryz.prog Tryz.f8 Rows.cedillaStreamsRow.domain false Rows.cedillaStreamsRow.laid) (((OpenSpec.ofChange Rows.cedillaStreamsSpec).at F).post enc Tryz.prog Tryz.f8 false true false false):=by
 obtain⟨places,hx⟩:=cedillaStreams_reads os enc
 refine returnsInHanded_of_row (C:=Tryz.checked) (s:=OpenSpec.ofChange Rows.cedillaStreamsSpec) cedillaStreams_own started (by kernel_rfl) Tryz.func8
  (Fi.witness (enc:=enc) os #[Value.agg #[.slice none 0 0,.slice none 0 0,.slice none 0 0,.slice none 0 0],Value.slice none 0 0,Value.bool false] (World.shaped_of_ZipB (by kernel_rfl) (by kernel_rfl)) (by kernel_rfl)
    (OpenSpec.preRow_of_cond 8 hx (by kernel_rfl) (fun k hk=>by cases hk) (by kernel_rfl) (by rw[MakeChecks.laidMetH_plain _ _ _ (by kernel_rfl)];exact laidMet_laidAll _ (by kernel_rfl) (by kernel_rfl)))) ?_
 intro W base args ds gs before hval hW _ _ _ hL hS _;exact cedillaStreams_contract H enc W base args ds gs before hval hW hL hS
theorem cedillaStreams_k1:(Rows.cedillaStreamsRow.inPlace == Tryz.pinned.checked.prog.inPlace 8)=true:=by kernel_rfl
theorem cedillaStreams_k2:(Rows.cedillaStreamsRow.unfollowed == Tryz.pinned.checked.prog.unfollowed 8)=true:=by kernel_rfl
theorem cedillaStreams_k3:(Rows.cedillaStreamsRow.recurses == Tryz.pinned.checked.prog.recurses 8)=true:=by kernel_rfl
theorem cedillaStreams_k4:(Rows.cedillaStreamsRow.named == Tryz.pinned.checked.prog.varsNamed 8)=true:=by kernel_rfl
theorem cedillaStreams_closed:joinedFacts Tryz.pinned.checked.prog 8 Tryz.f8 (OpenSpec.ofChange Rows.cedillaStreamsSpec).bare Rows.cedillaStreamsRow=true:=by
 unfold joinedFacts;rw[cedillaStreams_k1,cedillaStreams_k2,cedillaStreams_k3,cedillaStreams_k4];kernel_rfl
theorem cedillaStreams_said:Rows.CedillaStreamsSaid :=
 OpenClaim.holds_of_cond 8 Tryz.f8 rfl rfl rfl rfl rfl rfl rfl ⟨rfl,rfl,rfl,rfl,rfl⟩ rfl rfl rfl rfl rfl (by kernel_rfl) Tryz.func8 cedillaStreams_closed
  (of_decide_eq_true (by kernel_rfl)) (by unfold Func.isWrapper;first|(rw[if_pos (by decide +kernel)];kernel_rfl)|(rw[if_neg (by decide +kernel)];exact⟨rfl,rfl⟩))
  (fun os started H enc _ F=>by rw[OpenClaim.pre_eq_preRow];exact cedillaStreams_lifted os started H enc F)
theorem cedillaStreams_plain (f:FuncId) (fn:Func) (hf:Tryz.pinned.checked.prog.funcNamed Rows.cedillaStreamsRow.func=some f) (hfn:Tryz.pinned.checked.prog.funcs[f]?=some fn) :
 true=Tryz.pinned.checked.prog.looks []∧∀(j:Nat) t,fn.params[j]?=some t→Tryz.pinned.checked.prog.wantsStandIn t=false:=by
 obtain rfl:f=8:=Option.some.inj ((show Tryz.prog.funcNamed Rows.cedillaStreamsRow.func=some 8 by kernel_rfl).symm.trans hf) |>.symm
 obtain rfl:fn=Tryz.f8:=(Option.some.inj (Tryz.func8.symm.trans hfn)).symm;refine⟨by kernel_rfl,fun j t ht=>?_⟩;rw[Tryz.params8]at ht;have hm:t∈[40,36,4]:=by simpa using Array.mem_of_getElem? ht
 have hall:([40,36,4].all fun u=>!Tryz.prog.wantsStandIn u)=true:=by kernel_rfl
 exact (show Tryz.prog.wantsStandIn t=false by simpa using List.all_eq_true.1 hall t hm)
theorem CedillaStreams_card:Rows.CedillaStreamsCardSaid :=
 Claim7.holds_tied_plain_at .later [] _ _ _ _ cedillaStreams_said (fun _ h=>by cases h) (by kernel_rfl) (fun _ h=>by cases h) cedillaStreams_row_tie rfl ⟨rfl,rfl⟩ (by kernel_rfl) rfl cedillaStreams_plain (by kernel_rfl)
#print axioms CedillaStreams_card
end Go.Proofs.YthngjlllojiacaaGreatDoor
