/- The card of the law QuickTells: for every input it answers true, and the input reads as it did, where the library's listed variables are as its text lays them (the tie is given). No other condition. -/
import Derived.Test.YtddbccflcekdpaaGreatDoorLwQTells
import Derived.Test.YtddbccflcekdpaaGreatDoorTxOpen
import Derived.Test.YtddbccflcekdpaaGreatDoorNfLaid
import Derived.Test.YtddbccflcekdpaaGreatDoorCards
import Derived.Test.YtddbccflcekdpaaGreatDoorTie
import Derived.ShutString
import Derived.ChangeOld
namespace Go.Proofs.YtddbccflcekdpaaGreatDoor
open Go.ChangeShapes Go.WideShapes Go.ChangeAt Go.RowKit
open Go.ChangeMaps (open_string shut_string)
set_option linter.unusedVariables false
set_option maxRecDepth 100000
theorem quickTells_own:ownKnob Tryz.prog.godebug=none:=by kernel_rfl
theorem quickTells_laidOut:laidOutB Tryz.prog=true:=by kernel_rfl
set_option maxRecDepth 100000 in
theorem quickTells_contract (H:Type) (enc:TypeId × Value→H) (W:World) (base:Nat) (args:Array Value) (ds gs:List (DataW H)) (before:List MemPlace)
 (hval:∀(j:Nat) t v,Tryz.f4.params[j]?=some t→args[j]?=some v→Value.okWide Tryz.prog W .any base t v)
 (hW:DataW.Whole enc Tryz.prog Tryz.f4.params.toList Rows.quickTellsSpec.vars false W args.toList ds gs before) (hL:laidMetH Tryz.prog Rows.quickTellsRow.laid W) (hS:W.ShapedOpen Tryz.prog) :
 Calls Tryz.prog 4 args W fun e W'=>∃v,e=.returned v∧Rows.quickTellsSpec.post enc Tryz.prog Tryz.f4 false true false false W args v W':=by
 have laidOut:=quickTells_laidOut;have hHeads:Nf.Laid W:=⟨Rw.laid_of (by kernel_rfl) (by simp[Rows.quickTellsRow]) (by simp[Rows.quickTellsRow]) (by simp[Rows.quickTellsRow]) (by simp[Rows.quickTellsRow]) hL hS,Nf.heads_of (by kernel_rfl) (by simp[Rows.quickTellsRow]) hL⟩;have hW':=hW;obtain⟨p,q,hA0,hV,rfl,hfz,hnd⟩:=hW;have hA:DataW.TrodAll enc Tryz.prog W 0 (fun _=>true) true Tryz.f4.params.toList args.toList ds p:=hA0;rw[Tryz.params4]at hA hval;obtain⟨v0,vs0,d0,ds0,p0,q0,hargs,rfl,rfl,h0,r0⟩:=trodAll_cons hA;obtain⟨v1,vs1,d1,ds1,p1,q1,rfl,rfl,rfl,h1,r1⟩:=trodAll_cons r0;obtain⟨rfl,rfl,rfl⟩:=trodAll_nil r1;obtain rfl:args = #[v0,v1]:=by cases args;simp_all
 obtain⟨rfl,rfl⟩:=trodVars_none hV;have k0:=h0;have lt0:∀x∈p0,x.block<W.heap.size:=by obtain⟨m,hm⟩:=k0;exact DataW.trod_lt m _ _ _ hm
 obtain⟨A0,XA0,PA0,MA0,n0,c0,xn0,xc0,pn0,pc0,mn0,mc0,T00,E00,P0,M0,rfl,w0⟩:=Tx.open_text ((hval 0 27 v0 rfl rfl)) h0;obtain⟨a1,rfl,rfl,rfl,w1⟩:=open_string Tryz.underlying9 (hval 1 9 v1 rfl rfl) h1;clear hA0;refine (Qk.quickTells_any W A0 XA0 PA0 MA0 n0 c0 xn0 xc0 pn0 pc0 mn0 mc0 T00 E00 P0 M0 w0 a1 w1 hHeads).mono fun e W' ⟨he,bel⟩=>?_
 subst he;exact⟨_,rfl,_,_,_,[],_,[],hW',trodAll_mk1 (shut_bool Tryz.underlying4 _),(trodAll_cons_mk (Below.trod laidOut (by kernel_rfl) (of_decide_eq_true (by kernel_rfl)) k0 bel lt0) (trodAll_cons_mk (shut_string Tryz.underlying9 w1) trodAll_mk0)),rfl,bel.frame _,fun h=>by cases h⟩
theorem quickTells_reads (os:Os) {H:Type} (enc:TypeId × Value→H):∃places,DataW.whole enc Tryz.prog ((World.laidAll Tryz.prog os Rows.quickTellsRow.laid).forCall (fun _ _=>0) ⟨#[],#[Value.agg #[.slice none 0 0,.slice none 0 0,.slice none 0 0,.slice none 0 0],Value.string ⟨#[]⟩],[]⟩).memory Tryz.f4.params.toList Rows.quickTellsSpec.vars false (#[Value.agg #[.slice none 0 0,.slice none 0 0,.slice none 0 0,.slice none 0 0],Value.string ⟨#[]⟩]:Array Value).toList 8=some ([.agg [.agg [.nil,.nil],.nil,.nil],.lit (.string [])],[],places) :=
 ⟨[],by kernel_rfl⟩
set_option maxRecDepth 100000 in
theorem quickTells_lifted (os:Os) (started:os.Started) (H:Type) (enc:TypeId × Value→H) (F:Stop.Interp) :
 ReturnsInHanded {} Tryz.checked os 4 .any ((OpenSpec.ofChange Rows.quickTellsSpec).preRow enc Tryz.prog Tryz.f4 Rows.quickTellsRow.domain false Rows.quickTellsRow.laid) (((OpenSpec.ofChange Rows.quickTellsSpec).at F).post enc Tryz.prog Tryz.f4 false true false false):=by
 obtain⟨places,hx⟩:=quickTells_reads os enc
 refine returnsInHanded_of_row (C:=Tryz.checked) (s:=OpenSpec.ofChange Rows.quickTellsSpec) quickTells_own started (by kernel_rfl) Tryz.func4
  (Fi.witness (enc:=enc) os #[Value.agg #[.slice none 0 0,.slice none 0 0,.slice none 0 0,.slice none 0 0],Value.string ⟨#[]⟩] (World.shaped_of_ZipB (by kernel_rfl) (by kernel_rfl)) (by kernel_rfl)
    (OpenSpec.preRow_of_cond 8 hx (by kernel_rfl) (fun k hk=>by cases hk) (by kernel_rfl) (by rw[MakeChecks.laidMetH_plain _ _ _ (by kernel_rfl)];exact laidMet_laidAll _ (by kernel_rfl) (by kernel_rfl)))) ?_
 intro W base args ds gs before hval hW _ _ _ hL hS _;exact quickTells_contract H enc W base args ds gs before hval hW hL hS
theorem quickTells_k1:(Rows.quickTellsRow.inPlace == Tryz.pinned.checked.prog.inPlace 4)=true:=by kernel_rfl
theorem quickTells_k2:(Rows.quickTellsRow.unfollowed == Tryz.pinned.checked.prog.unfollowed 4)=true:=by kernel_rfl
theorem quickTells_k3:(Rows.quickTellsRow.recurses == Tryz.pinned.checked.prog.recurses 4)=true:=by kernel_rfl
theorem quickTells_k4:(Rows.quickTellsRow.named == Tryz.pinned.checked.prog.varsNamed 4)=true:=by kernel_rfl
theorem quickTells_closed:joinedFacts Tryz.pinned.checked.prog 4 Tryz.f4 (OpenSpec.ofChange Rows.quickTellsSpec).bare Rows.quickTellsRow=true:=by
 unfold joinedFacts;rw[quickTells_k1,quickTells_k2,quickTells_k3,quickTells_k4];kernel_rfl
theorem quickTells_said:Rows.QuickTellsSaid :=
 OpenClaim.holds_of_cond 4 Tryz.f4 rfl rfl rfl rfl rfl rfl rfl ⟨rfl,rfl,rfl,rfl,rfl⟩ rfl rfl rfl rfl rfl (by kernel_rfl) Tryz.func4 quickTells_closed
  (of_decide_eq_true (by kernel_rfl)) (by unfold Func.isWrapper;first|(rw[if_pos (by decide +kernel)];kernel_rfl)|(rw[if_neg (by decide +kernel)];exact⟨rfl,rfl⟩))
  (fun os started H enc _ F=>by rw[OpenClaim.pre_eq_preRow];exact quickTells_lifted os started H enc F)
theorem quickTells_plain (f:FuncId) (fn:Func) (hf:Tryz.pinned.checked.prog.funcNamed Rows.quickTellsRow.func=some f) (hfn:Tryz.pinned.checked.prog.funcs[f]?=some fn) :
 true=Tryz.pinned.checked.prog.looks []∧∀(j:Nat) t,fn.params[j]?=some t→Tryz.pinned.checked.prog.wantsStandIn t=false:=by
 obtain rfl:f=4:=Option.some.inj ((show Tryz.prog.funcNamed Rows.quickTellsRow.func=some 4 by kernel_rfl).symm.trans hf) |>.symm
 obtain rfl:fn=Tryz.f4:=(Option.some.inj (Tryz.func4.symm.trans hfn)).symm;refine⟨by kernel_rfl,fun j t ht=>?_⟩;rw[Tryz.params4]at ht;have hm:t∈[27,9]:=by simpa using Array.mem_of_getElem? ht
 have hall:([27,9].all fun u=>!Tryz.prog.wantsStandIn u)=true:=by kernel_rfl
 exact (show Tryz.prog.wantsStandIn t=false by simpa using List.all_eq_true.1 hall t hm)
theorem QuickTells_card:Rows.QuickTellsCardSaid :=
 Claim7.holds_tied_plain_at .later [] _ _ _ _ quickTells_said (fun _ h=>by cases h) (by kernel_rfl) (fun _ h=>by cases h) quickTells_row_tie rfl ⟨rfl,rfl⟩ (by kernel_rfl) rfl quickTells_plain (by kernel_rfl)
#print axioms QuickTells_card
end Go.Proofs.YtddbccflcekdpaaGreatDoor
