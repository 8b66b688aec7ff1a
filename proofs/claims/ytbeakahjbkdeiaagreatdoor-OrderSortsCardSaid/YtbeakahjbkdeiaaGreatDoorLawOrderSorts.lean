/- The card of the law OrderSorts: for every input it answers true, and the input reads as it did, where the library's listed variables are as its text lays them (the tie is given). No other condition. -/
import Derived.Test.YtbeakahjbkdeiaaGreatDoorAl0
import Derived.Test.YtbeakahjbkdeiaaGreatDoorLwSorts
import Derived.Test.YtbeakahjbkdeiaaGreatDoorRwLaid
import Derived.Test.YtbeakahjbkdeiaaGreatDoorCards
import Derived.Test.YtbeakahjbkdeiaaGreatDoorTie
import Derived.ShutString
import Derived.ChangeOld
set_option linter.unusedVariables false
set_option linter.unusedSimpArgs false
namespace Go.Proofs.YtbeakahjbkdeiaaGreatDoor
open Go.ChangeShapes Go.WideShapes Go.ChangeAt Go.RowKit
open Go.ChangeMaps (open_string shut_string)
set_option linter.unusedVariables false
set_option maxRecDepth 100000
theorem orderSorts_own:ownKnob Tryz.prog.godebug=none:=by kernel_rfl
theorem orderSorts_laidOut:laidOutB Tryz.prog=true:=by kernel_rfl
set_option maxRecDepth 100000 in
theorem orderSorts_contract (H:Type) (enc:TypeId × Value→H) (W:World) (base:Nat) (args:Array Value) (ds gs:List (DataW H)) (before:List MemPlace)
 (hval:∀(j:Nat) t v,Tryz.f5.params[j]?=some t→args[j]?=some v→Value.okWide Tryz.prog W .any base t v)
 (hW:DataW.Whole enc Tryz.prog Tryz.f5.params.toList Rows.orderSortsSpec.vars false W args.toList ds gs before) (hL:laidMetH Tryz.prog Rows.orderSortsRow.laid W) (hS:W.ShapedOpen Tryz.prog) :
 Calls Tryz.prog 5 args W fun e W'=>∃v,e=.returned v∧Rows.orderSortsSpec.post enc Tryz.prog Tryz.f5 false true false false W args v W':=by
 have laidOut:=orderSorts_laidOut
 have aa:Rw.Laid W:=Rw.laid_of (by kernel_rfl) (by simp[Rows.orderSortsRow]) (by simp[Rows.orderSortsRow]) (by simp[Rows.orderSortsRow]) (by simp[Rows.orderSortsRow]) hL hS
 have ag:=hW
 obtain⟨p,q,ae,hV,rfl,ay,a1⟩:=hW
 have hA:DataW.TrodAll enc Tryz.prog W 0 (fun _=>true) true Tryz.f5.params.toList args.toList ds p:=ae
 rw[Tryz.params5]at hA hval
 obtain⟨v0,az,d0,a6,p0,q0,af,rfl,rfl,h0,r0⟩:=trodAll_cons hA
 obtain⟨rfl,rfl,rfl⟩:=trodAll_nil r0
 obtain rfl:args = #[v0]:=by cases args;simp_all
 obtain⟨rfl,rfl⟩:=trodVars_none hV
 have k0:=h0
 have ao:∀x∈p0,x.block<W.heap.size:=by obtain⟨m,hm⟩:=k0;exact DataW.trod_lt m _ _ _ hm
 obtain⟨A0,ar,ah,ax,n0,c0,au,aq,ak,aw,av,ap,aj,ai,P0,M0,rfl,w0⟩:=Tx.open_text ((hval 0 50 v0 rfl rfl)) h0
 clear ae
 refine (Tx.orderSorts_any W A0 ar ah ax n0 c0 au aq ak aw av ap aj ai P0 M0 w0 aa).mono fun e W' ⟨he,bel⟩=>?_
 subst he
 exact⟨_,rfl,_,_,_,[],_,[],ag,trodAll_mk1 (shut_bool Tryz.underlying4 _),(trodAll_cons_mk (Below.trod laidOut (by kernel_rfl) (Yd (by kernel_rfl)) k0 bel ao) trodAll_mk0),rfl,bel.frame _,fun h=>by cases h⟩
theorem orderSorts_reads (os:Os) {H:Type} (enc:TypeId × Value→H):∃places,DataW.whole enc Tryz.prog ((World.laidAll Tryz.prog os Rows.orderSortsRow.laid).forCall (fun _ _=>0) ⟨#[],#[Value.agg #[.slice none 0 0,.slice none 0 0,.slice none 0 0,.slice none 0 0]],[]⟩).memory Tryz.f5.params.toList Rows.orderSortsSpec.vars false (#[Value.agg #[.slice none 0 0,.slice none 0 0,.slice none 0 0,.slice none 0 0]]:Array Value).toList 8=some ([.agg [.agg [.nil,.nil],.nil,.nil]],[],places) :=
 ⟨[],by kernel_rfl⟩
set_option maxRecDepth 100000 in
theorem orderSorts_lifted (os:Os) (started:os.Started) (H:Type) (enc:TypeId × Value→H) (F:Stop.Interp) :
 ReturnsInHanded {} Tryz.checked os 5 .any ((OpenSpec.ofChange Rows.orderSortsSpec).preRow enc Tryz.prog Tryz.f5 Rows.orderSortsRow.domain false Rows.orderSortsRow.laid) (((OpenSpec.ofChange Rows.orderSortsSpec).at F).post enc Tryz.prog Tryz.f5 false true false false):=by
 obtain⟨places,hx⟩:=orderSorts_reads os enc
 refine returnsInHanded_of_row (C:=Tryz.checked) (s:=OpenSpec.ofChange Rows.orderSortsSpec) orderSorts_own started (by kernel_rfl) Tryz.func5
  (Fi.witness (enc:=enc) os #[Value.agg #[.slice none 0 0,.slice none 0 0,.slice none 0 0,.slice none 0 0]] (World.shaped_of_ZipB (by kernel_rfl) (by kernel_rfl)) (by kernel_rfl)
    (OpenSpec.preRow_of_cond 8 hx (by kernel_rfl) (fun k hk=>by cases hk) (by kernel_rfl) (by rw[MakeChecks.laidMetH_plain _ _ _ (by kernel_rfl)];exact laidMet_laidAll _ (by kernel_rfl) (by kernel_rfl)))) ?_
 intro W base args ds gs before hval hW _ _ _ hL hS _
 exact orderSorts_contract H enc W base args ds gs before hval hW hL hS
theorem orderSorts_k1:(Rows.orderSortsRow.inPlace == Tryz.pinned.checked.prog.inPlace 5)=true:=by kernel_rfl
theorem orderSorts_k2:(Rows.orderSortsRow.unfollowed == Tryz.pinned.checked.prog.unfollowed 5)=true:=by kernel_rfl
theorem orderSorts_k3:(Rows.orderSortsRow.recurses == Tryz.pinned.checked.prog.recurses 5)=true:=by kernel_rfl
theorem orderSorts_k4:(Rows.orderSortsRow.named == Tryz.pinned.checked.prog.varsNamed 5)=true:=by kernel_rfl
theorem orderSorts_closed:joinedFacts Tryz.pinned.checked.prog 5 Tryz.f5 (OpenSpec.ofChange Rows.orderSortsSpec).bare Rows.orderSortsRow=true:=by
 unfold joinedFacts
 rw[orderSorts_k1,orderSorts_k2,orderSorts_k3,orderSorts_k4]
 kernel_rfl
theorem orderSorts_said:Rows.OrderSortsSaid :=
 OpenClaim.holds_of_cond 5 Tryz.f5 rfl rfl rfl rfl rfl rfl rfl ⟨rfl,rfl,rfl,rfl,rfl⟩ rfl rfl rfl rfl rfl (by kernel_rfl) Tryz.func5 orderSorts_closed
  (of_decide_eq_true (by kernel_rfl)) (by unfold Func.isWrapper;first|(rw[if_pos (by decide +kernel)];kernel_rfl)|(rw[if_neg (by decide +kernel)];exact⟨rfl,rfl⟩))
  (fun os started H enc _ F=>by rw[OpenClaim.pre_eq_preRow];exact orderSorts_lifted os started H enc F)
theorem orderSorts_plain (f:FuncId) (fn:Func) (hf:Tryz.pinned.checked.prog.funcNamed Rows.orderSortsRow.func=some f) (ae:Tryz.pinned.checked.prog.funcs[f]?=some fn) :
 true=Tryz.pinned.checked.prog.looks []∧∀(j:Nat) t,fn.params[j]?=some t→Tryz.pinned.checked.prog.wantsStandIn t=false:=by
 obtain rfl:f=5:=Z4 ((show Tryz.prog.funcNamed Rows.orderSortsRow.func=some 5 by kernel_rfl).symm.trans hf) |>.symm
 obtain rfl:fn=Tryz.f5:=(Z4 (Tryz.func5.symm.trans ae)).symm
 refine⟨by kernel_rfl,fun j t ht=>?_⟩
 rw[Tryz.params5]at ht
 have hm:t∈[50]:=by simpa using Array.mem_of_getElem? ht
 have aa:([50].all fun u=>!Tryz.prog.wantsStandIn u)=true:=by kernel_rfl
 exact (show Tryz.prog.wantsStandIn t=false by simpa using List.all_eq_true.1 aa t hm)
theorem OrderSorts_card:Rows.OrderSortsCardSaid :=
 Claim7.holds_tied_plain_at .later [] _ _ _ _ orderSorts_said (fun _ h=>by cases h) (by kernel_rfl) (fun _ h=>by cases h) orderSorts_row_tie rfl ⟨rfl,rfl⟩ (by kernel_rfl) rfl orderSorts_plain (by kernel_rfl)
#print axioms OrderSorts_card
end Go.Proofs.YtbeakahjbkdeiaaGreatDoor
