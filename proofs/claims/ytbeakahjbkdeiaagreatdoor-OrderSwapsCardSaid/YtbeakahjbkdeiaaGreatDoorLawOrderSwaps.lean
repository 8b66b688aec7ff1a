/- The card of the law OrderSwaps: for every input it answers true, and the input reads as it did, where the library's listed variables are as its text lays them (the tie is given). No other condition. -/
import Derived.Test.YtbeakahjbkdeiaaGreatDoorAl0
import Derived.Test.YtbeakahjbkdeiaaGreatDoorLwSwaps
import Derived.Test.YtbeakahjbkdeiaaGreatDoorRwLaid
import Derived.Test.YtbeakahjbkdeiaaGreatDoorCards
import Derived.Test.YtbeakahjbkdeiaaGreatDoorTie
import Derived.ShutString
import Derived.ChangeOld
set_option linter.unusedVariables false
set_option linter.unusedSimpArgs false
namespace Go.Proofs.YtbeakahjbkdeiaaGreatDoor
open Go.ChangeShapes Go.WideShapes Go.ChangeAt Go.RowKit
open Go.ChangeMaps (open_string shut_string)
set_option linter.unusedVariables false
set_option maxRecDepth 100000
theorem orderSwaps_own:ownKnob Tryz.prog.godebug=none:=by kernel_rfl
theorem orderSwaps_laidOut:laidOutB Tryz.prog=true:=by kernel_rfl
set_option maxRecDepth 100000 in
theorem orderSwaps_contract (H:Type) (enc:TypeId × Value→H) (W:World) (base:Nat) (args:Array Value) (ds gs:List (DataW H)) (before:List MemPlace)
 (hval:∀(j:Nat) t v,Tryz.f6.params[j]?=some t→args[j]?=some v→Value.okWide Tryz.prog W .any base t v)
 (hW:DataW.Whole enc Tryz.prog Tryz.f6.params.toList Rows.orderSwapsSpec.vars false W args.toList ds gs before) (hL:laidMetH Tryz.prog Rows.orderSwapsRow.laid W) (hS:W.ShapedOpen Tryz.prog) :
 Calls Tryz.prog 6 args W fun e W'=>∃v,e=.returned v∧Rows.orderSwapsSpec.post enc Tryz.prog Tryz.f6 false true false false W args v W':=by
 have laidOut:=orderSwaps_laidOut
 have aa:Rw.Laid W:=Rw.laid_of (by kernel_rfl) (by simp[Rows.orderSwapsRow]) (by simp[Rows.orderSwapsRow]) (by simp[Rows.orderSwapsRow]) (by simp[Rows.orderSwapsRow]) hL hS
 have av:=hW
 obtain⟨p,q,ah,hV,rfl,bc,bf⟩:=hW
 have hA:DataW.TrodAll enc Tryz.prog W 0 (fun _=>true) true Tryz.f6.params.toList args.toList ds p:=ah
 rw[Tryz.params6]at hA hval
 obtain⟨v0,a8,d0,ba,p0,q0,ag,rfl,rfl,h0,r0⟩:=trodAll_cons hA
 obtain⟨v1,bb,d1,bg,p1,q1,rfl,rfl,rfl,h1,r1⟩:=trodAll_cons r0
 obtain⟨rfl,rfl,rfl⟩:=trodAll_nil r1
 obtain rfl:args = #[v0,v1]:=by cases args;simp_all
 obtain⟨rfl,rfl⟩:=trodVars_none hV
 have k0:=h0
 have ap:∀x∈p0,x.block<W.heap.size:=by obtain⟨m,hm⟩:=k0;exact DataW.trod_lt m _ _ _ hm
 obtain⟨A0,ax,aw,a6,n0,c0,ay,aq,ao,az,au,ar,aj,ai,P0,M0,rfl,w0⟩:=Tx.open_text ((hval 0 50 v0 rfl rfl)) h0
 obtain⟨a1,af,ae,rfl⟩:=okWide_slice Tryz.underlying29 (hval 1 29 v1 rfl rfl)
 have k1:=h1
 have a7:∀x∈p1,x.block<W.heap.size:=by obtain⟨m,hm⟩:=k1;exact DataW.trod_lt m _ _ _ hm
 obtain⟨z1,w1⟩:∃zs,IsRow .i64 W a1 af ae zs:=by
  obtain⟨fuel,hf⟩:=h1
  rcases open_ints Tryz.underlying29 Tryz.underlying3 (by kernel_rfl) hf with ⟨hcs,_⟩|⟨x,l,c,zs,hcs,_,hl,hm,hz,_,hcell,ak⟩
  · simp[Value.cells]at hcs
    obtain⟨rfl,rfl,rfl⟩:=hcs
    exact⟨[],.inl ⟨rfl,rfl,rfl,rfl⟩⟩
  · simp[Value.cells]at hcs
    obtain⟨rfl,rfl,rfl⟩:=hcs
    exact⟨zs,.inr ⟨_,rfl,hl,hm,by simpa using hz,hcell,ak⟩⟩
 clear ah
 refine (Tx.orderSwaps_any W A0 ax aw a6 n0 c0 ay aq ao az au ar aj ai P0 M0 w0 a1 af ae z1 w1 (fun c hc=>bounds_i64 (w1.wf c hc)) aa).mono fun e W' ⟨he,bel⟩=>?_
 subst he
 exact⟨_,rfl,_,_,_,[],_,[],av,trodAll_mk1 (shut_bool Tryz.underlying4 _),(trodAll_cons_mk (Below.trod laidOut (by kernel_rfl) (Yd (by kernel_rfl)) k0 bel ap) (trodAll_cons_mk (Below.trod laidOut (by kernel_rfl) (Yd (by kernel_rfl)) k1 bel a7) trodAll_mk0)),rfl,bel.frame _,fun h=>by cases h⟩
theorem orderSwaps_reads (os:Os) {H:Type} (enc:TypeId × Value→H):∃places,DataW.whole enc Tryz.prog ((World.laidAll Tryz.prog os Rows.orderSwapsRow.laid).forCall (fun _ _=>0) ⟨#[],#[Value.agg #[.slice none 0 0,.slice none 0 0,.slice none 0 0,.slice none 0 0],Value.slice none 0 0],[]⟩).memory Tryz.f6.params.toList Rows.orderSwapsSpec.vars false (#[Value.agg #[.slice none 0 0,.slice none 0 0,.slice none 0 0,.slice none 0 0],Value.slice none 0 0]:Array Value).toList 8=some ([.agg [.agg [.nil,.nil],.nil,.nil],.nil],[],places) :=
 ⟨[],by kernel_rfl⟩
set_option maxRecDepth 100000 in
theorem orderSwaps_lifted (os:Os) (started:os.Started) (H:Type) (enc:TypeId × Value→H) (F:Stop.Interp) :
 ReturnsInHanded {} Tryz.checked os 6 .any ((OpenSpec.ofChange Rows.orderSwapsSpec).preRow enc Tryz.prog Tryz.f6 Rows.orderSwapsRow.domain false Rows.orderSwapsRow.laid) (((OpenSpec.ofChange Rows.orderSwapsSpec).at F).post enc Tryz.prog Tryz.f6 false true false false):=by
 obtain⟨places,hx⟩:=orderSwaps_reads os enc
 refine returnsInHanded_of_row (C:=Tryz.checked) (s:=OpenSpec.ofChange Rows.orderSwapsSpec) orderSwaps_own started (by kernel_rfl) Tryz.func6
  (Fi.witness (enc:=enc) os #[Value.agg #[.slice none 0 0,.slice none 0 0,.slice none 0 0,.slice none 0 0],Value.slice none 0 0] (World.shaped_of_ZipB (by kernel_rfl) (by kernel_rfl)) (by kernel_rfl)
    (OpenSpec.preRow_of_cond 8 hx (by kernel_rfl) (fun k hk=>by cases hk) (by kernel_rfl) (by rw[MakeChecks.laidMetH_plain _ _ _ (by kernel_rfl)];exact laidMet_laidAll _ (by kernel_rfl) (by kernel_rfl)))) ?_
 intro W base args ds gs before hval hW _ _ _ hL hS _
 exact orderSwaps_contract H enc W base args ds gs before hval hW hL hS
theorem orderSwaps_k1:(Rows.orderSwapsRow.inPlace == Tryz.pinned.checked.prog.inPlace 6)=true:=by kernel_rfl
theorem orderSwaps_k2:(Rows.orderSwapsRow.unfollowed == Tryz.pinned.checked.prog.unfollowed 6)=true:=by kernel_rfl
theorem orderSwaps_k3:(Rows.orderSwapsRow.recurses == Tryz.pinned.checked.prog.recurses 6)=true:=by kernel_rfl
theorem orderSwaps_k4:(Rows.orderSwapsRow.named == Tryz.pinned.checked.prog.varsNamed 6)=true:=by kernel_rfl
theorem orderSwaps_closed:joinedFacts Tryz.pinned.checked.prog 6 Tryz.f6 (OpenSpec.ofChange Rows.orderSwapsSpec).bare Rows.orderSwapsRow=true:=by
 unfold joinedFacts
 rw[orderSwaps_k1,orderSwaps_k2,orderSwaps_k3,orderSwaps_k4]
 kernel_rfl
theorem orderSwaps_said:Rows.OrderSwapsSaid :=
 OpenClaim.holds_of_cond 6 Tryz.f6 rfl rfl rfl rfl rfl rfl rfl ⟨rfl,rfl,rfl,rfl,rfl⟩ rfl rfl rfl rfl rfl (by kernel_rfl) Tryz.func6 orderSwaps_closed
  (of_decide_eq_true (by kernel_rfl)) (by unfold Func.isWrapper;first|(rw[if_pos (by decide +kernel)];kernel_rfl)|(rw[if_neg (by decide +kernel)];exact⟨rfl,rfl⟩))
  (fun os started H enc _ F=>by rw[OpenClaim.pre_eq_preRow];exact orderSwaps_lifted os started H enc F)
theorem orderSwaps_plain (f:FuncId) (fn:Func) (hf:Tryz.pinned.checked.prog.funcNamed Rows.orderSwapsRow.func=some f) (ae:Tryz.pinned.checked.prog.funcs[f]?=some fn) :
 true=Tryz.pinned.checked.prog.looks []∧∀(j:Nat) t,fn.params[j]?=some t→Tryz.pinned.checked.prog.wantsStandIn t=false:=by
 obtain rfl:f=6:=Z4 ((show Tryz.prog.funcNamed Rows.orderSwapsRow.func=some 6 by kernel_rfl).symm.trans hf) |>.symm
 obtain rfl:fn=Tryz.f6:=(Z4 (Tryz.func6.symm.trans ae)).symm
 refine⟨by kernel_rfl,fun j t ht=>?_⟩
 rw[Tryz.params6]at ht
 have hm:t∈[50,29]:=by simpa using Array.mem_of_getElem? ht
 have aa:([50,29].all fun u=>!Tryz.prog.wantsStandIn u)=true:=by kernel_rfl
 exact (show Tryz.prog.wantsStandIn t=false by simpa using List.all_eq_true.1 aa t hm)
theorem OrderSwaps_card:Rows.OrderSwapsCardSaid :=
 Claim7.holds_tied_plain_at .later [] _ _ _ _ orderSwaps_said (fun _ h=>by cases h) (by kernel_rfl) (fun _ h=>by cases h) orderSwaps_row_tie rfl ⟨rfl,rfl⟩ (by kernel_rfl) rfl orderSwaps_plain (by kernel_rfl)
#print axioms OrderSwaps_card
end Go.Proofs.YtbeakahjbkdeiaaGreatDoor
