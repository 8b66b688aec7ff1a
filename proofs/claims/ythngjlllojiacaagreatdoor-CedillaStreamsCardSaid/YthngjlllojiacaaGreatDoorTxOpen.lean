import Derived.Test.YthngjlllojiacaaGreatDoorRwOpen
import Derived.Lib.SmallJoins
import Derived.Test.YthngjlllojiacaaGreatDoorNcTwo
import Derived.Test.YthngjlllojiacaaGreatDoorFiBits
import Derived.Test.YthngjlllojiacaaGreatDoorRows
import Derived.ProofKit
import Derived.OpenShut
import Derived.Deep.DeepHandedRow
import Derived.Lib.LaidTab
import Derived.Lib.LaidU8
import Derived.LaidMore
import Derived.LaidLaws
import Derived.Lay
import Derived.Shelf.Vars
import Derived.MakeChecks
import Derived.Test.YthngjlllojiacaaGreatDoorExPlain
import Derived.LaidHandle
import Derived.Test.YthngjlllojiacaaGreatDoorUtfC
import Derived.Deep.Strs
namespace Go.Proofs.YthngjlllojiacaaGreatDoor
open Go.ChangeShapes Go.WideShapes Go.RowKit Go.Deep Go.Joins
set_option linter.unusedVariables false
theorem Md.one_slice {H:Type} {enc:TypeId × Value→H} {P:Program} {w:World} {t e:TypeId} {fuel:Nat} {v:Value} {x:DataW H × List MemPlace} (ht:P.underlying t=some (.slice e)) (h:DataW.trod enc P w 0 (fun _=>true) true fuel t [v]=some x) :
 ∃a len cap,v=.slice a len cap:=by
 rcases open_slice ht h with ⟨hcs,_⟩|⟨ad,l,c,m,n,D,Pl,hcs,_⟩
 · simp only[List.cons.injEq,and_true]at hcs;exact⟨_,_,_,hcs⟩
 simp only[List.cons.injEq,and_true]at hcs;exact⟨_,_,_,hcs⟩
theorem Md.isRow_of {H:Type} {enc:TypeId × Value→H} {P:Program} {w:World} {t q:TypeId} {fuel:Nat} {a:Option Addr} {len cap:Nat} {x:DataW H × List MemPlace} (k2:P.underlying t=some (.slice q)) (k3:P.underlying q=some (.int .i64)) (c3:P.cellsOf q=1)
 (h:DataW.trod enc P w 0 (fun _=>true) true fuel t [.slice a len cap]=some x):∃zs,IsRow .i64 w a len cap zs:=by
 rcases open_ints k2 k3 c3 h with ⟨hcs,_⟩|⟨x,l,c,zs,hcs,_,hl,hm,hz,_,hcell,hwz⟩
 · simp only[List.cons.injEq,Value.slice.injEq,and_true]at hcs;obtain⟨rfl,rfl,rfl⟩:=hcs;exact⟨[],.inl ⟨rfl,rfl,rfl,rfl⟩⟩
 simp only[List.cons.injEq,Value.slice.injEq,and_true]at hcs;obtain⟨rfl,rfl,rfl⟩:=hcs;exact⟨zs,.inr ⟨_,rfl,hl,hm,by simpa using hz,hcell,hwz⟩⟩
set_option maxRecDepth 100000 in
theorem Md.open_tab {H:Type} {enc:TypeId × Value→H} {W:World} {v:Value} {d:DataW H} {p:List MemPlace} (hv:Value.okWide Tryz.prog W .any 0 38 v) (h:DataW.Trod enc Tryz.prog W 0 (fun _=>true) true 38 v d p) :
 ∃A n c XA xn xc l zs,v=.agg #[.slice A n c,.slice XA xn xc]∧zQp W A n c l∧IsRow .i64 W XA xn xc zs:=by
 obtain⟨c0,c1,y0,y1,m,rfl,rfl,rfl,hy0,hy1⟩:=open_agg2 Tryz.underlying38 (by kernel_rfl) (by kernel_rfl) hv h;obtain⟨A,n,c,rfl⟩:=Md.one_slice Tryz.underlying35 hy0;obtain⟨XA,xn,xc,rfl⟩:=Md.one_slice Tryz.underlying36 hy1;obtain⟨l,hl⟩:=zRm (q:=3) Tryz.underlying35 Tryz.underlying74 (by kernel_rfl) rfl rfl rfl (by kernel_rfl) (by kernel_rfl) (by kernel_rfl) (by kernel_rfl) (by kernel_rfl) (by kernel_rfl) (by kernel_rfl) (by kernel_rfl) hy0;obtain⟨zs,hzs⟩:=Md.isRow_of Tryz.underlying36 Tryz.underlying3 (by kernel_rfl) hy1;exact⟨A,n,c,XA,xn,xc,l,zs,rfl,hl,hzs⟩
theorem Tx.cells:Tryz.prog.cellsOf 40=4∧Tryz.prog.cellsOf 38=2∧Tryz.prog.cellsOf 36=1∧Tryz.prog.cellsOf 35=1:=⟨by kernel_rfl,by kernel_rfl,by kernel_rfl,by kernel_rfl⟩
set_option maxRecDepth 100000 in
theorem Tx.open_text {H:Type} {enc:TypeId × Value→H} {W:World} {v:Value} {d:DataW H} {p:List MemPlace} (hv:Value.okWide Tryz.prog W .any 0 40 v) (h:DataW.Trod enc Tryz.prog W 0 (fun _=>true) true 40 v d p) :
 ∃A XA PA MA n c xn xc pn pc mn mc T0 E0 P M,v=.agg #[.slice A n c,.slice XA xn xc,.slice PA pn pc,.slice MA mn mc]∧Tx.In A XA PA MA n c xn xc pn pc mn mc T0 E0 P M W:=by
 obtain⟨e1,e2,e3,e4⟩:=Tx.cells;obtain⟨cs,rfl,hsz⟩:=okWide_struct Tryz.underlying40 hv;rw[e1]at hsz;obtain⟨l⟩:=cs;rcases l with _|⟨c0,_|⟨c1,_|⟨c2,_|⟨c3,_|⟨c4,l⟩⟩⟩⟩⟩ <;> simp at hsz
 obtain⟨fuel,hf⟩:=h;obtain⟨y0,y1,y2,m,hx,_,h0,h1,h2⟩:=trod_struct3 Tryz.underlying40 hf;simp only[e2,e3,Value.cells,List.drop_zero,List.drop_succ_cons,List.take_succ_cons,List.take_zero]at h0 h1 h2;obtain⟨u0,u1,m',hx',_,k0,k1⟩:=trod_struct2 Tryz.underlying38 h0;simp only[e3,e4,List.drop_zero,List.drop_succ_cons,List.take_succ_cons,List.take_zero]at k0 k1;obtain⟨A,n,c,rfl⟩:=Md.one_slice Tryz.underlying35 k0;obtain⟨XA,xn,xc,rfl⟩:=Md.one_slice Tryz.underlying36 k1;obtain⟨PA,pn,pc,rfl⟩:=Md.one_slice Tryz.underlying36 h1;obtain⟨MA,mn,mc,rfl⟩:=Md.one_slice Tryz.underlying36 h2;obtain⟨l,ads,hads,hlen,hlc,hcm,hS,hSm,hbd⟩:=zRm (q:=3) Tryz.underlying35 Tryz.underlying74 (by kernel_rfl) rfl rfl rfl (by kernel_rfl) (by kernel_rfl) (by kernel_rfl) (by kernel_rfl) (by kernel_rfl) (by kernel_rfl) (by kernel_rfl) (by kernel_rfl) k0;obtain⟨xs,hxs⟩:=Md.isRow_of Tryz.underlying36 Tryz.underlying3 (by kernel_rfl) k1;obtain⟨ps,hps⟩:=Md.isRow_of Tryz.underlying36 Tryz.underlying3 (by kernel_rfl) h1;obtain⟨ms,hms⟩:=Md.isRow_of Tryz.underlying36 Tryz.underlying3 (by kernel_rfl) h2;obtain⟨a1,a2,a3⟩:=hxs.len_le;obtain⟨b1,b2,b3⟩:=hps.len_le;obtain⟨d1,d2,d3⟩:=hms.len_le;exact⟨A,XA,PA,MA,n,c,xn,xc,pn,pc,mn,mc,l,xs.take xn,ps.take pn,ms.take mn,rfl,hlen,by rw[List.length_take];omega,by rw[List.length_take];omega,by rw[List.length_take];omega,by omega,by omega,by omega,by omega,hbd,⟨ads,hads,hS,hSm⟩,hxs.sl xn (Nat.le_refl _),hps.sl pn (Nat.le_refl _),hms.sl mn (Nat.le_refl _)⟩
end Go.Proofs.YthngjlllojiacaaGreatDoor
namespace Go.Proofs.YthngjlllojiacaaGreatDoor
open Go.ChangeShapes Go.WideShapes Go.ChangeAt Go.RowKit
set_option maxRecDepth 100000
set_option linter.unusedVariables false
set_option linter.unusedSimpArgs false
theorem Fi.gMax (w:World) (h:w.ShapedOpen Tryz.prog):∃m:Int,w.cell? ⟨1,0,none⟩=some (.int .i64 m) :=
 cell_of_shapedOpen_int h (of_decide_eq_true (by kernel_rfl)) (by kernel_rfl:((begin Tryz.prog (fun _ _=>0) default).world.heap[1]?).bind Obj.row?=some (#[.int .i64 0],3)) (by kernel_rfl) (by kernel_rfl) (by kernel_rfl) Tryz.underlying3
def Fi.zs64:List Int:=[0,1,56,2,57,49,28,3,61,58,42,50,38,29,17,4,62,47,59,36,45,43,51,22,53,39,33,30,24,18,12,5,63,55,48,27,60,41,37,16,46,35,44,21,52,32,23,11,54,26,40,15,34,20,31,10,25,14,19,9,13,8,7,6]
theorem Fi.gTab:Tryz.prog.globalNamed "math/bits.deBruijn64tab" = some 9:=by kernel_rfl
theorem Fi.tTab:(Tryz.prog.globals[9]?).map (·.type)=some 347:=by kernel_rfl
theorem Fi.cTab:Tryz.prog.cellsOf 347=64:=by kernel_rfl
theorem Fi.cU8:Tryz.prog.cellsOf 5=1:=by kernel_rfl
theorem Fi.tabData {H:Type}:(Rows.laid_math_bits_deBruijn64tab:DataW H)=Lib.tabData .u8 Fi.zs64:=rfl
theorem Fi.laid_of {laid:List (String × DataW Unit)} (hp:(laid.all fun x=>x.2.handleName?.isNone)=true) (hm:("math/bits.deBruijn64tab",Rows.laid_math_bits_deBruijn64tab)∈laid) {W:World} (h:laidMetH Tryz.prog laid W) (hsh:W.ShapedOpen Tryz.prog):Fi.Laid W:=by
 rw[MakeChecks.laidMetH_plain _ _ _ hp]at h;refine⟨Fi.gMax W hsh,?_⟩;obtain⟨g,t,cs,fuel,p,h1,h2,h3,h4⟩:=Lib.laidMet.reads h hm;obtain rfl:=Option.some.inj (Fi.gTab.symm.trans h1);obtain rfl:=Option.some.inj (Fi.tTab.symm.trans h2);rw[Fi.tabData]at h4
 have hT:Lib.TabIs Tryz.prog W "math/bits.deBruijn64tab" .u8 Fi.zs64:=by
  unfold Lib.TabIs;rw[h3,←Lib.cells_of_tab Tryz.underlying347 Tryz.underlying5 Fi.cU8 Fi.cTab h4]
 exact hT.cell Fi.gTab 15 (by decide)
theorem Fi.witness {H:Type} {enc:TypeId × Value→H} (os:Os) {f:FuncId} {fn:Func} {s:OpenSpec} {conds:List PathCond} {apart:Bool} {laid:List (String × DataW Unit)} (args:Array Value)
 (hsh:(World.laidAll Tryz.prog os laid).Shaped Tryz.prog)
 (hok:Input.okWideB Tryz.prog ((World.laidAll Tryz.prog os laid).forCall (fun _ _=>0) ⟨#[],args,[]⟩) f ⟨#[],args,[]⟩=true)
 (hrow:s.preRow enc Tryz.prog fn conds apart laid ((World.laidAll Tryz.prog os laid).forCall (fun _ _=>0) ⟨#[],args,[]⟩).memory args) :
 ∃(w:World) (tape:Tape) (i:Input),w.os=os∧(w.forCall tape i).Shaped Tryz.prog∧i.vars=[]∧Input.okWide Tryz.prog (w.forCall tape i) .any w.heap.size f i ∧
  s.preRow enc Tryz.prog fn conds apart laid (w.forCall tape i).memory i.args∧({}:Assume).holds Tryz.prog (lone (Frame.enter Tryz.prog f i.args .normal) [] (w.forCall tape i)) :=
 ⟨World.laidAll Tryz.prog os laid,fun _ _=>0,⟨#[],args,[]⟩,World.laidAll_os _ _ _,hsh,(Input.okWide_of_okWideB (base:=0) hok).1,(Input.okWide_of_okWideB hok).2,hrow,by
  simp only[Assume.holds];exact⟨by simp,by simp,fun _=>Modest.zero,by simp,by simp⟩⟩
set_option maxRecDepth 100000
set_option linter.unusedVariables false
set_option linter.unusedSimpArgs false
theorem Rw.gPow:Tryz.prog.globalNamed "internal/strconv.uint64pow10" = some 3:=by kernel_rfl
theorem Rw.tPow:(Tryz.prog.globals[3]?).map (·.type)=some 319:=by kernel_rfl
theorem Rw.cPow:Tryz.prog.cellsOf 319=20:=by kernel_rfl
theorem Rw.cU64:Tryz.prog.cellsOf 285=1:=by kernel_rfl
theorem Rw.powData {H:Type}:(Rows.laid_internal_strconv_uint64pow10:DataW H)=Lib.tabData .u64 Lib.pow10Tab:=rfl
theorem Rw.tSyn:(Tryz.prog.globals[6]?).map (·.type)=some 60:=by kernel_rfl
theorem Rw.tRng:(Tryz.prog.globals[7]?).map (·.type)=some 60:=by kernel_rfl
theorem Rw.laid_of {laid:List (String × DataW Unit)} (hp:(laid.all fun x=>x.2.handleName?.isNone)=true) (hm:("math/bits.deBruijn64tab",Rows.laid_math_bits_deBruijn64tab)∈laid)
 (hm2:("internal/strconv.uint64pow10",Rows.laid_internal_strconv_uint64pow10)∈laid) (hm3:("strconv.ErrSyntax",Rows.laid_strconv_ErrSyntax)∈laid) (hm4:("strconv.ErrRange",Rows.laid_strconv_ErrRange)∈laid)
 {W:World} (h:laidMetH Tryz.prog laid W) (hsh:W.ShapedOpen Tryz.prog):Rw.Laid W:=by
 refine⟨Fi.laid_of hp hm h hsh,?_,?_,?_⟩
 · rw[MakeChecks.laidMetH_plain _ _ _ hp]at h;obtain⟨g,t,cs,fuel,p,h1,h2,h3,h4⟩:=Lib.laidMet.reads h hm2;obtain rfl:=Option.some.inj (Rw.gPow.symm.trans h1);obtain rfl:=Option.some.inj (Rw.tPow.symm.trans h2);rw[Rw.powData]at h4;unfold Lib.TabIs;rw[h3,←Lib.cells_of_tab Tryz.underlying319 Tryz.underlying285 Rw.cU64 Rw.cPow h4]
 · rw[MakeChecks.laidMetH_plain _ _ _ hp]at h;obtain⟨g,t,cs,fuel,p,h1,h2,h3,h4⟩:=Lib.laidMet.reads h hm3;obtain rfl:=Option.some.inj (zRJ.symm.trans h1);obtain rfl:=Option.some.inj (Rw.tSyn.symm.trans h2);obtain⟨f',u,v,hcs,_,_⟩:=iface_of_trod Tryz.underlying60 h4;exact⟨u,v,by rw[h3,Array.eq_one_of_toList hcs]⟩
 rw[MakeChecks.laidMetH_plain _ _ _ hp]at h;obtain⟨g,t,cs,fuel,p,h1,h2,h3,h4⟩:=Lib.laidMet.reads h hm4;obtain rfl:=Option.some.inj (zRK.symm.trans h1);obtain rfl:=Option.some.inj (Rw.tRng.symm.trans h2);obtain⟨f',u,v,hcs,_,_⟩:=iface_of_trod Tryz.underlying60 h4;exact⟨u,v,by rw[h3,Array.eq_one_of_toList hcs]⟩
theorem gHeads:Tryz.prog.globalNamed "cedilla/utf.heads" = some 0:=by kernel_rfl
theorem tHeads:(Tryz.prog.globals[0]?).map (·.type)=some 192:=by kernel_rfl
theorem cHeads:Tryz.prog.cellsOf 192=12:=by kernel_rfl
theorem cHead:Tryz.prog.cellsOf 191=3:=by kernel_rfl
theorem cU8:Tryz.prog.cellsOf 5=1:=by kernel_rfl
theorem cI32:Tryz.prog.cellsOf 21=1:=by kernel_rfl
theorem head_row {H:Type} {enc:TypeId × Value→H} {W:World} {base:Nat} {spare:Nat→Bool} {held:Bool} {fuel:Nat} {a b c:Value} {x:DataW H × List MemPlace} {p q r:Int}
 (h:DataW.trod enc Tryz.prog W base spare held fuel 191 [a,b,c]=some x) (hx:x.1=.agg [.lit (.int .u8 p),.lit (.int .u8 q),.lit (.int .i32 r)]) :
 a=.int .u8 p∧b=.int .u8 q∧c=.int .i32 r:=by
 obtain⟨y0,y1,y2,n,rfl,_,h0,h1,h2⟩:=Deep.trod_struct3 Tryz.underlying191 h;simp only[cU8,cI32,List.drop_zero,List.drop_succ_cons,List.take_succ_cons,List.take_zero]at h0 h1 h2;obtain⟨k0,e0,f0,_⟩:=DataW.trod_int Tryz.underlying5 h0;obtain⟨k1,e1,f1,_⟩:=DataW.trod_int Tryz.underlying5 h1;obtain⟨k2,e2,f2,_⟩:=DataW.trod_int Tryz.underlying21 h2;subst f0 f1 f2;simp only[DataW.agg.injEq,List.cons.injEq,DataW.lit.injEq,Lit.int.injEq,true_and,and_true]at hx;simp at e0 e1 e2;obtain⟨rfl,rfl,rfl⟩:=hx;exact⟨e0,e1,e2⟩
theorem heads_of_laid {W:World} (h:laidMetH Tryz.prog [("cedilla/utf.heads",Rows.laid_cedilla_utf_heads)] W):Heads W:=by
 rw[MakeChecks.laidMetH_plain _ _ _ (by kernel_rfl)]at h;obtain⟨ps,⟨g0,t0,cs0,f0,p0,q0,hg0,ht0,hv0,hd0,_,_⟩,_,_⟩:=h;obtain rfl:=Option.some.inj (gHeads.symm.trans hg0);obtain rfl:=Option.some.inj (tHeads.symm.trans ht0);obtain⟨xs,m,rfl,hx1,hlen,hn,hel⟩:=DataW.trod_array Tryz.underlying192 hd0;rw[cHeads]at hlen;rw[cHead]at hel;obtain⟨l⟩:=cs0;simp only[]at hlen hel;rcases l with _|⟨c0,_|⟨c1,_|⟨c2,_|⟨c3,_|⟨c4,_|⟨c5,_|⟨c6,_|⟨c7,_|⟨c8,_|⟨c9,_|⟨c10,_|⟨c11,_|⟨c12,l⟩⟩⟩⟩⟩⟩⟩⟩⟩⟩⟩⟩⟩ <;> simp at hlen
 rcases xs with _|⟨x0,_|⟨x1,_|⟨x2,_|⟨x3,_|⟨x4,xs⟩⟩⟩⟩⟩ <;> simp at hn
 simp only[Rows.laid_cedilla_utf_heads,Prod.mk.injEq,DataW.agg.injEq,List.map_cons,List.map_nil,List.cons.injEq,and_true]at hx1;obtain⟨⟨z0,z1,z2,z3⟩,_⟩:=hx1;obtain⟨rfl,rfl,rfl⟩:=head_row (hel 0 (by decide)) z0.symm;obtain⟨rfl,rfl,rfl⟩:=head_row (hel 1 (by decide)) z1.symm;obtain⟨rfl,rfl,rfl⟩:=head_row (hel 2 (by decide)) z2.symm;obtain⟨rfl,rfl,rfl⟩:=head_row (hel 3 (by decide)) z3.symm;simp only[World.var?,gHeads,Option.bind_some]at hv0;split at hv0
 · rename_i cs t fr hb;simp only[Option.some.injEq]at hv0;subst hv0;exact⟨t,fr,hb⟩
 cases hv0
noncomputable def laidWorld (os:Os):World :=
 { World.holding Tryz.prog os ⟨#[],#[],[]⟩ with heap:=(World.holding Tryz.prog os ⟨#[],#[],[]⟩).heap.modify 0 fun
  | .cells _ t frozen=>.cells U.row t frozen
  | o=>o }
theorem laid_met (os:Os) (args:Array Value):laidMet Tryz.prog [("cedilla/utf.heads",Rows.laid_cedilla_utf_heads)] ((laidWorld os).forCall (fun _ _=>0) ⟨#[],args,[]⟩).memory :=
 laidMet_of_run' 8 (by kernel_rfl) (by kernel_rfl)
theorem Nf.heads_of {laid:List (String × DataW Unit)} (hp:(laid.all fun x=>x.2.handleName?.isNone)=true) (hm:("cedilla/utf.heads",Rows.laid_cedilla_utf_heads)∈laid) {W:World} (h:laidMetH Tryz.prog laid W):Heads W:=by
 rw[MakeChecks.laidMetH_plain _ _ _ hp]at h;obtain⟨g0,t0,cs0,f0,p0,hg0,ht0,hv0,hd0⟩:=Lib.laidMet.reads h hm;obtain rfl:=Option.some.inj (gHeads.symm.trans hg0);obtain rfl:=Option.some.inj (tHeads.symm.trans ht0);obtain⟨xs,m,rfl,hx1,hlen,hn,hel⟩:=DataW.trod_array Tryz.underlying192 hd0;rw[cHeads]at hlen;rw[cHead]at hel;obtain⟨l⟩:=cs0;simp only[]at hlen hel;rcases l with _|⟨c0,_|⟨c1,_|⟨c2,_|⟨c3,_|⟨c4,_|⟨c5,_|⟨c6,_|⟨c7,_|⟨c8,_|⟨c9,_|⟨c10,_|⟨c11,_|⟨c12,l⟩⟩⟩⟩⟩⟩⟩⟩⟩⟩⟩⟩⟩ <;> simp at hlen
 rcases xs with _|⟨x0,_|⟨x1,_|⟨x2,_|⟨x3,_|⟨x4,xs⟩⟩⟩⟩⟩ <;> simp at hn
 simp only[Rows.laid_cedilla_utf_heads,Prod.mk.injEq,DataW.agg.injEq,List.map_cons,List.map_nil,List.cons.injEq,and_true]at hx1;obtain⟨⟨z0,z1,z2,z3⟩,_⟩:=hx1;obtain⟨rfl,rfl,rfl⟩:=head_row (hel 0 (by decide)) z0.symm;obtain⟨rfl,rfl,rfl⟩:=head_row (hel 1 (by decide)) z1.symm;obtain⟨rfl,rfl,rfl⟩:=head_row (hel 2 (by decide)) z2.symm;obtain⟨rfl,rfl,rfl⟩:=head_row (hel 3 (by decide)) z3.symm;simp only[World.var?,gHeads,Option.bind_some]at hv0;split at hv0
 · rename_i cs t fr hb;simp only[Option.some.injEq]at hv0;subst hv0;exact⟨t,fr,hb⟩
 cases hv0
end Go.Proofs.YthngjlllojiacaaGreatDoor
