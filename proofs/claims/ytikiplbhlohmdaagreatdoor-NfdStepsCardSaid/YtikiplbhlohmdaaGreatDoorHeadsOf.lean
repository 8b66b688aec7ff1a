/- A document's table that came in. -/
import Derived.Lib.SmallJoins
import Derived.Test.YtikiplbhlohmdaaGreatDoorSlCut
import Derived.Deep.DeepHandedRow
import Derived.Lib.LaidU8
import Derived.LaidMore
import Derived.Lay
set_option linter.unusedVariables false
set_option linter.unusedSimpArgs false
namespace Go.Proofs.YtikiplbhlohmdaaGreatDoor
open Go.ChangeShapes Go.WideShapes Go.RowKit Go.Deep Go.Joins
theorem Md.one_slice {H:Type} {enc:TypeId × Value→H} {P:Program} {w:World} {t e:TypeId} {fuel:Nat} {v:Value} {x:DataW H × List MemPlace} (ht:P.underlying t=some (.slice e)) (h:DataW.trod enc P w 0 (fun _=>true) true fuel t [v]=some x) :
 ∃a len cap,v=.slice a len cap:=by
 rcases open_slice ht h with ⟨hcs,_⟩|⟨ad,l,c,m,n,D,Pl,hcs,_⟩
 · simp only[Yd,YH]at hcs
   exact⟨_,_,_,hcs⟩
 · simp only[Yd,YH]at hcs
   exact⟨_,_,_,hcs⟩
theorem Md.isRow_of {H:Type} {enc:TypeId × Value→H} {P:Program} {w:World} {t q:TypeId} {fuel:Nat} {a:Option Addr} {len cap:Nat} {x:DataW H × List MemPlace} (k2:P.underlying t=some (.slice q)) (k3:P.underlying q=some (.int .i64)) (c3:P.cellsOf q=1)
 (h:DataW.trod enc P w 0 (fun _=>true) true fuel t [.slice a len cap]=some x):∃zs,IsRow .i64 w a len cap zs:=by
 rcases open_ints k2 k3 c3 h with ⟨hcs,_⟩|⟨x,l,c,zs,hcs,_,hl,hm,hz,_,hcell,aa⟩
 · simp only[Yd,Z3,YH]at hcs
   obtain⟨rfl,rfl,rfl⟩:=hcs
   exact⟨[],.inl ⟨rfl,rfl,rfl,rfl⟩⟩
 · simp only[Yd,Z3,YH]at hcs
   obtain⟨rfl,rfl,rfl⟩:=hcs
   exact⟨zs,.inr ⟨_,rfl,hl,hm,by simpa using hz,hcell,aa⟩⟩
theorem Tx.cells:Tryz.prog.cellsOf 27=4∧Tryz.prog.cellsOf 25=2∧Tryz.prog.cellsOf 23=1∧Tryz.prog.cellsOf 22=1:=⟨by kernel_rfl,by kernel_rfl,by kernel_rfl,by kernel_rfl⟩
set_option maxRecDepth 100000 in
theorem Tx.open_text {H:Type} {enc:TypeId × Value→H} {W:World} {v:Value} {d:DataW H} {p:List MemPlace} (hv:Value.okWide Tryz.prog W .any 0 27 v) (h:DataW.Trod enc Tryz.prog W 0 (fun _=>true) true 27 v d p) :
 ∃A XA PA MA n c xn xc pn pc mn mc T0 E0 P M,v=.agg #[.slice A n c,.slice XA xn xc,.slice PA pn pc,.slice MA mn mc]∧Tx.In A XA PA MA n c xn xc pn pc mn mc T0 E0 P M W:=by
 obtain⟨e1,e2,e3,e4⟩:=Tx.cells
 obtain⟨cs,rfl,ag⟩:=okWide_struct Tryz.underlying27 hv
 rw[e1]at ag
 obtain⟨l⟩:=cs
 rcases l with _|⟨c0,_|⟨c1,_|⟨c2,_|⟨c3,_|⟨c4,l⟩⟩⟩⟩⟩ <;> simp at ag
 obtain⟨fuel,hf⟩:=h
 obtain⟨y0,y1,y2,m,hx,_,h0,h1,h2⟩:=trod_struct3 Tryz.underlying27 hf
 simp only[e2,e3,Value.cells,XW,XP,Xb,List.take_zero]at h0 h1 h2
 obtain⟨u0,u1,m',aj,_,k0,k1⟩:=trod_struct2 Tryz.underlying25 h0
 simp only[e3,e4,XW,XP,Xb,List.take_zero]at k0 k1
 obtain⟨A,n,c,rfl⟩:=Md.one_slice Tryz.underlying22 k0
 obtain⟨XA,xn,xc,rfl⟩:=Md.one_slice Tryz.underlying23 k1
 obtain⟨PA,pn,pc,rfl⟩:=Md.one_slice Tryz.underlying23 h1
 obtain⟨MA,mn,mc,rfl⟩:=Md.one_slice Tryz.underlying23 h2
 obtain⟨l,ads,aa,hlen,ao,ak,hS,ai,hbd⟩:=Rw.isRows_of (q:=3) Tryz.underlying22 Tryz.underlying61 (by kernel_rfl) rfl rfl rfl (by kernel_rfl) (by kernel_rfl) (by kernel_rfl) (by kernel_rfl) (by kernel_rfl) (by kernel_rfl) (by kernel_rfl) (by kernel_rfl) k0
 obtain⟨xs,af⟩:=Md.isRow_of Tryz.underlying23 Tryz.underlying3 (by kernel_rfl) k1
 obtain⟨ps,ah⟩:=Md.isRow_of Tryz.underlying23 Tryz.underlying3 (by kernel_rfl) h1
 obtain⟨ms,ae⟩:=Md.isRow_of Tryz.underlying23 Tryz.underlying3 (by kernel_rfl) h2
 obtain⟨a1,a2,a3⟩:=af.len_le
 obtain⟨b1,b2,b3⟩:=ah.len_le
 obtain⟨d1,d2,d3⟩:=ae.len_le
 exact⟨A,XA,PA,MA,n,c,xn,xc,pn,pc,mn,mc,l,xs.take xn,ps.take pn,ms.take mn,rfl,hlen,by rw[Zq];omega,by rw[Zq];omega,by rw[Zq];omega,by omega,by omega,by omega,by omega,hbd,⟨ads,aa,hS,ai⟩,af.sl xn (Zb _),ah.sl pn (Zb _),ae.sl mn (Zb _)⟩
end Go.Proofs.YtikiplbhlohmdaaGreatDoor
namespace Go.Proofs.YtikiplbhlohmdaaGreatDoor
open Go.ChangeShapes Go.WideShapes Go.ChangeAt Go.RowKit
set_option maxRecDepth 100000
theorem Fi.gMax (w:World) (h:w.ShapedOpen Tryz.prog):∃m:Int,w.cell? ⟨1,0,none⟩=some (.int .i64 m) :=
 cell_of_shapedOpen_int h (Yg (by kernel_rfl)) (by kernel_rfl:((begin Tryz.prog (fun _ _=>0) default).world.heap[1]?).bind Obj.row?=some (#[.int .i64 0],3)) (by kernel_rfl) (by kernel_rfl) (by kernel_rfl) Tryz.underlying3
def Fi.zs64:List Int:=[0,1,56,2,57,49,28,3,61,58,42,50,38,29,17,4,62,47,59,36,45,43,51,22,53,39,33,30,24,18,12,5,63,55,48,27,60,41,37,16,46,35,44,21,52,32,23,11,54,26,40,15,34,20,31,10,25,14,19,9,13,8,7,6]
theorem Fi.gTab:Tryz.prog.globalNamed "math/bits.deBruijn64tab" = some 9:=by kernel_rfl
theorem Fi.tTab:(Tryz.prog.globals[9]?).map (·.type)=some 331:=by kernel_rfl
theorem Fi.cTab:Tryz.prog.cellsOf 331=64:=by kernel_rfl
theorem Fi.cU8:Tryz.prog.cellsOf 5=1:=by kernel_rfl
theorem Fi.tabData {H:Type}:(Rows.laid_math_bits_deBruijn64tab:DataW H)=Lib.tabData .u8 Fi.zs64:=rfl
theorem Fi.laid_of {laid:List (String × DataW Unit)} (hp:(laid.all fun x=>x.2.handleName?.isNone)=true) (hm:("math/bits.deBruijn64tab",Rows.laid_math_bits_deBruijn64tab)∈laid) {W:World} (h:laidMetH Tryz.prog laid W) (aa:W.ShapedOpen Tryz.prog):Fi.Laid W:=by
 rw[MakeChecks.laidMetH_plain _ _ _ hp]at h
 refine⟨Fi.gMax W aa,?_⟩
 obtain⟨g,t,cs,fuel,p,h1,h2,h3,h4⟩:=Lib.laidMet.reads h hm
 obtain rfl:=ZU (Fi.gTab.symm.trans h1)
 obtain rfl:=ZU (Fi.tTab.symm.trans h2)
 rw[Fi.tabData]at h4
 have hT:Lib.TabIs Tryz.prog W "math/bits.deBruijn64tab" .u8 Fi.zs64:=by
  unfold Lib.TabIs
  rw[h3,←Lib.cells_of_tab Tryz.underlying331 Tryz.underlying5 Fi.cU8 Fi.cTab h4]
 exact hT.cell Fi.gTab 15 (by decide)
theorem Fi.witness {H:Type} {enc:TypeId × Value→H} (os:Os) {f:FuncId} {fn:Func} {s:OpenSpec} {conds:List PathCond} {apart:Bool} {laid:List (String × DataW Unit)} (args:Array Value)
 (af:(World.laidAll Tryz.prog os laid).Shaped Tryz.prog)
 (ae:Input.okWideB Tryz.prog ((World.laidAll Tryz.prog os laid).forCall (fun _ _=>0) ⟨#[],args,[]⟩) f ⟨#[],args,[]⟩=true)
 (aa:s.preRow enc Tryz.prog fn conds apart laid ((World.laidAll Tryz.prog os laid).forCall (fun _ _=>0) ⟨#[],args,[]⟩).memory args) :
 ∃(w:World) (tape:Tape) (i:Input),w.os=os∧(w.forCall tape i).Shaped Tryz.prog∧i.vars=[]∧Input.okWide Tryz.prog (w.forCall tape i) .any w.heap.size f i ∧
  s.preRow enc Tryz.prog fn conds apart laid (w.forCall tape i).memory i.args∧({}:Assume).holds Tryz.prog (lone (Frame.enter Tryz.prog f i.args .normal) [] (w.forCall tape i)) :=
 ⟨World.laidAll Tryz.prog os laid,fun _ _=>0,⟨#[],args,[]⟩,World.laidAll_os _ _ _,af,(Input.okWide_of_okWideB (base:=0) ae).1,(Input.okWide_of_okWideB ae).2,aa,by
  simp only[Assume.holds]
  exact⟨by simp,by simp,fun _=>Modest.zero,by simp,by simp⟩⟩
set_option maxRecDepth 100000
theorem Rw.gPow:Tryz.prog.globalNamed "internal/strconv.uint64pow10" = some 3:=by kernel_rfl
theorem Rw.tPow:(Tryz.prog.globals[3]?).map (·.type)=some 303:=by kernel_rfl
theorem Rw.cPow:Tryz.prog.cellsOf 303=20:=by kernel_rfl
theorem Rw.cU64:Tryz.prog.cellsOf 271=1:=by kernel_rfl
theorem Rw.powData {H:Type}:(Rows.laid_internal_strconv_uint64pow10:DataW H)=Lib.tabData .u64 Lib.pow10Tab:=rfl
theorem Rw.tSyn:(Tryz.prog.globals[6]?).map (·.type)=some 70:=by kernel_rfl
theorem Rw.tRng:(Tryz.prog.globals[7]?).map (·.type)=some 70:=by kernel_rfl
theorem Rw.laid_of {laid:List (String × DataW Unit)} (hp:(laid.all fun x=>x.2.handleName?.isNone)=true) (hm:("math/bits.deBruijn64tab",Rows.laid_math_bits_deBruijn64tab)∈laid)
 (aa:("internal/strconv.uint64pow10",Rows.laid_internal_strconv_uint64pow10)∈laid) (af:("strconv.ErrSyntax",Rows.laid_strconv_ErrSyntax)∈laid) (ag:("strconv.ErrRange",Rows.laid_strconv_ErrRange)∈laid)
 {W:World} (h:laidMetH Tryz.prog laid W) (ae:W.ShapedOpen Tryz.prog):Rw.Laid W:=by
 refine⟨Fi.laid_of hp hm h ae,?_,?_,?_⟩
 · rw[MakeChecks.laidMetH_plain _ _ _ hp]at h
   obtain⟨g,t,cs,fuel,p,h1,h2,h3,h4⟩:=Lib.laidMet.reads h aa
   obtain rfl:=ZU (Rw.gPow.symm.trans h1)
   obtain rfl:=ZU (Rw.tPow.symm.trans h2)
   rw[Rw.powData]at h4
   unfold Lib.TabIs
   rw[h3,←Lib.cells_of_tab Tryz.underlying303 Tryz.underlying271 Rw.cU64 Rw.cPow h4]
 · rw[MakeChecks.laidMetH_plain _ _ _ hp]at h
   obtain⟨g,t,cs,fuel,p,h1,h2,h3,h4⟩:=Lib.laidMet.reads h af
   obtain rfl:=ZU (Fi.gSyn.symm.trans h1)
   obtain rfl:=ZU (Rw.tSyn.symm.trans h2)
   obtain⟨f',u,v,hcs,_,_⟩:=iface_of_trod Tryz.underlying70 h4
   exact⟨u,v,by rw[h3,Array.eq_one_of_toList hcs]⟩
 · rw[MakeChecks.laidMetH_plain _ _ _ hp]at h
   obtain⟨g,t,cs,fuel,p,h1,h2,h3,h4⟩:=Lib.laidMet.reads h ag
   obtain rfl:=ZU (Fi.gRng.symm.trans h1)
   obtain rfl:=ZU (Rw.tRng.symm.trans h2)
   obtain⟨f',u,v,hcs,_,_⟩:=iface_of_trod Tryz.underlying70 h4
   exact⟨u,v,by rw[h3,Array.eq_one_of_toList hcs]⟩
theorem gHeads:Tryz.prog.globalNamed "cedilla/utf.heads" = some 0:=by kernel_rfl
theorem tHeads:(Tryz.prog.globals[0]?).map (·.type)=some 146:=by kernel_rfl
theorem cHeads:Tryz.prog.cellsOf 146=12:=by kernel_rfl
theorem cHead:Tryz.prog.cellsOf 145=3:=by kernel_rfl
theorem cU8:Tryz.prog.cellsOf 5=1:=by kernel_rfl
theorem cI32:Tryz.prog.cellsOf 21=1:=by kernel_rfl
theorem head_row {H:Type} {enc:TypeId × Value→H} {W:World} {base:Nat} {spare:Nat→Bool} {held:Bool} {fuel:Nat} {a b c:Value} {x:DataW H × List MemPlace} {p q r:Int}
 (h:DataW.trod enc Tryz.prog W base spare held fuel 145 [a,b,c]=some x) (hx:x.1=.agg [.lit (.int .u8 p),.lit (.int .u8 q),.lit (.int .i32 r)]) :
 a=.int .u8 p∧b=.int .u8 q∧c=.int .i32 r:=by
 obtain⟨y0,y1,y2,n,rfl,_,h0,h1,h2⟩:=Deep.trod_struct3 Tryz.underlying145 h
 simp only[cU8,cI32,XW,XP,Xb,List.take_zero]at h0 h1 h2
 obtain⟨k0,e0,f0,_⟩:=DataW.trod_int Tryz.underlying5 h0
 obtain⟨k1,e1,f1,_⟩:=DataW.trod_int Tryz.underlying5 h1
 obtain⟨k2,e2,f2,_⟩:=DataW.trod_int Tryz.underlying21 h2
 subst f0 f1 f2
 simp only[DataW.agg.injEq,Yd,DataW.lit.injEq,Lit.int.injEq,X0,YH]at hx
 simp at e0 e1 e2
 obtain⟨rfl,rfl,rfl⟩:=hx
 exact⟨e0,e1,e2⟩
theorem Nf.heads_of {laid:List (String × DataW Unit)} (hp:(laid.all fun x=>x.2.handleName?.isNone)=true) (hm:("cedilla/utf.heads",Rows.laid_cedilla_utf_heads)∈laid) {W:World} (h:laidMetH Tryz.prog laid W):Heads W:=by
 rw[MakeChecks.laidMetH_plain _ _ _ hp]at h
 obtain⟨g0,t0,ah,f0,p0,ai,aj,ae,ag⟩:=Lib.laidMet.reads h hm
 obtain rfl:=ZU (gHeads.symm.trans ai)
 obtain rfl:=ZU (tHeads.symm.trans aj)
 obtain⟨xs,m,rfl,af,hlen,hn,aa⟩:=DataW.trod_array Tryz.underlying146 ag
 rw[cHeads]at hlen
 rw[cHead]at aa
 obtain⟨l⟩:=ah
 simp only[]at hlen aa
 rcases l with _|⟨c0,_|⟨c1,_|⟨c2,_|⟨c3,_|⟨c4,_|⟨c5,_|⟨c6,_|⟨c7,_|⟨c8,_|⟨c9,_|⟨ao,_|⟨ak,_|⟨c12,l⟩⟩⟩⟩⟩⟩⟩⟩⟩⟩⟩⟩⟩ <;> simp at hlen
 rcases xs with _|⟨x0,_|⟨x1,_|⟨x2,_|⟨x3,_|⟨x4,xs⟩⟩⟩⟩⟩ <;> simp at hn
 simp only[Rows.laid_cedilla_utf_heads,Yy,DataW.agg.injEq,ZT,Ys,Yd,YH]at af
 obtain⟨⟨z0,z1,z2,z3⟩,_⟩:=af
 obtain⟨rfl,rfl,rfl⟩:=head_row (aa 0 (by decide)) z0.symm
 obtain⟨rfl,rfl,rfl⟩:=head_row (aa 1 (by decide)) z1.symm
 obtain⟨rfl,rfl,rfl⟩:=head_row (aa 2 (by decide)) z2.symm
 obtain⟨rfl,rfl,rfl⟩:=head_row (aa 3 (by decide)) z3.symm
 simp only[World.var?,gHeads,Zr]at ae
 split at ae
 · rename_i cs t fr hb
   simp only[Zi]at ae
   subst ae
   exact⟨t,fr,hb⟩
 · cases ae
end Go.Proofs.YtikiplbhlohmdaaGreatDoor
