/- A document's table that came in. -/
import Derived.Lib.SmallJoins
import Derived.Test.YtdbpjmfflofadaaGreatDoorSlCut
import Derived.Deep.DeepHandedRow
import Derived.Lib.LaidU8
import Derived.LaidMore
import Derived.Lay
set_option maxRecDepth 100000
set_option linter.unusedVariables false
set_option linter.unusedSimpArgs false
namespace Go.Proofs.YtdbpjmfflofadaaGreatDoor
open Go.Proofs.Tryz
section
open Go.ChangeShapes Go.WideShapes Go.RowKit Go.Deep Go.Joins
theorem zDJ {H:Type} {enc:TypeId × Value→H} {P:Program} {w:World} {t e:TypeId} {fuel:Nat} {v:Value} {x:DataW H × List MemPlace} (ht:P.underlying t=some (.slice e)) (h:DataW.trod enc P w 0 (fun _=>true) true fuel t [v]=some x) :
 ∃a len cap,v=.slice a len cap:=by
 rcases open_slice ht h with ⟨hcs,_⟩|⟨ad,l,c,m,n,D,Pl,hcs,_⟩
 · simp only[Z7,Yl]at hcs;exact⟨_,_,_,hcs⟩
 simp only[Z7,Yl]at hcs;exact⟨_,_,_,hcs⟩
theorem zGv {H:Type} {enc:TypeId × Value→H} {P:Program} {w:World} {t q:TypeId} {fuel:Nat} {a:Option Addr} {len cap:Nat} {x:DataW H × List MemPlace} (k2:P.underlying t=some (.slice q)) (k3:P.underlying q=some (.int .i64)) (c3:P.cellsOf q=1)
 (h:DataW.trod enc P w 0 (fun _=>true) true fuel t [.slice a len cap]=some x):∃zs,IsRow .i64 w a len cap zs:=by
 rcases open_ints k2 k3 c3 h with ⟨hcs,_⟩|⟨x,l,c,zs,hcs,_,hl,hm,hz,_,hcell,aa⟩
 · simp only[Z7,ZX,Yl]at hcs;obtain⟨rfl,rfl,rfl⟩:=hcs;exact⟨[],.inl ⟨rfl,rfl,rfl,rfl⟩⟩
 simp only[Z7,ZX,Yl]at hcs;obtain⟨rfl,rfl,rfl⟩:=hcs;exact⟨zs,.inr ⟨_,rfl,hl,hm,by simpa using hz,hcell,aa⟩⟩
theorem Tx.cells:prog.cellsOf 40=4∧prog.cellsOf 38=2∧prog.cellsOf 36=1∧prog.cellsOf 35=1:=⟨by kernel_rfl,by kernel_rfl,by kernel_rfl,by kernel_rfl⟩
theorem zFn {H:Type} {enc:TypeId × Value→H} {W:World} {v:Value} {d:DataW H} {p:List MemPlace} (hv:Value.okWide prog W .any 0 40 v) (h:DataW.Trod enc prog W 0 (fun _=>true) true 40 v d p) :
 ∃A XA PA MA n c xn xc pn pc mn mc T0 E0 P M,v=.agg #[.slice A n c,.slice XA xn xc,.slice PA pn pc,.slice MA mn mc]∧Tx.In A XA PA MA n c xn xc pn pc mn mc T0 E0 P M W:=by
 obtain⟨e1,e2,e3,e4⟩:=Tx.cells;obtain⟨cs,rfl,ah⟩:=okWide_struct underlying40 hv;rw[e1]at ah;obtain⟨l⟩:=cs;rcases l with _|⟨c0,_|⟨c1,_|⟨c2,_|⟨c3,_|⟨c4,l⟩⟩⟩⟩⟩ <;> simp at ah
 obtain⟨fuel,hf⟩:=h;obtain⟨y0,y1,y2,m,hx,_,h0,h1,h2⟩:=trod_struct3 underlying40 hf;simp only[e2,e3,Value.cells,Xg,Qa,Xl,X3]at h0 h1 h2;obtain⟨u0,u1,m',aj,_,k0,k1⟩:=trod_struct2 underlying38 h0;simp only[e3,e4,Xg,Qa,Xl,X3]at k0 k1;obtain⟨A,n,c,rfl⟩:=zDJ underlying35 k0;obtain⟨XA,xn,xc,rfl⟩:=zDJ underlying36 k1;obtain⟨PA,pn,pc,rfl⟩:=zDJ underlying36 h1;obtain⟨MA,mn,mc,rfl⟩:=zDJ underlying36 h2;obtain⟨l,ads,aa,hlen,ak,ao,hS,ai,hbd⟩:=zNr (q:=3) underlying35 underlying73 (by kernel_rfl) rfl rfl rfl (by kernel_rfl) (by kernel_rfl) (by kernel_rfl) (by kernel_rfl) (by kernel_rfl) (by kernel_rfl) (by kernel_rfl) (by kernel_rfl) k0;obtain⟨xs,ag⟩:=zGv underlying36 underlying3 (by kernel_rfl) k1;obtain⟨ps,af⟩:=zGv underlying36 underlying3 (by kernel_rfl) h1;obtain⟨ms,ae⟩:=zGv underlying36 underlying3 (by kernel_rfl) h2;obtain⟨a1,a2,a3⟩:=ag.len_le;obtain⟨b1,b2,b3⟩:=af.len_le;obtain⟨d1,d2,d3⟩:=ae.len_le;exact⟨A,XA,PA,MA,n,c,xn,xc,pn,pc,mn,mc,l,xs.take xn,ps.take pn,ms.take mn,rfl,hlen,by rw[Zn];omega,by rw[Zn];omega,by rw[Zn];omega,by omega,by omega,by omega,by omega,hbd,⟨ads,aa,hS,ai⟩,ag.sl xn (Za _),af.sl pn (Za _),ae.sl mn (Za _)⟩
end
section
open Go.ChangeShapes Go.WideShapes Go.ChangeAt Go.RowKit
theorem zTo (w:World) (h:w.ShapedOpen prog):∃m:Int,w.cell? ⟨1,0,none⟩=some (.int .i64 m) :=
 cell_of_shapedOpen_int h (Yf (by kernel_rfl)) (by kernel_rfl:((begin prog (fun _ _=>0) default).world.heap[1]?).bind Obj.row?=some (#[.int .i64 0],3)) (by kernel_rfl) (by kernel_rfl) (by kernel_rfl) underlying3
def zS6:List Int:=[0,1,56,2,57,49,28,3,61,58,42,50,38,29,17,4,62,47,59,36,45,43,51,22,53,39,33,30,24,18,12,5,63,55,48,27,60,41,37,16,46,35,44,21,52,32,23,11,54,26,40,15,34,20,31,10,25,14,19,9,13,8,7,6]
theorem zS7:prog.globalNamed "math/bits.deBruijn64tab" = some 9:=by kernel_rfl
theorem zTp:(prog.globals[9]?).map (·.type)=some 346:=by kernel_rfl
theorem zTq:prog.cellsOf 346=64:=by kernel_rfl
theorem zTQ:prog.cellsOf 5=1:=by kernel_rfl
theorem Fi.tabData {H:Type}:(Rows.laid_math_bits_deBruijn64tab:DataW H)=Lib.tabData .u8 zS6:=rfl
theorem Fi.laid_of {laid:List (String × DataW Unit)} (hp:(laid.all fun x=>x.2.handleName?.isNone)=true) (hm:("math/bits.deBruijn64tab",Rows.laid_math_bits_deBruijn64tab)∈laid) {W:World} (h:laidMetH prog laid W) (aa:W.ShapedOpen prog):Fi.Laid W:=by
 rw[MakeChecks.laidMetH_plain _ _ _ hp]at h;refine⟨zTo W aa,?_⟩;obtain⟨g,t,cs,fuel,p,h1,h2,h3,h4⟩:=Lib.laidMet.reads h hm;obtain rfl:=Z6 (zS7.symm.trans h1);obtain rfl:=Z6 (zTp.symm.trans h2);rw[Fi.tabData]at h4
 have hT:Lib.TabIs prog W "math/bits.deBruijn64tab" .u8 zS6:=by
  unfold Lib.TabIs;rw[h3,←Lib.cells_of_tab underlying346 underlying5 zTQ zTq h4]
 exact hT.cell zS7 15 (by decide)
theorem zFO {H:Type} {enc:TypeId × Value→H} (os:Os) {f:FuncId} {fn:Func} {s:OpenSpec} {conds:List PathCond} {apart:Bool} {laid:List (String × DataW Unit)} (args:Array Value)
 (af:(World.laidAll prog os laid).Shaped prog)
 (ae:Input.okWideB prog ((World.laidAll prog os laid).forCall (fun _ _=>0) ⟨#[],args,[]⟩) f ⟨#[],args,[]⟩=true)
 (aa:s.preRow enc prog fn conds apart laid ((World.laidAll prog os laid).forCall (fun _ _=>0) ⟨#[],args,[]⟩).memory args) :
 ∃(w:World) (tape:Tape) (i:Input),w.os=os∧(w.forCall tape i).Shaped prog∧i.vars=[]∧Input.okWide prog (w.forCall tape i) .any w.heap.size f i ∧
  s.preRow enc prog fn conds apart laid (w.forCall tape i).memory i.args∧({}:Assume).holds prog (lone (Frame.enter prog f i.args .normal) [] (w.forCall tape i)) :=
 ⟨World.laidAll prog os laid,fun _ _=>0,⟨#[],args,[]⟩,World.laidAll_os _ _ _,af,(Ja (base:=0) ae).1,(Ja ae).2,aa,by
  simp only[Assume.holds];exact⟨by simp,by simp,fun _=>Modest.zero,by simp,by simp⟩⟩
theorem zTr:prog.globalNamed "internal/strconv.uint64pow10" = some 3:=by kernel_rfl
theorem zTs:(prog.globals[3]?).map (·.type)=some 316:=by kernel_rfl
theorem zTt:prog.cellsOf 316=20:=by kernel_rfl
theorem zTu:prog.cellsOf 281=1:=by kernel_rfl
theorem zQN {H:Type}:(Rows.laid_internal_strconv_uint64pow10:DataW H)=Lib.tabData .u64 Lib.pow10Tab:=rfl
theorem zTv:(prog.globals[6]?).map (·.type)=some 58:=by kernel_rfl
theorem zTw:(prog.globals[7]?).map (·.type)=some 58:=by kernel_rfl
theorem Rw.laid_of {laid:List (String × DataW Unit)} (hp:(laid.all fun x=>x.2.handleName?.isNone)=true) (hm:("math/bits.deBruijn64tab",Rows.laid_math_bits_deBruijn64tab)∈laid)
 (ae:("internal/strconv.uint64pow10",Rows.laid_internal_strconv_uint64pow10)∈laid) (af:("strconv.ErrSyntax",Rows.laid_strconv_ErrSyntax)∈laid) (ag:("strconv.ErrRange",Rows.laid_strconv_ErrRange)∈laid)
 {W:World} (h:laidMetH prog laid W) (aa:W.ShapedOpen prog):Rw.Laid W:=by
 refine⟨Fi.laid_of hp hm h aa,?_,?_,?_⟩
 · rw[MakeChecks.laidMetH_plain _ _ _ hp]at h;obtain⟨g,t,cs,fuel,p,h1,h2,h3,h4⟩:=Lib.laidMet.reads h ae;obtain rfl:=Z6 (zTr.symm.trans h1);obtain rfl:=Z6 (zTs.symm.trans h2);rw[zQN]at h4;unfold Lib.TabIs;rw[h3,←Lib.cells_of_tab underlying316 underlying281 zTu zTt h4]
 · rw[MakeChecks.laidMetH_plain _ _ _ hp]at h;obtain⟨g,t,cs,fuel,p,h1,h2,h3,h4⟩:=Lib.laidMet.reads h af;obtain rfl:=Z6 (zRL.symm.trans h1);obtain rfl:=Z6 (zTv.symm.trans h2);obtain⟨f',u,v,hcs,_,_⟩:=iface_of_trod underlying58 h4;exact⟨u,v,by rw[h3,Array.eq_one_of_toList hcs]⟩
 rw[MakeChecks.laidMetH_plain _ _ _ hp]at h;obtain⟨g,t,cs,fuel,p,h1,h2,h3,h4⟩:=Lib.laidMet.reads h ag;obtain rfl:=Z6 (zRM.symm.trans h1);obtain rfl:=Z6 (zTw.symm.trans h2);obtain⟨f',u,v,hcs,_,_⟩:=iface_of_trod underlying58 h4;exact⟨u,v,by rw[h3,Array.eq_one_of_toList hcs]⟩
theorem zSQ:prog.globalNamed "cedilla/utf.heads" = some 0:=by kernel_rfl
theorem zTR:(prog.globals[0]?).map (·.type)=some 191:=by kernel_rfl
theorem zTS:prog.cellsOf 191=12:=by kernel_rfl
theorem cHead:prog.cellsOf 190=3:=by kernel_rfl
theorem cU8:prog.cellsOf 5=1:=by kernel_rfl
theorem cI32:prog.cellsOf 21=1:=by kernel_rfl
theorem zIH {H:Type} {enc:TypeId × Value→H} {W:World} {base:Nat} {spare:Nat→Bool} {held:Bool} {fuel:Nat} {a b c:Value} {x:DataW H × List MemPlace} {p q r:Int}
 (h:DataW.trod enc prog W base spare held fuel 190 [a,b,c]=some x) (hx:x.1=.agg [.lit (.int .u8 p),.lit (.int .u8 q),.lit (.int .i32 r)]) :
 a=.int .u8 p∧b=.int .u8 q∧c=.int .i32 r:=by
 obtain⟨y0,y1,y2,n,rfl,_,h0,h1,h2⟩:=Deep.trod_struct3 underlying190 h;simp only[cU8,cI32,Xg,Qa,Xl,X3]at h0 h1 h2;obtain⟨k0,e0,f0,_⟩:=Qq underlying5 h0;obtain⟨k1,e1,f1,_⟩:=Qq underlying5 h1;obtain⟨k2,e2,f2,_⟩:=Qq underlying21 h2;subst f0 f1 f2;simp only[DataW.agg.injEq,Z7,DataW.lit.injEq,Lit.int.injEq,Qc,Yl]at hx;simp at e0 e1 e2;obtain⟨rfl,rfl,rfl⟩:=hx;exact⟨e0,e1,e2⟩
theorem zEJ {laid:List (String × DataW Unit)} (hp:(laid.all fun x=>x.2.handleName?.isNone)=true) (hm:("cedilla/utf.heads",Rows.laid_cedilla_utf_heads)∈laid) {W:World} (h:laidMetH prog laid W):Heads W:=by
 rw[MakeChecks.laidMetH_plain _ _ _ hp]at h;obtain⟨g0,t0,aj,f0,p0,ag,ai,ae,ah⟩:=Lib.laidMet.reads h hm;obtain rfl:=Z6 (zSQ.symm.trans ag);obtain rfl:=Z6 (zTR.symm.trans ai);obtain⟨xs,m,rfl,af,hlen,hn,aa⟩:=DataW.trod_array underlying191 ah;rw[zTS]at hlen;rw[cHead]at aa;obtain⟨l⟩:=aj;simp only[]at hlen aa;rcases l with _|⟨c0,_|⟨c1,_|⟨c2,_|⟨c3,_|⟨c4,_|⟨c5,_|⟨c6,_|⟨c7,_|⟨c8,_|⟨c9,_|⟨ao,_|⟨ak,_|⟨c12,l⟩⟩⟩⟩⟩⟩⟩⟩⟩⟩⟩⟩⟩ <;> simp at hlen
 rcases xs with _|⟨x0,_|⟨x1,_|⟨x2,_|⟨x3,_|⟨x4,xs⟩⟩⟩⟩⟩ <;> simp at hn
 simp only[Rows.laid_cedilla_utf_heads,YA,DataW.agg.injEq,ZU,Ym,Z7,Yl]at af;obtain⟨⟨z0,z1,z2,z3⟩,_⟩:=af;obtain⟨rfl,rfl,rfl⟩:=zIH (aa 0 (by decide)) z0.symm;obtain⟨rfl,rfl,rfl⟩:=zIH (aa 1 (by decide)) z1.symm;obtain⟨rfl,rfl,rfl⟩:=zIH (aa 2 (by decide)) z2.symm;obtain⟨rfl,rfl,rfl⟩:=zIH (aa 3 (by decide)) z3.symm;simp only[World.var?,zSQ,Zv]at ae;split at ae
 · rename_i cs t fr hb;simp only[Zg]at ae;subst ae;exact⟨t,fr,hb⟩
 cases ae
end
end Go.Proofs.YtdbpjmfflofadaaGreatDoor
