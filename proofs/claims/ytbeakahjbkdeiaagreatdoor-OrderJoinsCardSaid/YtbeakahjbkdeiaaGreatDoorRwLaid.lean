/- A document's table that came in. -/
import Derived.Test.YtbeakahjbkdeiaaGreatDoorAl1
import Derived.Test.YtbeakahjbkdeiaaGreatDoorRwOpen
import Derived.Lib.SmallJoins
import Derived.Test.YtbeakahjbkdeiaaGreatDoorOrRuns
import Derived.Test.YtbeakahjbkdeiaaGreatDoorFiBits
import Derived.Test.YtbeakahjbkdeiaaGreatDoorRows
import Derived.ProofKit
import Derived.OpenShut
import Derived.Deep.DeepHandedRow
import Derived.Lib.LaidTab
import Derived.Lib.LaidU8
import Derived.LaidMore
import Derived.LaidLaws
import Derived.Lay
import Derived.Shelf.Vars
import Derived.MakeChecks
import Derived.Test.YtbeakahjbkdeiaaGreatDoorPgReg
import Derived.LaidHandle
set_option linter.unusedVariables false
set_option linter.unusedSimpArgs false
namespace Go.Proofs.YtbeakahjbkdeiaaGreatDoor
open Go.ChangeShapes Go.WideShapes Go.RowKit Go.Deep Go.Joins
set_option linter.unusedVariables false
theorem Md.one_slice {H:Type} {enc:TypeId × Value→H} {P:Program} {w:World} {t e:TypeId} {fuel:Nat} {v:Value} {x:DataW H × List MemPlace} (ht:P.underlying t=some (.slice e)) (h:DataW.trod enc P w 0 (fun _=>true) true fuel t [v]=some x) :
 ∃a len cap,v=.slice a len cap:=by
 rcases open_slice ht h with ⟨hcs,_⟩|⟨ad,l,c,m,n,D,Pl,hcs,_⟩
 · simp only[Yc,YG]at hcs
   exact⟨_,_,_,hcs⟩
 · simp only[Yc,YG]at hcs
   exact⟨_,_,_,hcs⟩
theorem Md.isRow_of {H:Type} {enc:TypeId × Value→H} {P:Program} {w:World} {t q:TypeId} {fuel:Nat} {a:Option Addr} {len cap:Nat} {x:DataW H × List MemPlace} (k2:P.underlying t=some (.slice q)) (k3:P.underlying q=some (.int .i64)) (c3:P.cellsOf q=1)
 (h:DataW.trod enc P w 0 (fun _=>true) true fuel t [.slice a len cap]=some x):∃zs,IsRow .i64 w a len cap zs:=by
 rcases open_ints k2 k3 c3 h with ⟨hcs,_⟩|⟨x,l,c,zs,hcs,_,hl,hm,hz,_,hcell,aa⟩
 · simp only[Yc,ZV,YG]at hcs
   obtain⟨rfl,rfl,rfl⟩:=hcs
   exact⟨[],.inl ⟨rfl,rfl,rfl,rfl⟩⟩
 · simp only[Yc,ZV,YG]at hcs
   obtain⟨rfl,rfl,rfl⟩:=hcs
   exact⟨zs,.inr ⟨_,rfl,hl,hm,by simpa using hz,hcell,aa⟩⟩
theorem Tx.cells:Tryz.prog.cellsOf 50=4∧Tryz.prog.cellsOf 31=2∧Tryz.prog.cellsOf 29=1∧Tryz.prog.cellsOf 28=1:=⟨by kernel_rfl,by kernel_rfl,by kernel_rfl,by kernel_rfl⟩
set_option maxRecDepth 100000 in
theorem Tx.open_text {H:Type} {enc:TypeId × Value→H} {W:World} {v:Value} {d:DataW H} {p:List MemPlace} (hv:Value.okWide Tryz.prog W .any 0 50 v) (h:DataW.Trod enc Tryz.prog W 0 (fun _=>true) true 50 v d p) :
 ∃A XA PA MA n c xn xc pn pc mn mc T0 E0 P M,v=.agg #[.slice A n c,.slice XA xn xc,.slice PA pn pc,.slice MA mn mc]∧Tx.In A XA PA MA n c xn xc pn pc mn mc T0 E0 P M W:=by
 obtain⟨e1,e2,e3,e4⟩:=Tx.cells
 obtain⟨cs,rfl,ah⟩:=okWide_struct Tryz.underlying50 hv
 rw[e1]at ah
 obtain⟨l⟩:=cs
 rcases l with _|⟨c0,_|⟨c1,_|⟨c2,_|⟨c3,_|⟨c4,l⟩⟩⟩⟩⟩ <;> simp at ah
 obtain⟨fuel,hf⟩:=h
 obtain⟨y0,y1,y2,m,hx,_,h0,h1,h2⟩:=trod_struct3 Tryz.underlying50 hf
 simp only[e2,e3,Value.cells,List.drop_zero,List.drop_succ_cons,Xg,List.take_zero]at h0 h1 h2
 obtain⟨u0,u1,m',aj,_,k0,k1⟩:=trod_struct2 Tryz.underlying31 h0
 simp only[e3,e4,List.drop_zero,List.drop_succ_cons,Xg,List.take_zero]at k0 k1
 obtain⟨A,n,c,rfl⟩:=Md.one_slice Tryz.underlying28 k0
 obtain⟨XA,xn,xc,rfl⟩:=Md.one_slice Tryz.underlying29 k1
 obtain⟨PA,pn,pc,rfl⟩:=Md.one_slice Tryz.underlying29 h1
 obtain⟨MA,mn,mc,rfl⟩:=Md.one_slice Tryz.underlying29 h2
 obtain⟨l,ads,aa,hlen,ak,ao,hS,ai,hbd⟩:=Rw.isRows_of (q:=3) Tryz.underlying28 Tryz.underlying43 (by kernel_rfl) rfl rfl rfl (by kernel_rfl) (by kernel_rfl) (by kernel_rfl) (by kernel_rfl) (by kernel_rfl) (by kernel_rfl) (by kernel_rfl) (by kernel_rfl) k0
 obtain⟨xs,ae⟩:=Md.isRow_of Tryz.underlying29 Tryz.underlying3 (by kernel_rfl) k1
 obtain⟨ps,ag⟩:=Md.isRow_of Tryz.underlying29 Tryz.underlying3 (by kernel_rfl) h1
 obtain⟨ms,af⟩:=Md.isRow_of Tryz.underlying29 Tryz.underlying3 (by kernel_rfl) h2
 obtain⟨a1,a2,a3⟩:=ae.len_le
 obtain⟨b1,b2,b3⟩:=ag.len_le
 obtain⟨d1,d2,d3⟩:=af.len_le
 exact⟨A,XA,PA,MA,n,c,xn,xc,pn,pc,mn,mc,l,xs.take xn,ps.take pn,ms.take mn,rfl,hlen,by rw[Zm];omega,by rw[Zm];omega,by rw[Zm];omega,by omega,by omega,by omega,by omega,hbd,⟨ads,aa,hS,ai⟩,ae.sl xn (Zb _),ag.sl pn (Zb _),af.sl mn (Zb _)⟩
end Go.Proofs.YtbeakahjbkdeiaaGreatDoor
namespace Go.Proofs.YtbeakahjbkdeiaaGreatDoor
open Go.ChangeShapes Go.WideShapes Go.ChangeAt Go.RowKit
set_option maxRecDepth 100000
set_option linter.unusedVariables false
set_option linter.unusedSimpArgs false
theorem Fi.gMax (w:World) (h:w.ShapedOpen Tryz.prog):∃m:Int,w.cell? ⟨1,0,none⟩=some (.int .i64 m) :=
 cell_of_shapedOpen_int h (Yd (by kernel_rfl)) (by kernel_rfl:((begin Tryz.prog (fun _ _=>0) default).world.heap[1]?).bind Obj.row?=some (#[.int .i64 0],3)) (by kernel_rfl) (by kernel_rfl) (by kernel_rfl) Tryz.underlying3
def Fi.zs64:List Int:=[0,1,56,2,57,49,28,3,61,58,42,50,38,29,17,4,62,47,59,36,45,43,51,22,53,39,33,30,24,18,12,5,63,55,48,27,60,41,37,16,46,35,44,21,52,32,23,11,54,26,40,15,34,20,31,10,25,14,19,9,13,8,7,6]
theorem Fi.gTab:Tryz.prog.globalNamed "math/bits.deBruijn64tab" = some 9:=by kernel_rfl
theorem Fi.tTab:(Tryz.prog.globals[9]?).map (·.type)=some 345:=by kernel_rfl
theorem Fi.cTab:Tryz.prog.cellsOf 345=64:=by kernel_rfl
theorem Fi.cU8:Tryz.prog.cellsOf 5=1:=by kernel_rfl
theorem Fi.tabData {H:Type}:(Rows.laid_math_bits_deBruijn64tab:DataW H)=Lib.tabData .u8 Fi.zs64:=rfl
theorem Fi.laid_of {laid:List (String × DataW Unit)} (hp:(laid.all fun x=>x.2.handleName?.isNone)=true) (hm:("math/bits.deBruijn64tab",Rows.laid_math_bits_deBruijn64tab)∈laid) {W:World} (h:laidMetH Tryz.prog laid W) (aa:W.ShapedOpen Tryz.prog):Fi.Laid W:=by
 rw[MakeChecks.laidMetH_plain _ _ _ hp]at h
 refine⟨Fi.gMax W aa,?_⟩
 obtain⟨g,t,cs,fuel,p,h1,h2,h3,h4⟩:=Lib.laidMet.reads h hm
 obtain rfl:=Z4 (Fi.gTab.symm.trans h1)
 obtain rfl:=Z4 (Fi.tTab.symm.trans h2)
 rw[Fi.tabData]at h4
 have hT:Lib.TabIs Tryz.prog W "math/bits.deBruijn64tab" .u8 Fi.zs64:=by
  unfold Lib.TabIs
  rw[h3,←Lib.cells_of_tab Tryz.underlying345 Tryz.underlying5 Fi.cU8 Fi.cTab h4]
 exact hT.cell Fi.gTab 15 (by decide)
theorem Fi.witness {H:Type} {enc:TypeId × Value→H} (os:Os) {f:FuncId} {fn:Func} {s:OpenSpec} {conds:List PathCond} {apart:Bool} {laid:List (String × DataW Unit)} (args:Array Value)
 (af:(World.laidAll Tryz.prog os laid).Shaped Tryz.prog)
 (ae:Input.okWideB Tryz.prog ((World.laidAll Tryz.prog os laid).forCall (fun _ _=>0) ⟨#[],args,[]⟩) f ⟨#[],args,[]⟩=true)
 (aa:s.preRow enc Tryz.prog fn conds apart laid ((World.laidAll Tryz.prog os laid).forCall (fun _ _=>0) ⟨#[],args,[]⟩).memory args) :
 ∃(w:World) (tape:Tape) (i:Input),w.os=os∧(w.forCall tape i).Shaped Tryz.prog∧i.vars=[]∧Input.okWide Tryz.prog (w.forCall tape i) .any w.heap.size f i ∧
  s.preRow enc Tryz.prog fn conds apart laid (w.forCall tape i).memory i.args∧({}:Assume).holds Tryz.prog (lone (Frame.enter Tryz.prog f i.args .normal) [] (w.forCall tape i)) :=
 ⟨World.laidAll Tryz.prog os laid,fun _ _=>0,⟨#[],args,[]⟩,World.laidAll_os _ _ _,af,(Input.okWide_of_okWideB (base:=0) ae).1,(Input.okWide_of_okWideB ae).2,aa,by
  simp only[Assume.holds]
  exact⟨by simp,by simp,fun _=>Modest.zero,by simp,by simp⟩⟩
set_option maxRecDepth 100000
set_option linter.unusedVariables false
set_option linter.unusedSimpArgs false
theorem Rw.gPow:Tryz.prog.globalNamed "internal/strconv.uint64pow10" = some 3:=by kernel_rfl
theorem Rw.tPow:(Tryz.prog.globals[3]?).map (·.type)=some 318:=by kernel_rfl
theorem Rw.cPow:Tryz.prog.cellsOf 318=20:=by kernel_rfl
theorem Rw.cU64:Tryz.prog.cellsOf 272=1:=by kernel_rfl
theorem Rw.powData {H:Type}:(Rows.laid_internal_strconv_uint64pow10:DataW H)=Lib.tabData .u64 Lib.pow10Tab:=rfl
theorem Rw.tSyn:(Tryz.prog.globals[4]?).map (·.type)=some 35:=by kernel_rfl
theorem Rw.tRng:(Tryz.prog.globals[5]?).map (·.type)=some 35:=by kernel_rfl
theorem Rw.laid_of {laid:List (String × DataW Unit)} (hp:(laid.all fun x=>x.2.handleName?.isNone)=true) (hm:("math/bits.deBruijn64tab",Rows.laid_math_bits_deBruijn64tab)∈laid)
 (ag:("internal/strconv.uint64pow10",Rows.laid_internal_strconv_uint64pow10)∈laid) (ae:("strconv.ErrSyntax",Rows.laid_strconv_ErrSyntax)∈laid) (aa:("strconv.ErrRange",Rows.laid_strconv_ErrRange)∈laid)
 {W:World} (h:laidMetH Tryz.prog laid W) (af:W.ShapedOpen Tryz.prog):Rw.Laid W:=by
 refine⟨Fi.laid_of hp hm h af,?_,?_,?_⟩
 · rw[MakeChecks.laidMetH_plain _ _ _ hp]at h
   obtain⟨g,t,cs,fuel,p,h1,h2,h3,h4⟩:=Lib.laidMet.reads h ag
   obtain rfl:=Z4 (Rw.gPow.symm.trans h1)
   obtain rfl:=Z4 (Rw.tPow.symm.trans h2)
   rw[Rw.powData]at h4
   unfold Lib.TabIs
   rw[h3,←Lib.cells_of_tab Tryz.underlying318 Tryz.underlying272 Rw.cU64 Rw.cPow h4]
 · rw[MakeChecks.laidMetH_plain _ _ _ hp]at h
   obtain⟨g,t,cs,fuel,p,h1,h2,h3,h4⟩:=Lib.laidMet.reads h ae
   obtain rfl:=Z4 (Fi.gSyn.symm.trans h1)
   obtain rfl:=Z4 (Rw.tSyn.symm.trans h2)
   obtain⟨f',u,v,hcs,_,_⟩:=iface_of_trod Tryz.underlying35 h4
   exact⟨u,v,by rw[h3,Array.eq_one_of_toList hcs]⟩
 · rw[MakeChecks.laidMetH_plain _ _ _ hp]at h
   obtain⟨g,t,cs,fuel,p,h1,h2,h3,h4⟩:=Lib.laidMet.reads h aa
   obtain rfl:=Z4 (Fi.gRng.symm.trans h1)
   obtain rfl:=Z4 (Rw.tRng.symm.trans h2)
   obtain⟨f',u,v,hcs,_,_⟩:=iface_of_trod Tryz.underlying35 h4
   exact⟨u,v,by rw[h3,Array.eq_one_of_toList hcs]⟩
end Go.Proofs.YtbeakahjbkdeiaaGreatDoor
