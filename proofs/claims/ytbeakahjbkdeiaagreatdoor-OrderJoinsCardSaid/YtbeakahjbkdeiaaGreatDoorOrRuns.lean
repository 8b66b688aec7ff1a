/- cedillalaw16's Made: a table, loaded, and characters: by walking the text. -/
import Derived.Test.YtbeakahjbkdeiaaGreatDoorAl1
import Derived.Test.YtbeakahjbkdeiaaGreatDoorXtTable
import Derived.Test.YtbeakahjbkdeiaaGreatDoorStage
import Derived.Test.YtbeakahjbkdeiaaGreatDoorPgReg
import Derived.Test.YtbeakahjbkdeiaaGreatDoorRwLines
import Derived.Test.YtbeakahjbkdeiaaGreatDoorMdRef5
import Derived.Test.YtbeakahjbkdeiaaGreatDoorSlt
import Derived.Test.YtbeakahjbkdeiaaGreatDoorMdExp
import Derived.Test.YtbeakahjbkdeiaaGreatDoorTxAwake
import Derived.Test.YtbeakahjbkdeiaaGreatDoorSoWalkA
set_option linter.unusedVariables false
set_option linter.unusedSimpArgs false
namespace Go.Proofs.YtbeakahjbkdeiaaGreatDoor
open Go.RowKit
set_option linter.unusedSimpArgs false
set_option linter.unusedVariables false
theorem Tx.tmod_bd (k:Int) {L:Int} (h:0<L) : -L<k.tmod L∧k.tmod L<L:=by
 rw[Int.tmod_eq_emod]
 have h1:=Int.emod_nonneg k (show L≠0 by omega)
 have h2:=Int.emod_lt_of_pos k h
 split
 · omega
 · have h3:(L.natAbs:Int)=L:=by omega
   omega
theorem Tx.pick (k:Int) {L:Nat} (h0:0<L) (h:L≤1000000):∃j:Nat,j<L∧(wrap64 (k.tmod L+L)).tmod L=(j:Int):=by
 obtain⟨a1,a2⟩:=Tx.tmod_bd k (show (0:Int)<L by omega)
 have e1:wrap64 (k.tmod L+L)=k.tmod L+L:=by unfold wrap64;omega
 rw[e1]
 have a3:0≤(k.tmod L+L).tmod L:=Int.tmod_nonneg _ (by omega)
 obtain⟨_,a4⟩:=Tx.tmod_bd (k.tmod L+L) (show (0:Int)<L by omega)
 exact⟨((k.tmod L+L).tmod L).toNat,by omega,by omega⟩
theorem Tx.results4 {P:Program} {fn:Func} {p u u2 u3:Tmp} {ty:TypeId} (h:fn.results = #[.tmp u,.cell p ty,.tmp u2,.tmp u3]) (tmps:Array Value) (w:World) (g:Nat) (t:TypeId) (cs:Array Value) (fr:Nat × Nat) (d:TypeDesc)
 (hp:tmps.getD p undef=.pointer (some ⟨g,0,none⟩)) (hg:w.heap[g]?=some (.cells cs t fr))
 (hu:P.underlying ty=some d) (hd:(match d with | .struct _ | .array _ _=>true|_=>false)=true) (hi:(P.info? ty).map (·.size)=some cs.size) :
 (results fn tmps).run P w=.ok (.tuple #[tmps.getD u undef,.agg cs,tmps.getD u2 undef,tmps.getD u3 undef]) w:=by
 have aa:tmps[p]?.getD undef=.pointer (some ⟨g,0,none⟩):=by simpa using hp
 simp[results,h,aa,asAddr,run_loadVar_row w g t ty cs fr d hg hu hd hi]
theorem Tx.pick_neg (k:Int) {L:Nat} (hk:k<0) (h0:0<L) (h:L≤maxLen):∃j:Nat,j<L∧(wrap64 (k.tmod L+L)).tmod L=(j:Int):=by
 simp only[maxLen]at h
 obtain⟨a1,a2⟩:=Tx.tmod_bd k (show (0:Int)<L by omega)
 have a5:k.tmod L≤0:=by
  rw[Int.tmod_eq_emod]
  have h2:=Int.emod_lt_of_pos k (show (0:Int)<L by omega)
  split
  · rename_i hh
    rcases hh with hh|hh
    · omega
    · rw[Int.emod_eq_zero_of_dvd hh];exact YL _
  · have h3:((L:Int).natAbs:Int)=L:=by omega
    omega
 have e1:wrap64 (k.tmod L+L)=k.tmod L+L:=by unfold wrap64;omega
 rw[e1]
 have a3:0≤(k.tmod L+L).tmod L:=Int.tmod_nonneg _ (by omega)
 obtain⟨_,a4⟩:=Tx.tmod_bd (k.tmod L+L) (show (0:Int)<L by omega)
 exact⟨((k.tmod L+L).tmod L).toNat,by omega,by omega⟩
theorem Tx.both {B:Nat} {w w':World} (h:Below B w w') (a:Addr) (u:Value):Below B (w.setCell a u) (w'.setCell a u) :=
 ⟨h.os,h.tape,h.output,by simp[World.setCell];exact h.size,fun k hk=>by simp only[World.setCell,YH,h.block k hk]⟩
def Tx.RetMade (aa:Nat) (w:World) (e:Ending) (w':World):Prop :=
 ∃(p v:Value) (T:List Rw.Row) (E S l:List Int) (A:Option Addr) (c:Nat),e=.returned (.tuple #[p,v,.slice A l.length c,.bool true])∧Ud.Is w' p T S∧Md.Doc w' v T E∧Ud.Right T E S∧w'.ownsRow w.heap.size 3 1 (.slice A l.length c) l.length (l.map (Value.int .i64))∧(∀x∈l,C.isC x=true)∧l.length≤aa∧(∀w'',w'.grownBy w'' (Value.slice A l.length c).ownBlock→Ud.Is w'' p T S∧Md.Doc w'' v T E)∧Below w.heap.size w w'
theorem Tx.row_isC {T:List Rw.Row} {E S:List Int} (h:Ud.Right T E S) {r:Rw.Row} (hr:r∈T):C.isC r.1=true∧∀c∈r.2.2,C.isC c=true :=
 ⟨(h.ok.good r hr).1,fun c hc=>((h.ok.good r hr).2.2.2.2.2 c hc).1⟩
theorem Tx.all_isC:∀c∈([65,97,768,4352,4449,4520,44032,44033]:List Int),C.isC c=true:=by decide
set_option maxRecDepth 100000 in
set_option maxHeartbeats 4000000 in
theorem Tx.made_any (A XA PA MA:Option Addr) (n c xn xc pn pc mn mc:Nat) (T0:List Rw.Row) (E0 P M:List Int) (au:Nat) (w:World) (hn:T0.length=n) (hxn:E0.length=xn) (hpn:P.length=pn) (hmn:M.length=mn) (hnb:n≤maxLen) (hxb:xn≤maxLen) (hpb:pn≤maxLen) (hmb:mn≤maxLen) (fu:au≤1000) (hbd:∀r∈T0,Rw.bounds r)
 (h2:Rw.SeesI w A T0) (hX:Sl w w.heap.size XA (E0.map (Value.int .i64))) (hP:Sl w w.heap.size PA (P.map (Value.int .i64))) (hM:Sl w w.heap.size MA (M.map (Value.int .i64))) (hL:Rw.Laid w) :
 Calls Tryz.prog 30 #[.agg #[.slice A n c,.slice XA xn xc,.slice PA pn pc,.slice MA mn mc],.int .i64 au] w (Tx.RetMade au w):=by
 obtain⟨i0,cr,dh,dl,cq⟩:=Yf infoInt
 have bq:Hid (∀W,Below w.heap.size w W→Calls Tryz.prog 84 #[.agg #[.slice A n c,.slice XA xn xc]] W (Ud.RetLoaded W)):=Za fun W hW =>
  Ud.loaded_any A XA n c xn xc T0 E0 W hn hxn hnb hxb hbd (h2.below hW) (hX.below hW hW.size) (hL.next hW)
 obtain⟨wa,dk⟩:∃wa,(w.alloc (.cells #[.slice A n c,.slice XA xn xc,.slice PA pn pc,.slice MA mn mc] 50)).alloc (.cells #[.slice none 0 0,.slice none 0 0] 31)=wa:=⟨_,rfl⟩
 have b6:Below w.heap.size w wa:=by rw[←dk];exact ((Zd _ _).alloc (Zb _) _).alloc (by simp) _
 have cw:Rw.At wa w.heap.size 50 [.slice A n c,.slice XA xn xc,.slice PA pn pc,.slice MA mn mc]:=by
  rw[←dk];exact (Rw.At.new w 50 [.slice A n c,.slice XA xn xc,.slice PA pn pc,.slice MA mn mc]).alloc _
 have c7:Rw.At wa (w.heap.size+1) 31 [.slice none 0 0,.slice none 0 0]:=by
  have:=Rw.At.new (w.alloc (.cells #[.slice A n c,.slice XA xn xc,.slice PA pn pc,.slice MA mn mc] 50)) 31 [.slice none 0 0,.slice none 0 0]
  rw[ZD]at this
  rw[←dk];exact this
 have fh:=Za dk
 have eo:=Za b6
 have e7:=Za cw
 have b7:=Za c7
 have eu:=Za hpn
 have ef:=Za hmn
 have gf:=Za (hP.below b6 b6.size)
 have fe:=Za (hM.below b6 b6.size)
 have x0:=cw.cell 0 rfl
 have x1:=cw.cell 1 rfl
 have xl:=cw.lt
 clear dk b6 cw c7 hn hxn hnb hxb hbd h2 hX hL hP hM hpn hmn
 go_enter Tryz.func30,Tryz.ntmps30
 go_upto_region 1 with (fail)
 rw[fh.out]
 go_wp2_with fail
 refine (bq.out wa eo.out).mono ?_
 rintro e w2 ⟨p,v2,T,E,S,rfl,eg,b5,hR,bb⟩
 obtain⟨pb,rfl,gb⟩:=eg.form
 obtain⟨A2,c2,XA2,xc2,rfl,ea⟩:=id b5
 obtain⟨n2,ed⟩:∃k,T.length=k:=⟨_,rfl⟩
 obtain⟨xn2,cm⟩:∃k,E.length=k:=⟨_,rfl⟩
 rw[ed,cm]at b5 ⊢
 unfold Md.tv at b5 ⊢
 obtain⟨w3,dw⟩:∃w3,w2.alloc (.cells #[.slice A2 n2 c2,.slice XA2 xn2 xc2] 31)=w3:=⟨_,rfl⟩
 have bn:Below w2.heap.size w2 w3:=by rw[←dw];exact (Zd _ _).alloc (Zb _) _
 have aa:Rw.At w3 w2.heap.size 31 [.slice A2 n2 c2,.slice XA2 xn2 xc2]:=by rw[←dw];exact Rw.At.new w2 31 [.slice A2 n2 c2,.slice XA2 xn2 xc2]
 have cz:=e7.out.below (bb.trans (bn.mono bb.size))
 have gx:=Za dw
 have ck:Below w.heap.size w w3:=eo.out.trans ((bb.trans (bn.mono bb.size)).mono eo.out.size)
 have cn:=Za (bb.trans (bn.mono bb.size))
 have b2:=Za ck
 have gv:=Za cz
 have aq:=Za (b7.out.below (bb.trans (bn.mono bb.size)))
 have bu:=Za aa
 have bk:=Za (eg.below bn)
 have dr:=Za (b5.below bn)
 have e8:Hid (Rw.SeesI w3 A2 T):=by
  obtain⟨A9,c9,X9,d9,he,gh,ho⟩:=b5.below bn
  simp only[Md.tv,Xs,XK,Yc,ZV,YG]at he
  obtain⟨⟨rfl,_,rfl⟩,rfl,_,rfl⟩:=he
  exact Za gh
 have HR:=Za hR
 have gq:=Za ed
 have hh:n2≤20:=by have:=hR.tl;omega
 have fy:w.heap.size+1<w2.heap.size:=Ze b7.out.lt bb.size
 clear x0 x1 b5 ea bb bn aa eg dw ck cz hR ed cm bq fh
 go_upto_region 2 with (fail)
 rw[gx.out]
 have ag:(w3.alloc (.cells #[.int .i64 65,.int .i64 97,.int .i64 768,.int .i64 4352,.int .i64 4449,.int .i64 4520,.int .i64 44032,.int .i64 44033] 3)).ownsRow w3.heap.size 3 1 (.slice (some ⟨w3.heap.size,0,none⟩) 8 8) 8 (([65,97,768,4352,4449,4520,44032,44033]:List Int).map (Value.int .i64)) :=
  World.ownsRow_lit w3 #[.int .i64 65,.int .i64 97,.int .i64 768,.int .i64 4352,.int .i64 4449,.int .i64 4520,.int .i64 44032,.int .i64 44033] 8 (Zb _) (by decide) rfl
 obtain⟨w4,dp⟩:∃w4,w3.alloc (.cells #[.int .i64 65,.int .i64 97,.int .i64 768,.int .i64 4352,.int .i64 4449,.int .i64 4520,.int .i64 44032,.int .i64 44033] 3)=w4:=⟨_,rfl⟩
 have bg:Below w3.heap.size w3 w4:=by rw[←dp];exact (Zd _ _).alloc (Zb _) _
 rw[dp]at ag
 have dc:=Za ag
 have gg:=Za bg
 have hk:=Za dp
 have ay:=bu.out.below bg
 have y0:=ay.cell 0 rfl
 have yl:=ay.lt
 clear dp ag bg ay
 go_upto_region 5 with (fail)
 rw[hk.out]
 go_wp2_with fail
 clear y0 yl
 go_loopw [10,29] (fun v6 i wr=>∃(j:Nat) (v:Value) (xs:List Int),j≤n2∧i=.int .i64 j∧v6=v∧wr.ownsRow w3.heap.size 3 1 v xs.length (xs.map (Value.int .i64))∧(∀x∈xs,C.isC x=true)∧(xs.length≤8+j*3∧0<xs.length)∧Below w3.heap.size w3 wr) (fun _ i _=>n2-(intOf i).toNat)
 case atStart=>exact⟨0,_,[65,97,768,4352,4449,4520,44032,44033],Zz _,rfl,rfl,dc.out,Tx.all_isC,by simp,gg.out⟩
 case round =>
  obtain⟨j,h4,xs,hj,rfl,rfl,ak,hxb,e4,aj⟩:=hrel
  have ba:Below w3.heap.size w3 wr:=aj
  have ae:=Za ak
  have e5:=Za hxb
  have ai:=Za aj
  by_cases hlt:j<n2
  · obtain⟨r,hr⟩:∃r,T[j]?=some r:=⟨_,Zc (by rw[gq.out];exact hlt)⟩
    have e1:=Zk hr
    have e9:=Tx.row_isC HR.out e1
    have gp:=(HR.out.rok r e1).2.2.1
    have di:=e8.out
    obtain⟨b,o,a,fz,hb,fw,fc,fm,fq⟩:=di.row hr
    have c0:=((bcell ba).1 b (o+j*3) hb).trans fw
    have c1:=((bcell ba).1 b (o+j*3+1) hb).trans fc
    have c2:=((bcell ba).1 b (o+j*3+2) hb).trans fm
    have h0:b<wr.heap.size:=Ze hb ba.size
    obtain⟨ml,bt⟩:∃k,r.2.2.length=k:=⟨_,rfl⟩
    rw[bt]at c2 gp
    have jI:(j:Int)<n2:=by omega
    have hz:(0:Int)≤j:=by omega
    obtain⟨wb,du⟩:∃wb,wr.alloc (.cells #[.int .i64 r.1,.int .i64 r.2.1,.slice a.1 ml a.2] 43)=wb:=⟨_,rfl⟩
    have cp:Rw.At wb wr.heap.size 43 [.int .i64 r.1,.int .i64 r.2.1,.slice a.1 ml a.2]:=by rw[←du];exact Rw.At.new wr 43 [.int .i64 r.1,.int .i64 r.2.1,.slice a.1 ml a.2]
    have dt:Below wr.heap.size wr wb:=by rw[←du];exact (Zd _ _).alloc (Zb _) _
    have gw:=Za du
    have bi:=Za cp
    have dv:=Za dt
    have ct:=Za (own_below ak dt (Zb _))
    have en:=Za ((fq.below ba (Zb _)).below (dt.mono ba.size) (Zb _))
    have cu:=Za bt
    subst fz
    clear fw fc fm fq ba ak hxb aj hr e1 bt du cp dt di
    go_upto_region 8 with (fail)
    rw[gw.out]
    refine Stg.wp_region (Stg.Keep (· = wr.heap.size)) (Stg.Keep.rel _) (by kernel_rfl) (by kernel_rfl) (by kernel_rfl) ?_
    have e0:=Stg.Keep.cells (s:=(· = wr.heap.size)) (w:=wb.drew) (bi.out.cell 0 rfl) rfl
    have e2:=Stg.Keep.cells (s:=(· = wr.heap.size)) (w:=wb.drew) (bi.out.cell 2 rfl) rfl
    iterate 3 (refine Stg.read 0 (by kernel_rfl) (by kernel_rfl) (by kernel_rfl) wb.drew rfl (by kernel_rfl) ?_;intro K hK;go_big_quiet_op;go_big_quiet_on)
    refine Stg.stepW wb.drew (by kernel_rfl) (by kernel_rfl) rfl (by kernel_rfl) ?_;intro K hK;go_simp
    obtain⟨wd,az⟩:∃wd,(wb.alloc (.cells #[.int .i64 r.1] 3)).drew=wd:=⟨_,rfl⟩
    have hbd:Below wb.heap.size wb wd:=by rw[←az];exact ((Zd _ _).alloc (Zb _) _).drew
    have dn:wd.cell? ⟨wb.heap.size,0,none⟩=some (.int .i64 r.1):=by rw[←az];exact (Rw.At.new wb 3 [.int .i64 r.1]).cell 0 rfl
    have ao:=own_below ct.out hbd (Zb _)
    have bm:=Zh ai.out.size (Zh dv.out.size hbd.size)
    have ax:=bi.out.below hbd
    refine hK _ _ (by rintro q rfl;rw[az];exact ax.trans bi.out.symm) ?_
    rw[az]
    intro A' av
    subst av
    refine Stg.stepW wd (by kernel_rfl) (by kernel_rfl) rfl (by kernel_rfl) ?_
    intro K hK
    refine wp_push1 _ _ _ _ rfl w3.heap.size 3 i0 _ 8 Tryz.underlying29 cr dh dl cq rfl _ xs.length _ rfl ao (.int .i64 r.1) rfl wb.heap.size rfl dn (by simp only[maxLen];omega) (by omega) bm ?_
    intro v9 w9 ap bo dy
    have aa:=ax.grown dy (fun e=>Rw.own_not ao (by decide) _ e _ _ ax)
    have ft:=(dv.out.mono ai.out.size).trans ((hbd.mono (Zh ai.out.size dv.out.size)).trans bo)
    have ch:=en.out.below ((hbd.mono (Zh ai.out.size dv.out.size)).trans bo) (Zb _)
    refine hK _ _ (by rintro q rfl;exact aa.trans ax.symm) ?_
    intro A' av
    simp only[Act.put,Zq,ZC,ZA]at av
    subst av
    iterate 2 (refine Stg.read 2 (by kernel_rfl) (by kernel_rfl) (by kernel_rfl) wb.drew rfl (by kernel_rfl) ?_;intro K hK;go_big_quiet_op;go_big_quiet_on)
    refine Stg.stepW w9 (by kernel_rfl) (by kernel_rfl) rfl (by kernel_rfl) ?_
    intro K hK
    refine wp_appendSl _ _ _ _ rfl w3.heap.size 3 i0 _ 1 8 Tryz.underlying29 cr dh dl cq rfl (by decide) v9 (xs.length+1) _ rfl ap w3.heap.size a.1 ml _ (r.2.2.map (Value.int .i64)) rfl (by rw[Zf,cu.out];omega) ch (by intro u hu;obtain⟨y,_,rfl⟩:=List.mem_map.1 hu;rfl) (by simp only[maxLen];omega) (by omega) (Zh bm bo.size) ?_
    intro v10 fg a8 cj cd
    have bs:=aa.grown cd (fun e=>Rw.own_not ap (by decide) _ e _ _ aa)
    refine hK _ _ (by rintro q rfl;exact bs.trans aa.symm) ?_
    intro A' av
    simp only[Act.put,Zq,ZC,ZA]at av
    subst av
    refine Stg.readW (by kernel_rfl) (by kernel_rfl) (by kernel_rfl) ?_;intro K hK;go_big_quiet_op;go_big_quiet_on
    refine Stg.nil fg rfl ?_
    have ej:(xs++[r.1]++r.2.2).length=xs.length+1+ml:=by simp[cu.out];omega
    have a6:fg.ownsRow w3.heap.size 3 1 v10 (xs++[r.1]++r.2.2).length ((xs++[r.1]++r.2.2).map (Value.int .i64)):=by
     rw[ej]
     simpa using a8
    have ep:=Za a6
    have e6:=Za (ai.out.trans (ft.trans cj))
    have gy:=Za ej
    clear a6 a8 ap ao bs aa ax cd dy cj bo ch ft hbd dn az ej
    go_wp2_with fail
    exact⟨⟨j+1,_,xs++[r.1]++r.2.2,by omega,by go_num,rfl,ep.out,fun x hx=>by
     rcases List.mem_append.1 hx with hx|hx
     · rcases List.mem_append.1 hx with hx|hx
       · exact e5.out x hx
       · rw[Zy]at hx;subst hx;exact e9.1
     · exact e9.2 x hx,by rw[gy.out];omega,e6.out⟩,by simp[intOf];omega⟩
  · obtain rfl:n2=j:=by omega
    have jI:¬(n2:Int)<n2:=by omega
    obtain⟨A9,c9,rfl⟩:=own_form ak
    obtain⟨w5,rfl⟩:∃w5:World,w5=wr:=⟨_,rfl⟩
    obtain⟨xn,hxn⟩:∃k,xs.length=k:=⟨_,rfl⟩
    rw[hxn]at ak e4 ⊢
    have b3:=Za hxn
    have gl:=Za (Sl.of_own ak)
    have dx:=Za (cn.out.trans (ba.mono cn.out.size))
    have af:=Za ba
    have cc:=e4.2
    have gj:xn≤1000:=by omega
    clear ak hxb aj ba hxn e4 ae hj jI
    go_upto_region 10 with (fail)
    go_upto_region 12 with (fail)
    go_loopw [13,14] (fun gi i wr=>∃(k:Nat) (sl:Value) (l:List Int),k≤pn∧k≤au∧i=.int .i64 k∧gi=sl∧wr.ownsRow w5.heap.size 3 1 sl k (l.map (Value.int .i64))∧l.length=k∧(∀x∈l,C.isC x=true)∧Below w5.heap.size w5 wr) (fun _ i _=>au-(intOf i).toNat)
    case atStart=>exact⟨0,_,[],Zz _,Zz _,rfl,rfl,ZG _ _ _ _,rfl,fun x hx=>absurd hx Y7,Zd _ _⟩
    case round =>
     obtain⟨k,sl,l,hkp,fj,rfl,rfl,ak,bz,fo,aj⟩:=hrel
     have ae:=Za ak
     have c8:=Za fo
     have df:=Za bz
     have ai:=Za aj
     have dm:=aj.size
     have b1:=dx.out.trans (aj.mono dx.out.size)
     have bc:=e7.out.below b1
     have x2:=bc.cell 2 rfl
     have x3:=bc.cell 3 rfl
     have xl:=bc.lt
     have c6:=Za (gl.out.below aj aj.size)
     have et:=Za (gf.out.below b1 b1.size)
     have hl:=Za (fe.out.below b1 b1.size)
     clear ak fo bz aj bc
     by_cases hp:k<pn
     · by_cases hm:k<au
       · have kP:(k:Int)<pn:=by omega
         have kM:(k:Int)<au:=by omega
         have k0:(0:Int)≤k:=by omega
         obtain⟨q,hq⟩:∃q,P[k]?=some q:=⟨_,Zc (by rw[eu.out];exact hp)⟩
         obtain⟨h6,po,rfl,gm,fp⟩:=et.out (by rw[Zf,eu.out];omega)
         have gu:=fp k (by rw[Zf,eu.out];exact hp)
         rw[Zl,hq,Zn]at gu
         clear fp hq
         by_cases hq0:q<0
         · by_cases hm0:0<mn
           · have mI:(0:Int)<mn:=by omega
             have mN:((mn:Int) == 0)=false:=by simp;omega
             have m0:(mn:Int)≠0:=by omega
             obtain⟨jj,br,a1⟩:=Tx.pick_neg q hq0 hm0 hmb
             obtain⟨y,hy⟩:∃y,M[jj]?=some y:=⟨_,Zc (by rw[ef.out];exact br)⟩
             obtain⟨dz,mo,rfl,bl,bp⟩:=fe.out (by rw[Zf,ef.out];omega)
             have b4:=bp jj (by rw[Zf,ef.out];exact br)
             rw[Zl,hy,Zn,←(bcell b1).1 _ _ bl]at b4
             have eb:dz<w5.heap.size:=Ze bl dx.out.size
             have eh:w.heap.size<w5.heap.size:=Ze e7.out.lt dx.out.size
             have jI:(jj:Int)<mn:=by omega
             have j0:(0:Int)≤jj:=by omega
             have bw:=Ch.K_is y
             have gz:=Ch.K_bd y
             have fk:Hid (∀W,Calls Tryz.prog 47 #[.int .i64 y] W fun e w'=>e=.returned (.int .i32 (Ch.K y))∧W=w'):=Za fun W=>Ch.char_any y W
             obtain⟨ky,ec⟩:∃ky,Ch.K y=ky:=⟨_,rfl⟩
             rw[ec]at bw gz
             simp only[ec]at fk
             have ek:IntKind.i64.wrap ky=ky:=by rw[Z1];omega
             clear bp hy ec
             go_upto_region 16 with (fail)
             refine Stg.wp_region (Stg.Keep (· < w5.heap.size)) (Stg.Keep.rel _) (by kernel_rfl) (by kernel_rfl) (by kernel_rfl) ?_
             have e3:=Stg.Keep.cells (s:=(· < w5.heap.size)) (w:=wr.drew) x3 eh
             have em:=Stg.Keep.cells (s:=(· < w5.heap.size)) (w:=wr.drew) b4 eb
             iterate 2 (refine Stg.readW (by kernel_rfl) (by kernel_rfl) (by kernel_rfl) ?_;intro K hK;go_big_quiet_op;go_big_quiet_on)
             refine Stg.read 0 (by kernel_rfl) (by kernel_rfl) (by kernel_rfl) wr.drew rfl (by kernel_rfl) ?_;intro K hK;go_big_quiet_op;go_big_quiet_on
             iterate 2 (refine Stg.readW (by kernel_rfl) (by kernel_rfl) (by kernel_rfl) ?_;intro K hK;go_big_quiet_op;go_big_quiet_on)
             refine Stg.read 0 (by kernel_rfl) (by kernel_rfl) (by kernel_rfl) wr.drew rfl (by kernel_rfl) ?_;intro K hK;go_big_quiet_op;go_big_quiet_on
             iterate 3 (refine Stg.readW (by kernel_rfl) (by kernel_rfl) (by kernel_rfl) ?_;intro K hK;go_big_quiet_op;go_big_quiet_on)
             refine Stg.read 0 (by kernel_rfl) (by kernel_rfl) (by kernel_rfl) wr.drew rfl (by kernel_rfl) ?_;intro K hK;go_big_quiet_op;go_big_quiet_on
             iterate 3 (refine Stg.readW (by kernel_rfl) (by kernel_rfl) (by kernel_rfl) ?_;intro K hK;go_big_quiet_op;go_big_quiet_on)
             refine Stg.read 0 (by kernel_rfl) (by kernel_rfl) (by kernel_rfl) wr.drew rfl (by kernel_rfl) ?_;intro K hK;go_big_quiet_op;go_big_quiet_on
             iterate 3 (refine Stg.readW (by kernel_rfl) (by kernel_rfl) (by kernel_rfl) ?_;intro K hK;go_big_quiet_op;go_big_quiet_on)
             refine Stg.read 0 (by kernel_rfl) (by kernel_rfl) (by kernel_rfl) wr.drew rfl (by kernel_rfl) ?_;intro K hK;go_big_quiet_op;go_big_quiet_on
             refine Stg.call 47 _ _ rfl (C.enter Tryz.func47 (by kernel_rfl) rfl) [.int .i64 y] rfl wr.drew _ (fk.out _) (by kernel_rfl) rfl (by kernel_rfl) ?_
             rintro e w' ⟨rfl,rfl⟩;refine⟨_,rfl,fun b hb=>rfl,?_⟩;intro A' av;simp only[Act.put,Zq,ZC,ZA]at av;subst av
             refine Stg.readW (by kernel_rfl) (by kernel_rfl) (by kernel_rfl) ?_;intro K hK;go_big_quiet_op;go_big_quiet_on
             refine Stg.stepW wr.drew (by kernel_rfl) (by kernel_rfl) rfl (by kernel_rfl) ?_;intro K hK;go_simp
             obtain⟨wd,az⟩:∃wd,(wr.alloc (.cells #[.int .i64 ky] 3)).drew=wd:=⟨_,rfl⟩
             have hbd:Below wr.heap.size wr wd:=by rw[←az];exact ((Zd _ _).alloc (Zb _) _).drew
             have dn:wd.cell? ⟨wr.heap.size,0,none⟩=some (.int .i64 ky):=by rw[←az];exact (Rw.At.new wr 3 [.int .i64 ky]).cell 0 rfl
             have ao:=own_below ae.out hbd (Zb _)
             have bm:=Zh dm hbd.size
             refine hK _ _ (by rw[az];exact fun b hb=>Stg.Keep.of_below (s:=(· < w5.heap.size)) (hbd.mono dm) (fun b hb=>hb) b hb) ?_
             rw[az]
             intro A' av
             subst av
             refine Stg.stepW wd (by kernel_rfl) (by kernel_rfl) rfl (by kernel_rfl) ?_
             intro K hK
             refine wp_push1 _ _ _ _ rfl w5.heap.size 3 i0 _ 8 Tryz.underlying29 cr dh dl cq rfl _ k _ rfl ao (.int .i64 ky) rfl wr.heap.size rfl dn (by simp only[maxLen];omega) (by omega) bm ?_
             intro v9 w9 ap bo dy
             refine hK _ _ (Stg.Keep.of_below bo fun b hb=>hb) ?_
             intro A' av;simp only[Act.put,Zq,ZC,ZA]at av;subst av
             refine Stg.readW (by kernel_rfl) (by kernel_rfl) (by kernel_rfl) ?_;intro K hK;go_big_quiet_op;go_big_quiet_on
             refine Stg.nil w9 rfl ?_
             have bh:=Za ap
             have bf:=Za (ai.out.trans ((hbd.mono dm).trans bo))
             have ez:=Za bw
             clear ap bo dy ao dn hbd az bw
             go_wp2_with fail
             refine⟨⟨k+1,_,l++[ky],by omega,by omega,by go_num,rfl,?_,by rw[Zi,df.out];rfl,?_,bf.out⟩,by simp[intOf];omega⟩
             · rw[ZO];exact bh.out
             · intro x hx
               rcases List.mem_append.1 hx with hx|hx
               · exact c8.out x hx
               · rw[Zy]at hx;subst hx;exact ez.out
           · have fx:mn=0:=by omega
             subst fx
             obtain⟨jj,br,a1⟩:=Tx.pick q cc (show xn≤1000000 by omega)
             obtain⟨y,hy⟩:∃y,xs[jj]?=some y:=⟨_,Zc (by rw[b3.out];exact br)⟩
             obtain⟨dz,mo,rfl,bl,bp⟩:=c6.out (by rw[Zf,b3.out];omega)
             have b4:=bp jj (by rw[Zf,b3.out];exact br)
             rw[Zl,hy,Zn]at b4
             have jI:(jj:Int)<xn:=by omega
             have j0:(0:Int)≤jj:=by omega
             have mI:(0:Int)<xn:=by omega
             have m0:(xn:Int)≠0:=by omega
             have bw:=Za (e5.out y (Zk hy))
             clear bp hy
             go_wp2_with (at_builtin;refine wpList_push1 _ rfl _ _ _ rfl w5.heap.size 3 i0 _ 8 Tryz.underlying29 cr dh dl cq rfl _ k _ rfl ae.out _ rfl rfl (by simp only[maxLen];omega) (by omega) dm ?_;intro v1 w4 ag bg;have bh:=Za ag;have bf:=Za (ai.out.trans bg);clear ag bg)
             refine⟨⟨k+1,_,l++[y],by omega,by omega,by go_num,rfl,?_,by rw[Zi,df.out];rfl,?_,bf.out⟩,by simp[intOf];omega⟩
             · rw[ZO];exact bh.out
             · intro x hx
               rcases List.mem_append.1 hx with hx|hx
               · exact c8.out x hx
               · rw[Zy]at hx;subst hx;exact bw.out
         · obtain⟨jj,br,a1⟩:=Tx.pick q cc (show xn≤1000000 by omega)
           rw[Int.tmod_eq_emod_of_nonneg (show 0≤q by omega)]at a1
           obtain⟨y,hy⟩:∃y,xs[jj]?=some y:=⟨_,Zc (by rw[b3.out];exact br)⟩
           obtain⟨dz,mo,rfl,bl,bp⟩:=c6.out (by rw[Zf,b3.out];omega)
           have b4:=bp jj (by rw[Zf,b3.out];exact br)
           rw[Zl,hy,Zn]at b4
           have jI:(jj:Int)<xn:=by omega
           have j0:(0:Int)≤jj:=by omega
           have mI:(0:Int)<xn:=by omega
           have m0:(xn:Int)≠0:=by omega
           have bw:=Za (e5.out y (Zk hy))
           clear bp hy
           go_wp2_with (at_builtin;refine wpList_push1 _ rfl _ _ _ rfl w5.heap.size 3 i0 _ 8 Tryz.underlying29 cr dh dl cq rfl _ k _ rfl ae.out _ rfl rfl (by simp only[maxLen];omega) (by omega) dm ?_;intro v1 w4 ag bg;have bh:=Za ag;have bf:=Za (ai.out.trans bg);clear ag bg)
           refine⟨⟨k+1,_,l++[y],by omega,by omega,by go_num,rfl,?_,by rw[Zi,df.out];rfl,?_,bf.out⟩,by simp[intOf];omega⟩
           · rw[ZO];exact bh.out
           · intro x hx
             rcases List.mem_append.1 hx with hx|hx
             · exact c8.out x hx
             · rw[Zy]at hx;subst hx;exact bw.out
       · have kP:(k:Int)<pn:=by omega
         have kM:¬(k:Int)<au:=by omega
         obtain⟨aw,a7,rfl⟩:=own_form ae.out
         have ah:=af.out.trans (ai.out.mono af.out.size)
         have aa:=bu.out.below ah
         have h5:=aq.out.below ah
         have y0:=aa.cell 0 rfl
         have y1:=aa.cell 1 rfl
         have yl:=aa.lt
         have k2:=h5.cell 0 rfl
         have k3:=h5.cell 1 rfl
         have k4:=h5.frozen 0
         have k5:=h5.frozen 1
         have kl:=h5.lt
         have ew:=Za (bk.out.below ah)
         have er:=Za (dr.out.below ah)
         have H5:=Za h5
         have bf:=Za (b2.out.trans (ah.mono b2.out.size))
         have bh:=Za (own_mono ae.out (Zh b2.out.size af.out.size))
         have hne:(Value.slice aw k a7).ownBlock=none∨(Value.slice aw k a7).ownBlock≠some (w.heap.size+1):=by
          cases hg:(Value.slice aw k a7).ownBlock with
          | none=>exact .inl rfl
          | some g =>
            refine .inr fun e=>?_
            obtain rfl:=Z4 e
            have h1:=(own_at ae.out hg).1
            have h2:=af.out.size
            have h3:=aq.out.lt
            omega
         have ei:=Za hne
         have ey:=Za (fun g (hg:(Value.slice aw k a7).ownBlock=some g)=>(own_at ae.out hg).1)
         clear ah aa h5 ae hne
         go_upto_region 18 with (fail)
         go_region
         go_wp2_with fail
         have h1:=H5.out.set 0 (.slice A2 n2 c2)
         have h2:=h1.set 1 (.slice XA2 xn2 xc2)
         have cv:=(ew.out.setAt H5.out 0 (.slice A2 n2 c2)).setAt h1 1 (.slice XA2 xn2 xc2)
         have b8:=(er.out.setAt H5.out 0 (.slice A2 n2 c2)).setAt h1 1 (.slice XA2 xn2 xc2)
         have cy:Below w.heap.size w ((wr.setCell ⟨w.heap.size+1,0,none⟩ (.slice A2 n2 c2)).setCell ⟨w.heap.size+1,1,none⟩ (.slice XA2 xn2 xc2)) :=
          (bf.out.setCell (p:=⟨w.heap.size+1,0,none⟩) (ZW _) _).setCell (p:=⟨w.heap.size+1,1,none⟩) (ZW _) _
         have ee:wr.grownBy ((wr.setCell ⟨w.heap.size+1,0,none⟩ (.slice A2 n2 c2)).setCell ⟨w.heap.size+1,1,none⟩ (.slice XA2 xn2 xc2)) (some (w.heap.size+1)):=Rw.grown_trans (Rw.grown_set _ _ _) (Rw.grown_set _ _ _)
         have ar:=World.ownsRow.kept bh.out ee ei.out
         obtain⟨w6,cg⟩:∃w6,(wr.setCell ⟨w.heap.size+1,0,none⟩ (.slice A2 n2 c2)).setCell ⟨w.heap.size+1,1,none⟩ (.slice XA2 xn2 xc2)=w6:=⟨_,rfl⟩
         rw[cg]at h2 cv b8 cy ar ⊢
         have bx:=aq.out.below af.out
         have b9:=bx.set 0 (.slice A2 n2 c2)
         have i5:=((bk.out.below af.out).setAt bx 0 (.slice A2 n2 c2)).setAt b9 1 (.slice XA2 xn2 xc2)
         have d5:=((dr.out.below af.out).setAt bx 0 (.slice A2 n2 c2)).setAt b9 1 (.slice XA2 xn2 xc2)
         have bj:=Tx.both (Tx.both ai.out ⟨w.heap.size+1,0,none⟩ (.slice A2 n2 c2)) ⟨w.heap.size+1,1,none⟩ (.slice XA2 xn2 xc2)
         rw[cg]at bj
         obtain⟨w7,cb⟩:∃w7,(w5.setCell ⟨w.heap.size+1,0,none⟩ (.slice A2 n2 c2)).setCell ⟨w.heap.size+1,1,none⟩ (.slice XA2 xn2 xc2)=w7:=⟨_,rfl⟩
         have cf:w7.heap.size=w5.heap.size:=by rw[←cb,ZJ,ZJ]
         rw[cb]at i5 d5 bj
         refine Yy (Tx.results4 rfl _ _ (w.heap.size+1) _ _ _ _ rfl (show w6.drew.heap[w.heap.size+1]?=_ from h2) Tryz.underlying31 rfl (by kernel_rfl)) rfl ?_
         have bz:=df.out
         subst bz
         exact⟨_,.agg #[.slice A2 n2 c2,.slice XA2 xn2 xc2],T,E,S,l,aw,a7,rfl,cv.below (Zd _ _).drew,b8.below (Zd _ _).drew,HR.out,own_below ar (Zd _ _).drew (Zb _),c8.out,fj,(fun w'' hg=>by
          have cx:Below w7.heap.size w7 w'':=by
           rw[cf]
           exact bj.trans ((Zd _ _).drew.trans (Rw.below_grown hg (by have:=bj.size;rw[cf]at this;exact this) fun q hq=>ey.out q hq))
          exact⟨i5.below cx,d5.below cx⟩),cy.drew⟩
     · have kP:¬(k:Int)<pn:=by omega
       obtain⟨aw,a7,rfl⟩:=own_form ae.out
       have ah:=af.out.trans (ai.out.mono af.out.size)
       have aa:=bu.out.below ah
       have h5:=aq.out.below ah
       have y0:=aa.cell 0 rfl
       have y1:=aa.cell 1 rfl
       have yl:=aa.lt
       have k2:=h5.cell 0 rfl
       have k3:=h5.cell 1 rfl
       have k4:=h5.frozen 0
       have k5:=h5.frozen 1
       have kl:=h5.lt
       have ew:=Za (bk.out.below ah)
       have er:=Za (dr.out.below ah)
       have H5:=Za h5
       have bf:=Za (b2.out.trans (ah.mono b2.out.size))
       have bh:=Za (own_mono ae.out (Zh b2.out.size af.out.size))
       have hne:(Value.slice aw k a7).ownBlock=none∨(Value.slice aw k a7).ownBlock≠some (w.heap.size+1):=by
        cases hg:(Value.slice aw k a7).ownBlock with
        | none=>exact .inl rfl
        | some g =>
          refine .inr fun e=>?_
          obtain rfl:=Z4 e
          have h1:=(own_at ae.out hg).1
          have h2:=af.out.size
          have h3:=aq.out.lt
          omega
       have ei:=Za hne
       have ey:=Za (fun g (hg:(Value.slice aw k a7).ownBlock=some g)=>(own_at ae.out hg).1)
       clear ah aa h5 ae hne
       go_upto_region 18 with (fail)
       go_region
       go_wp2_with fail
       have h1:=H5.out.set 0 (.slice A2 n2 c2)
       have h2:=h1.set 1 (.slice XA2 xn2 xc2)
       have cv:=(ew.out.setAt H5.out 0 (.slice A2 n2 c2)).setAt h1 1 (.slice XA2 xn2 xc2)
       have b8:=(er.out.setAt H5.out 0 (.slice A2 n2 c2)).setAt h1 1 (.slice XA2 xn2 xc2)
       have cy:Below w.heap.size w ((wr.setCell ⟨w.heap.size+1,0,none⟩ (.slice A2 n2 c2)).setCell ⟨w.heap.size+1,1,none⟩ (.slice XA2 xn2 xc2)) :=
        (bf.out.setCell (p:=⟨w.heap.size+1,0,none⟩) (ZW _) _).setCell (p:=⟨w.heap.size+1,1,none⟩) (ZW _) _
       have ee:wr.grownBy ((wr.setCell ⟨w.heap.size+1,0,none⟩ (.slice A2 n2 c2)).setCell ⟨w.heap.size+1,1,none⟩ (.slice XA2 xn2 xc2)) (some (w.heap.size+1)):=Rw.grown_trans (Rw.grown_set _ _ _) (Rw.grown_set _ _ _)
       have ar:=World.ownsRow.kept bh.out ee ei.out
       obtain⟨w6,cg⟩:∃w6,(wr.setCell ⟨w.heap.size+1,0,none⟩ (.slice A2 n2 c2)).setCell ⟨w.heap.size+1,1,none⟩ (.slice XA2 xn2 xc2)=w6:=⟨_,rfl⟩
       rw[cg]at h2 cv b8 cy ar ⊢
       have bx:=aq.out.below af.out
       have b9:=bx.set 0 (.slice A2 n2 c2)
       have i5:=((bk.out.below af.out).setAt bx 0 (.slice A2 n2 c2)).setAt b9 1 (.slice XA2 xn2 xc2)
       have d5:=((dr.out.below af.out).setAt bx 0 (.slice A2 n2 c2)).setAt b9 1 (.slice XA2 xn2 xc2)
       have bj:=Tx.both (Tx.both ai.out ⟨w.heap.size+1,0,none⟩ (.slice A2 n2 c2)) ⟨w.heap.size+1,1,none⟩ (.slice XA2 xn2 xc2)
       rw[cg]at bj
       obtain⟨w7,cb⟩:∃w7,(w5.setCell ⟨w.heap.size+1,0,none⟩ (.slice A2 n2 c2)).setCell ⟨w.heap.size+1,1,none⟩ (.slice XA2 xn2 xc2)=w7:=⟨_,rfl⟩
       have cf:w7.heap.size=w5.heap.size:=by rw[←cb,ZJ,ZJ]
       rw[cb]at i5 d5 bj
       refine Yy (Tx.results4 rfl _ _ (w.heap.size+1) _ _ _ _ rfl (show w6.drew.heap[w.heap.size+1]?=_ from h2) Tryz.underlying31 rfl (by kernel_rfl)) rfl ?_
       have bz:=df.out
       subst bz
       exact⟨_,.agg #[.slice A2 n2 c2,.slice XA2 xn2 xc2],T,E,S,l,aw,a7,rfl,cv.below (Zd _ _).drew,b8.below (Zd _ _).drew,HR.out,own_below ar (Zd _ _).drew (Zb _),c8.out,fj,(fun w'' hg=>by
        have cx:Below w7.heap.size w7 w'':=by
         rw[cf]
         exact bj.trans ((Zd _ _).drew.trans (Rw.below_grown hg (by have:=bj.size;rw[cf]at this;exact this) fun q hq=>ey.out q hq))
        exact⟨i5.below cx,d5.below cx⟩),cy.drew⟩
structure Tx.In (A XA PA MA:Option Addr) (n c xn xc pn pc mn mc:Nat) (T0:List Rw.Row) (E0 P M:List Int) (w:World):Prop where
 hn:T0.length=n
 hxn:E0.length=xn
 hpn:P.length=pn
 hmn:M.length=mn
 hnb:n≤maxLen
 hxb:xn≤maxLen
 hpb:pn≤maxLen
 hmb:mn≤maxLen
 hbd:∀r∈T0,Rw.bounds r
 ht:Rw.SeesI w A T0
 hx:Sl w w.heap.size XA (E0.map (Value.int .i64))
 hp:Sl w w.heap.size PA (P.map (Value.int .i64))
 hm:Sl w w.heap.size MA (M.map (Value.int .i64))
theorem Tx.In.below {A XA PA MA:Option Addr} {n c xn xc pn pc mn mc:Nat} {T0:List Rw.Row} {E0 P M:List Int} {w w':World} (h:Tx.In A XA PA MA n c xn xc pn pc mn mc T0 E0 P M w) (hb:Below w.heap.size w w'):Tx.In A XA PA MA n c xn xc pn pc mn mc T0 E0 P M w' :=
 ⟨h.hn,h.hxn,h.hpn,h.hmn,h.hnb,h.hxb,h.hpb,h.hmb,h.hbd,h.ht.below hb,h.hx.below hb hb.size,h.hp.below hb hb.size,h.hm.below hb hb.size⟩
theorem Tx.made_in (A XA PA MA:Option Addr) (n c xn xc pn pc mn mc:Nat) (T0:List Rw.Row) (E0 P M:List Int) (aa:Nat) (w:World) (ae:aa≤1000) (h:Tx.In A XA PA MA n c xn xc pn pc mn mc T0 E0 P M w) (hL:Rw.Laid w) :
 Calls Tryz.prog 30 #[.agg #[.slice A n c,.slice XA xn xc,.slice PA pn pc,.slice MA mn mc],.int .i64 aa] w (Tx.RetMade aa w) :=
 Tx.made_any A XA PA MA n c xn xc pn pc mn mc T0 E0 P M aa w h.hn h.hxn h.hpn h.hmn h.hnb h.hxb h.hpb h.hmb ae h.hbd h.ht h.hx h.hp h.hm hL
theorem Tx.isC_i32 {c:Int} (h:C.isC c=true) : -2147483648≤c∧c≤2147483647:=by have:=Ud.isC_bd h;omega
set_option maxRecDepth 100000 in
set_option maxHeartbeats 4000000 in
theorem Tx.runes_any (A:Option Addr) (n c:Nat) (l:List Int) (w:World) (hn:l.length=n) (a7:n≤1000000) (hbd:∀x∈l,-2147483648≤x∧x≤2147483647) (hA:Sl w w.heap.size A (l.map (Value.int .i64))) :
 Calls Tryz.prog 31 #[.slice A n c] w (Md.RetOwn l w):=by
 obtain⟨j0,hj0,au,ay,aq⟩:=Yf infoRune
 have HN:=Za hn
 have a1:=Za hbd
 have HA:=Za hA
 clear hn hbd hA
 go_enter Tryz.func31,Tryz.ntmps31
 go_wp2_with fail
 go_loopw [3,5,8] (fun v3 _ i wr=>∃(k:Nat) (sl:Value),k≤n∧i=.int .i64 k∧v3=sl∧wr.ownsRow w.heap.size 21 1 sl k ((l.take k).map (Value.int .i32))∧Below w.heap.size w wr) (fun _ _ i _=>n-(intOf i).toNat)
 case atStart=>exact⟨0,_,Zz _,rfl,rfl,ZG _ _ _ _,Zd _ _⟩
 case round =>
  obtain⟨k,sl,hk,rfl,rfl,aa,ae⟩:=hrel
  have az:=ae.size
  by_cases hlt:k<n
  · obtain⟨x,hx⟩:∃x,l[k]?=some x:=⟨_,Zc (by rw[HN.out];exact hlt)⟩
    obtain⟨ax,aw⟩:=a1.out x (Zk hx)
    obtain⟨ab,ao,hA2,a6,ap⟩:=HA.out (by rw[Zf,HN.out];omega)
    have hc:=ap k (by rw[Zf,HN.out];exact hlt)
    rw[Zl,hx,Zn,←(bcell ae).1 _ _ (by omega)]at hc
    have ak:l.take (k+1)=l.take k++[x]:=by rw[Zr,hx];rfl
    have av:=Za ak
    have ex:IntKind.i32.wrap x=x:=by rw[XE];omega
    have kI:(k:Int)<n:=by omega
    have k0:(0:Int)≤k:=by omega
    have ag:=Za aa
    have ai:=Za ae
    subst hA2
    clear hx ax aw ap aa ae ak
    go_wp2_with (first|(at_builtin;refine wpList_push1 _ rfl _ _ _ rfl w.heap.size 21 j0 _ 4 Tryz.underlying25 hj0 au ay aq rfl _ k _ rfl ag.out _ rfl rfl (by simp only[maxLen];omega) (by omega) az ?_;intro v1 w4 af aj;have ah:=Za af;have ar:=Za (ai.out.trans aj);clear af aj)|fail)
    refine⟨⟨k+1,v1,by omega,by first|rfl|go_num,rfl,?_,ar.out⟩,by simp[intOf];omega⟩
    rw[av.out,ZO]
    exact ah.out
  · obtain rfl:k=n:=by omega
    rw[Zj (by rw[HN.out];exact Zb _)]at aa
    obtain⟨A4,c4,rfl⟩:=own_form aa
    have kI:¬(k:Int)<k:=by omega
    have HO:=Za aa
    have HB:=Za ae
    clear aa ae
    go_wp2_with fail
    go_ret
    unfold Md.RetOwn
    rw[HN.out]
    exact⟨_,_,rfl,HO.out,HB.out⟩
def Nf.At (w:World) (g sz:Nat) (Z:List Int):Prop:=∃R:List Value,Z.length+R.length=sz∧Rw.At w g 3 (Z.map (Value.int .i64)++R)
theorem Nf.At.cell {w:World} {g sz:Nat} {Z:List Int} (h:Nf.At w g sz Z) {i:Nat} {x:Int} (hx:Z[i]?=some x):w.cell? ⟨g,i,none⟩=some (.int .i64 x):=by
 obtain⟨R,hs,h⟩:=h
 refine Rw.At.cell h i ?_
 rw[ZU (by rw[Zf];exact (List.getElem?_eq_some_iff.1 hx).1),Zl,hx]
 rfl
theorem Nf.At.fro {w:World} {g sz:Nat} {Z:List Int} (h:Nf.At w g sz Z) (i:Nat):w.frozen? ⟨g,i,none⟩=false:=by
 obtain⟨R,hs,h⟩:=h
 exact Rw.At.frozen h i
theorem Nf.At.lt {w:World} {g sz:Nat} {Z:List Int} (h:Nf.At w g sz Z):g<w.heap.size:=by
 obtain⟨R,hs,h⟩:=h
 exact Rw.At.lt h
theorem Nf.At.set {w:World} {g sz:Nat} {Z:List Int} (h:Nf.At w g sz Z) (i:Nat) (hi:i<Z.length) (x:Int):Nf.At (w.setCell ⟨g,i,none⟩ (.int .i64 x)) g sz (Z.set i x):=by
 obtain⟨R,hs,h⟩:=h
 refine⟨R,by rw[Xc];exact hs,?_⟩
 rw[List.map_set,←List.set_append_left _ _ (by rw[Zf];exact hi)]
 exact Rw.At.set h i _
theorem Nf.At.swap {w:World} {g sz:Nat} {P Q:List Int} {x y:Int} (h:Nf.At w g sz (P++x::y::Q)):Nf.At ((w.setCell ⟨g,P.length,none⟩ (.int .i64 y)).setCell ⟨g,P.length+1,none⟩ (.int .i64 x)) g sz (P++y::x::Q):=by
 have:=(h.set P.length (by simp) y).set (P.length+1) (by simp) x
 have e:=Ss.swap2 P [] Q x y
 simp only[ZZ,Z9,YS]at e
 rw[e]at this
 exact this
theorem Nf.At.below {w w':World} {g sz:Nat} {Z:List Int} (h:Nf.At w g sz Z) (hb:Below w.heap.size w w'):Nf.At w' g sz Z:=by
 obtain⟨R,hs,h⟩:=h
 exact⟨R,hs,Rw.At.below h hb⟩
theorem Nf.At.of_own {w:World} {base g n cap:Nat} {l:List Int} (hl:l.length=n) (h:w.ownsRow base 3 1 (.slice (some ⟨g,0,none⟩) n cap) n (l.map (Value.int .i64))):Nf.At w g cap l∧base≤g∧n≤cap∧cap≤maxLen:=by
 rcases h.2 with ⟨hv,_⟩|⟨g',ae,aa,hv,hg,hb,h1,h2,h3,h4⟩
 · cases hv
 · simp only[ZV,Zg,YE,YG,XP]at hv
   obtain⟨rfl,rfl⟩:=hv
   refine⟨⟨aa.toList.drop n,?_,?_⟩,hg,h1,h2⟩
   · have e:aa.toList.length=aa.size:=XG
     rw[ZL,e,h3,hl]
     omega
   · unfold Rw.At
     rw[Y6]at h4
     rw[←h4,ZH]
     simpa using hb
theorem Nf.At.own {w:World} {base g n cap:Nat} {Z:List Int} (h:Nf.At w g cap Z) (hl:Z.length=n) (hb:base≤g) (hc:n≤cap) (hm:cap≤maxLen):w.ownsRow base 3 1 (.slice (some ⟨g,0,none⟩) n cap) n (Z.map (Value.int .i64)):=by
 obtain⟨R,hs,ha⟩:=h
 refine⟨by rw[Zf,hl,Y6],.inr ⟨g,cap,_,rfl,hb,ha,hc,hm,?_,?_⟩⟩
 · simp
   omega
 · rw[Y6]
   simp[hl]
def Nf.RetOwnI (l:List Int) (w:World) (e:Ending) (w':World):Prop :=
 ∃A c,e=.returned (.slice A l.length c)∧w'.ownsRow w.heap.size 3 1 (.slice A l.length c) l.length (l.map (Value.int .i64))∧Below w.heap.size w w'
theorem Or.iter_len (f:Int→Int):∀(n:Nat) (l:List Int),(Or.iter f n l).length=l.length:=fun n l=>(Or.iter_eqv f n l).length
set_option maxRecDepth 100000 in
set_option maxHeartbeats 8000000 in
theorem Nf.rof_any (v:Value) (T:List Rw.Row) (E:List Int) (A:Option Addr) (n c:Nat) (l:List Int) (w:World) (cd:T.length≤1000000) (h:Md.Doc w v T E) (hl:l.length=n) (hn:n≤100000) (hA:Sl w w.heap.size A (l.map (Value.int .i64))) :
 Calls Tryz.prog 32 #[v,.slice A n c] w (Nf.RetOwnI (Or.of (Md.cls T) l) w):=by
 obtain⟨i0,dc,cp,cz,c7⟩:=Yf infoInt
 have hd:=h
 obtain⟨AT,cT,XA,xc,rfl,_⟩:=hd
 obtain⟨tn,cb⟩:∃k,T.length=k:=⟨_,rfl⟩
 obtain⟨xn,hxn⟩:∃k,E.length=k:=⟨_,rfl⟩
 rw[cb,hxn]at h ⊢
 have av:∀d W,Below w.heap.size w W→Calls Tryz.prog 36 #[Md.tv AT tn cT XA xn xc,.int .i64 d] W fun e w'=>e=.returned (.int .i64 (Md.cls T d))∧Below W.heap.size W w':=fun d W hW=>Md.rcls_any _ T E d W cd (h.below hW)
 obtain⟨f,hf⟩:∃f,Md.cls T=f:=⟨_,rfl⟩
 rw[hf]at av ⊢
 unfold Md.tv at *
 obtain⟨wa,bf⟩:∃wa,(w.alloc (.cells #[.slice AT tn cT,.slice XA xn xc] 31)).alloc (.cells #[] 3)=wa:=⟨_,rfl⟩
 have bw:Below w.heap.size w wa:=by rw[←bf];exact ((Zd _ _).alloc (Zb _) _).alloc (by simp) _
 have bs:Rw.At wa w.heap.size 31 [.slice AT tn cT,.slice XA xn xc]:=by
  rw[←bf];exact (Rw.At.new w 31 [.slice AT tn cT,.slice XA xn xc]).alloc _
 have bb:wa.ownsRow (w.heap.size+1) 3 1 (.slice (some ⟨w.heap.size+1,0,none⟩) 0 0) 0 []:=by
  have:=Md.own_empty (w.alloc (.cells #[.slice AT tn cT,.slice XA xn xc] 31)) 3 (by decide)
  rw[ZD]at this
  rw[←bf];exact this
 have du:w.heap.size+1≤wa.heap.size:=bs.lt
 have cy:=Za bf
 have dl:=Za bw
 have dv:=Za bs
 have b4:=Za bb
 have HL:=Za hl
 have dw:=Za (hA.below bw (Zb _))
 have a7:=Za av
 have b7:(l.map (Value.int .i64)).length=n*1:=by rw[Zf,hl];omega
 have cj:∀u∈l.map (Value.int .i64),u.oneCell'=true:=oneCells .i64 _
 have c8:=Za cj
 have c6:=Za b7
 clear bf bw bs bb hl hA av h cb hxn cd hf b7 cj
 go_enter Tryz.func32,Tryz.ntmps32
 go_wp2_with (first|(at_builtin;(rw[cy.out]);refine wpList_appendSl _ rfl _ _ _ rfl (w.heap.size+1) 3 i0 _ 1 8 Tryz.underlying29 dc cp cz c7 rfl (by omega) _ 0 _ rfl b4.out _ A n c (l.map (Value.int .i64)) rfl c6.out dw.out c8.out (by simp only[maxLen];omega) (by omega) du ?_;intro v1 w1 aa bk ah;have ar:=Za aa;have bj:=Za (dl.out.trans (bk.mono (ZW _)));have bq:=Za (dv.out.below' bk (ZR _));clear aa bk ah)|fail)
 rw[ZZ,Z2]at ar
 have aa:=ar.out
 rcases aa.2 with ⟨hv,h0⟩|⟨g,cap,dy,hv,hg,dm,k1,k2,k3,k4⟩
 · subst hv
   obtain rfl:n=0:=h0
   have cu:l=[]:=ZI HL.out
   subst cu
   clear aa
   go_loopw [6,7,8,9] (fun vi _ _ _ wr=>vi=.int .i64 0∧wr=w1) (fun _ _ _ _ _=>0)
   case atStart=>exact⟨rfl,rfl⟩
   case round =>
    obtain⟨rfl,cx⟩:=hrel
    subst cx
    go_wp2_with fail
    go_ret
    exact⟨none,0,rfl,ZG _ _ _ _,bj.out⟩
 · subst hv
   obtain⟨b6,dn,cc,cn⟩:=Nf.At.of_own HL.out aa
   have cm:∀W,w1.grownBy W (some g)→Below w.heap.size w W:=fun W hW=>bj.out.grown hW bj.out.size (by intro k hk;simp only[Zg]at hk;omega)
   have ba:∀W,w1.grownBy W (some g)→W.cell? ⟨w.heap.size,0,none⟩=some (.slice AT tn cT)∧W.cell? ⟨w.heap.size,1,none⟩=some (.slice XA xn xc)∧w.heap.size<W.heap.size:=fun W hW=>by
    have:=bq.out.grown hW (by simp only[XQ,Zg];omega)
    exact⟨this.cell 0 rfl,this.cell 1 rfl,this.lt⟩
   have b5:=Za cm
   have a6:=Za ba
   have br:=Za b6
   have bu:Hid (w.heap.size≤g∧n≤cap∧cap≤maxLen):=Za ⟨by omega,cc,cn⟩
   have dk:=Za (Or.iter_len f)
   clear aa dm k1 k2 k3 k4 cm ba b6 dn cc cn hg
   go_loopw [6,7,8,9] (fun vi _ _ _ wr=>∃(t:Nat) (Z:List Int),t≤n∧vi=.int .i64 t∧Z.length=n∧Or.iter f (n-t) Z=Or.of f l∧Nf.At wr g cap Z∧w1.grownBy wr (some g)) (fun vi _ _ _ _=>n-(intOf vi).toNat)
   case atStart=>exact⟨0,l,Zz _,rfl,HL.out,by rw[Nat.sub_zero,←HL.out];rfl,br.out,Ss.grown_refl _ _⟩
   case round =>
    obtain⟨t,Z,ht,rfl,ax,hit,ai,bi⟩:=hrel
    by_cases hlt:t<n
    · have tI:(t:Int)<n:=by omega
      obtain⟨x0,R0,rfl⟩:∃x R,Z=x::R:=by
       cases Z with
       | nil=>simp at ax;omega
       | cons x R=>exact⟨x,R,rfl⟩
      have ct:=Za hit
      have cw:=Za ax
      have bo:=Za ai
      have cq:=Za bi
      clear hit ax ai bi
      go_wp2_with fail
      obtain⟨wo,rfl⟩:∃wo:World,wo=wr:=⟨_,rfl⟩
      go_loopw [7,8,9] (fun vi _ _ wr=>∃(i:Nat) (P:List Int) (x:Int) (R:List Int),1≤i∧i≤n∧vi=.int .i64 i∧P.length+1=i∧P.length+1+R.length=n∧P++Or.go f x R=Or.pass f (x0::R0)∧Nf.At wr g cap (P++x::R)∧w1.grownBy wr (some g)) (fun vi _ _ _=>n-(intOf vi).toNat)
      case atStart=>exact⟨1,[],x0,R0,Zb _,by omega,rfl,rfl,by have:=cw.out;simp at this ⊢;omega,rfl,bo.out,cq.out⟩
      case round =>
       obtain⟨i,P,x,R,ea,dx,rfl,bc,bg,af,ae,ay⟩:=hrel
       by_cases hie:i<n
       · have iI:(i:Int)<n:=by omega
         obtain⟨y,R,rfl⟩:∃y R',R=y::R':=by
          cases R with
          | nil=>simp at bg;omega
          | cons y R'=>exact⟨y,R',rfl⟩
         have c1:=ae.cell (Ss.get_first _ _ _)
         have c2:=ae.cell (Ss.get_second P [] R x y)
         rw[Z9,YS,bc]at c2
         have ap:P.length=i-1:=by omega
         rw[ap]at c1
         have f1:=ae.fro (i-1)
         have f2:=ae.fro i
         have gl:=ae.lt
         have ao:=ae.swap
         rw[bc,ap]at ao
         obtain⟨b1,b2,b3⟩:=a6.out wr ay
         have bx:=Ext.cells b1 b3
         have bz:=Ext.cells b2 b3
         have cr:=Ext.cells c1 gl
         have xc2:=Ext.cells c2 gl
         obtain⟨u,hu⟩:∃u,f x=u:=⟨_,rfl⟩
         obtain⟨q,hq⟩:∃q,f y=q:=⟨_,rfl⟩
         have C1:=Za (Ext.call (w:=wr) fun W hW=>by
          have:=a7.out x W (b5.out W (Rw.grown_trans ay (Ss.grown_below hW)))
          rw[hu]at this
          exact this)
         have C2:=Za (fun (wq:World) (di:w1.grownBy wq (some g))=>Ext.call (w:=wq) fun W hW=>by
          have:=a7.out y W (b5.out W (Rw.grown_trans di (Ss.grown_below hW)))
          rw[hq]at this
          exact this)
         have HU:=Za hu
         have HQ:=Za hq
         have ak:=Za af
         have au:=Za bc
         have bl:=Za bg
         have bt:=Za ae
         have cv:=Za ay
         have j0:(0:Int)≤(i:Int)-1:=by omega
         have j1:(i:Int)-1<n:=by omega
         have jt:((i:Int)-1).toNat=i-1:=by omega
         clear hu hq af bc bg ae ay ao ap
         go_wp2_with fail
         refine wp_region_ext (by kernel_rfl) (by kernel_rfl) ?_
         repeat (go_big_quiet_step ((go_at_call 36;with_reducible exact C1.out _)))
         refine wpQuiet_nil ?_
         intro xw
         obtain⟨wx,b9⟩:∃wx,xw.val=wx:=⟨_,rfl⟩
         have aj:=xw.below
         rw[b9]at aj ⊢
         have ah:=Rw.grown_trans cv.out (Ss.grown_below (row:=some g) aj)
         have ag:=bt.out.below aj
         clear bx bz cr xc2 b1 b2 b3 c1 c2 f1 f2 gl b9 xw aj
         have c2:=ag.cell (Ss.get_second P [] R x y)
         rw[Z9,YS,au.out]at c2
         have gl:=ag.lt
         obtain⟨b1,b2,b3⟩:=a6.out wx ah
         have bx:=Ext.cells b1 b3
         have bz:=Ext.cells b2 b3
         have xc2:=Ext.cells c2 gl
         have C3:=Za (C2.out wx ah)
         have df:=Za ag
         have dp:=Za ah
         have dz:(0:Int)≤(i:Int):=by omega
         clear ag ah
         go_wp2_with fail
         refine wp_region_ext (by kernel_rfl) (by kernel_rfl) ?_
         repeat (go_big_quiet_step ((go_at_call 36;with_reducible exact C3.out _)))
         refine wpQuiet_nil ?_
         intro xw
         obtain⟨wy,ck⟩:∃wy,xw.val=wy:=⟨_,rfl⟩
         have aj:=xw.below
         rw[ck]at aj ⊢
         have ah:=Rw.grown_trans dp.out (Ss.grown_below (row:=some g) aj)
         have ag:=df.out.below aj
         clear bx bz xc2 b1 b2 b3 c2 gl ck xw aj
         have ap:P.length=i-1:=by have:=au.out;omega
         have bp:=Za ah
         by_cases ao:0<q∧q<u
         · obtain⟨aw,ch⟩:=ao
           have az:q > 0:=aw
           have bm:u > q:=ch
           have a8:P++Or.go f x (y::R)=(P++[y])++Or.go f x R:=by
            rw[Or.go,Zv (by rw[HU.out,HQ.out];exact⟨aw,ch⟩)]
            simp
           have c1:=ag.cell (Ss.get_first P (y::R) x)
           have c2:=ag.cell (Ss.get_second P [] R x y)
           rw[Z9,YS,au.out]at c2
           rw[ap]at c1
           have f1:=ag.fro (i-1)
           have f2:=ag.fro i
           have gl:=ag.lt
           have bn:=ag.swap
           rw[au.out,ap]at bn
           have ec:¬i-1=i:=by omega
           have eb:¬i=i-1:=by omega
           have dr:Hid (Nf.At ((wy.setCell ⟨g,i-1,none⟩ (.int .i64 y)).setCell ⟨g,i,none⟩ (.int .i64 x)) g cap ((P++[y])++x::R)):=Lib.hid (by simpa using bn)
           have bh:Hid ((P++[y])++Or.go f x R=Or.pass f (x0::R0)):=Za (a8.symm.trans ak.out)
           clear ag ah a8 bn ap
           go_wp2_with fail
           go_region
           go_wp2
           exact⟨⟨i+1,P++[y],x,R,by omega,by omega,by first|rfl|go_num,by have:=au.out;simp;omega,by have:=bl.out;simp at this ⊢;omega,bh.out,dr.out,Ss.grown_drew (Ss.grown_set (Ss.grown_set bp.out _ _) _ _)⟩,by simp[intOf];omega⟩
         · have a8:P++Or.go f x (y::R)=(P++[x])++Or.go f y R:=by
            rw[Or.go,Zs (by rw[HU.out,HQ.out];exact ao)]
            simp
           have bh:Hid ((P++[x])++Or.go f y R=Or.pass f (x0::R0)):=Za (a8.symm.trans ak.out)
           have cf:Hid (Nf.At wy g cap ((P++[x])++y::R)):=Lib.hid (by simpa using ag)
           clear ag ah a8 ap
           by_cases aw:0<q
           · have az:q > 0:=aw
             have bm:¬u > q:=fun h=>ao ⟨aw,h⟩
             clear ao
             go_wp2_with fail
             exact⟨⟨i+1,P++[x],y,R,by omega,by omega,by first|rfl|go_num,by have:=au.out;simp;omega,by have:=bl.out;simp at this ⊢;omega,bh.out,cf.out,bp.out⟩,by simp[intOf];omega⟩
           · have az:¬q > 0:=aw
             clear ao
             go_wp2_with fail
             exact⟨⟨i+1,P++[x],y,R,by omega,by omega,by first|rfl|go_num,by have:=au.out;simp;omega,by have:=bl.out;simp at this ⊢;omega,bh.out,cf.out,bp.out⟩,by simp[intOf];omega⟩
       · obtain rfl:i=n:=by omega
         have iI:¬(i:Int)<i:=by omega
         obtain rfl:R=[]:=ZI (by omega)
         have b8:P++[x]=Or.pass f (x0::R0):=af
         have cg:(P++[x]).length=i:=by simp;omega
         have a1:Or.iter f (i-(t+1)) (P++[x])=Or.of f l:=by
          have h:=ct.out
          rw[show i-t=i-(t+1)+1 by omega]at h
          rw[b8]
          exact h
         have H1:=Za cg
         have H2:=Za a1
         have H3:=Za ae
         have H4:=Za ay
         clear b8 cg a1 ae ay af bc bg
         go_wp2_with fail
         exact⟨⟨t+1,P++[x],by omega,by first|rfl|go_num,H1.out,H2.out,H3.out,H4.out⟩,by simp[intOf];omega⟩
    · obtain rfl:t=n:=by omega
      have tI:¬(t:Int)<t:=by omega
      rw[Yu]at hit
      have hZ:Z=Or.of f l:=hit
      subst hZ
      have aq:=ai.own (n:=t) (base:=w.heap.size) ax bu.out.1 bu.out.2.1 bu.out.2.2
      have HO:=Za aq
      have dh:=Za (b5.out wr bi)
      have dt:=Za ax
      clear hit ai aq bi ax
      go_wp2_with fail
      go_ret
      unfold Nf.RetOwnI
      rw[dt.out]
      exact⟨_,_,rfl,HO.out,dh.out⟩
def Or.beg (f:Int→Int) (l:List Int) (i:Nat):Bool:=decide (i=0)||decide (f (l.getD i 0)=0)
def Or.runs (f:Int→Int) (l:List Int) (k:Nat):List Int:=((List.range k).filter (Or.beg f l)).map fun i:Nat=>(i:Int)
theorem Or.runs_succ (f:Int→Int) (l:List Int) (k:Nat):Or.runs f l (k+1)=if Or.beg f l k=true then Or.runs f l k++[(k:Int)] else Or.runs f l k:=by
 unfold Or.runs
 rw[List.range_succ,Z7,ZO]
 cases h:Or.beg f l k <;> simp[h]
theorem Or.runs_prefix (f:Int→Int) (l:List Int) {k n:Nat} (h:k≤n):Or.runs f l k <+: Or.runs f l n:=by
 obtain⟨m,rfl⟩:∃m,n=k+m:=⟨n-k,by omega⟩
 clear h
 induction m with
 | zero=>exact List.prefix_rfl
 | succ m ih =>
   rw[←Yh,Or.runs_succ]
   split
   · exact ih.trans (List.prefix_append _ _)
   · exact ih
theorem Or.runs_len (f:Int→Int) (l:List Int) (k:Nat):(Or.runs f l k).length≤k:=by
 unfold Or.runs
 rw[Zf]
 exact Zh (List.length_filter_le _ _) (by simp)
set_option maxRecDepth 100000 in
set_option maxHeartbeats 4000000 in
theorem Or.runs_any (v:Value) (T:List Rw.Row) (S:List Int) (A:Option Addr) (n c:Nat) (l:List Int) (w:World) (ok:Ud.Ok T S) (h:Ud.Is w v T S) (hn:l.length=n) (bm:n≤1000000) (hA:Sl w w.heap.size A (l.map (Value.int .i32))) :
 Calls Tryz.prog 37 #[v,.slice A n c] w (Nf.RetOwnI (Or.runs (Md.cls T) l n) w):=by
 obtain⟨i0,bb,bc,bh,bi⟩:=Yf infoInt
 have bg:Hid (∀x W,Below w.heap.size w W→Calls Tryz.prog 26 #[v,.int .i32 x] W fun e w'=>e=.returned (.int .i64 (Md.cls T x))∧Below W.heap.size W w'):=Za fun x W hW=>Ud.class_any v T S x W ok (h.below hW)
 obtain⟨pv,rfl,_⟩:=h.form
 have HN:=Za hn
 have HA:=Za hA
 obtain⟨f,hf⟩:∃f,Md.cls T=f:=⟨_,rfl⟩
 simp only[hf]at bg ⊢
 clear hn hA h ok hf
 go_enter Tryz.func37,Tryz.ntmps37
 go_wp2_with fail
 go_loopw [5,6,7,10] (fun v5 _ _ i wr=>∃(k:Nat) (sl:Value),k≤n∧i=.int .i64 k∧v5=sl∧wr.ownsRow w.heap.size 3 1 sl (Or.runs f l k).length ((Or.runs f l k).map (Value.int .i64))∧Below w.heap.size w wr) (fun _ _ _ i _=>n-(intOf i).toNat)
 case atStart=>exact⟨0,_,Zz _,rfl,rfl,ZG _ _ _ _,Zd _ _⟩
 case round =>
  obtain⟨k,sl,hk,rfl,rfl,aa,af⟩:=hrel
  have aw:=af.size
  by_cases hlt:k<n
  · obtain⟨x,hx⟩:∃x,l[k]?=some x:=⟨_,Zc (by rw[HN.out];exact hlt)⟩
    obtain⟨ab,ao,hA2,bn,bj⟩:=HA.out (by rw[Zf,HN.out];omega)
    have hc:=bj k (by rw[Zf,HN.out];exact hlt)
    rw[Zl,hx,Zn,←(bcell af).1 _ _ (by omega)]at hc
    have a6:=Or.runs_succ f l k
    have bk:=Or.runs_len f l k
    have ba:Or.beg f l k=(decide (k=0)||decide (f x=0)):=by unfold Or.beg;rw[List.getD_eq_getElem?_getD,hx];rfl
    obtain⟨q,hq⟩:∃q,f x=q:=⟨_,rfl⟩
    have a1:=bg.out x wr af
    rw[hq]at a1 ba
    obtain⟨R,hR⟩:∃R,Or.runs f l k=R:=⟨_,rfl⟩
    obtain⟨rn,ap⟩:∃k,R.length=k:=⟨_,rfl⟩
    rw[hR]at a6
    rw[hR,ap]at aa bk
    have a8:=Za a6
    have av:=Za ap
    have ay:=Za ba
    have aq:=Za af
    have bf:=Za a1
    have ag:=Za aa
    have kI:(k:Int)<n:=by omega
    have k0:(0:Int)≤k:=by omega
    subst hA2
    clear hx bj hq a1 af a6 hR ap ba aa
    rcases hz:((k:Int) == 0) with _|_
    · have ak:¬k=0:=by rintro rfl;simp at hz
      rcases hqz:(q == 0) with _|_
      · have ai:Or.runs f l (k+1)=R:=by
         rw[a8.out,ay.out,decide_eq_false ak,decide_eq_false (by simpa using hqz)];rfl
        have ar:=Za ai
        clear ai ak
        go_wp2_with (go_at_call 26;refine bf.out.mono ?_;rintro e w1 ⟨rfl,aj⟩;have az:=Za (aq.out.trans (aj.mono aw));have ax:=Za (own_below ag.out aj (Zb _));clear aj)
        refine⟨⟨k+1,_,by omega,by first|rfl|go_num,rfl,?_,az.out⟩,by simp[intOf];omega⟩
        rw[ar.out,av.out]
        exact ax.out
      · have ai:Or.runs f l (k+1)=R++[(k:Int)]:=by
         rw[a8.out,ay.out,decide_eq_false ak,decide_eq_true (by simpa using hqz)];rfl
        have ar:=Za ai
        clear ai ak
        go_wp2_with (first|(go_at_call 26;refine bf.out.mono ?_;rintro e w1 ⟨rfl,aj⟩;have az:=Za (aq.out.trans (aj.mono aw));have ax:=Za (own_below ag.out aj (Zb _));have bl:=Zh aw aj.size;clear aj)|(at_builtin;refine wpList_push1 _ rfl _ _ _ rfl w.heap.size 3 i0 _ 8 Tryz.underlying29 bb bc bh bi rfl _ rn _ rfl ax.out _ rfl rfl (by simp only[maxLen];omega) (by omega) bl ?_;intro v1 w4 ae au;have ah:=Za ae;have a7:=Za (az.out.trans au);clear ae au)|fail)
        refine⟨⟨k+1,_,by omega,by first|rfl|go_num,rfl,?_,a7.out⟩,by simp[intOf];omega⟩
        rw[ar.out,Zi,av.out,ZO]
        exact ah.out
    · have ak:k=0:=by
       have:(k:Int)=0:=by simpa using hz
       omega
      have ai:Or.runs f l (k+1)=R++[(k:Int)]:=by
       rw[a8.out,ay.out,Zo ak];rfl
      have ar:=Za ai
      clear ai ak
      go_wp2_with (first|(at_builtin;refine wpList_push1 _ rfl _ _ _ rfl w.heap.size 3 i0 _ 8 Tryz.underlying29 bb bc bh bi rfl _ rn _ rfl ag.out _ rfl rfl (by simp only[maxLen];omega) (by omega) aw ?_;intro v1 w4 ae au;have ah:=Za ae;have a7:=Za (aq.out.trans au);clear ae au)|fail)
      refine⟨⟨k+1,_,by omega,by first|rfl|go_num,rfl,?_,a7.out⟩,by simp[intOf];omega⟩
      rw[ar.out,Zi,av.out,ZO]
      exact ah.out
  · obtain rfl:k=n:=by omega
    obtain⟨R,hR⟩:∃R,Or.runs f l k=R:=⟨_,rfl⟩
    obtain⟨rn,ap⟩:∃k,R.length=k:=⟨_,rfl⟩
    rw[hR,ap]at aa
    have HR:=Za hR
    have av:=Za ap
    obtain⟨A4,c4,rfl⟩:=own_form aa
    have kI:¬(k:Int)<k:=by omega
    have HO:=Za aa
    have HB:=Za af
    clear aa af hR ap
    go_wp2_with fail
    go_ret
    unfold Nf.RetOwnI
    rw[HR.out,av.out]
    exact⟨_,_,rfl,HO.out,HB.out⟩
end Go.Proofs.YtbeakahjbkdeiaaGreatDoor
