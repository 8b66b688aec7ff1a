/- cedillalaw16's Made: a table, loaded, and characters: by walking the text. -/
import Derived.Test.YtikiplbhlohmdaaGreatDoorTxAwake
set_option linter.unusedVariables false
set_option linter.unusedSimpArgs false
namespace Go.Proofs.YtikiplbhlohmdaaGreatDoor
open Go.RowKit
theorem Tx.tmod_bd (k:Int) {L:Int} (h:0<L) : -L<k.tmod L∧k.tmod L<L:=by
 rw[Int.tmod_eq_emod]
 have h1:=Int.emod_nonneg k (show L≠0 by omega)
 have h2:=Int.emod_lt_of_pos k h
 split
 · omega
 · have h3:(L.natAbs:Int)=L:=by omega
   omega
theorem Tx.pick (k:Int) {L:Nat} (h0:0<L) (h:L≤1000000):∃j:Nat,j<L∧(wrap64 (k.tmod L+L)).tmod L=(j:Int):=by
 obtain⟨a1,a2⟩:=Tx.tmod_bd k (show (0:Int)<L by omega)
 have e1:wrap64 (k.tmod L+L)=k.tmod L+L:=by unfold wrap64;omega
 rw[e1]
 have a3:0≤(k.tmod L+L).tmod L:=Int.tmod_nonneg _ (by omega)
 obtain⟨_,a4⟩:=Tx.tmod_bd (k.tmod L+L) (show (0:Int)<L by omega)
 exact⟨((k.tmod L+L).tmod L).toNat,by omega,by omega⟩
theorem Tx.results4 {P:Program} {fn:Func} {p u u2 u3:Tmp} {ty:TypeId} (h:fn.results = #[.tmp u,.cell p ty,.tmp u2,.tmp u3]) (tmps:Array Value) (w:World) (g:Nat) (t:TypeId) (cs:Array Value) (fr:Nat × Nat) (d:TypeDesc)
 (hp:tmps.getD p undef=.pointer (some ⟨g,0,none⟩)) (hg:w.heap[g]?=some (.cells cs t fr))
 (hu:P.underlying ty=some d) (hd:(match d with | .struct _ | .array _ _=>true|_=>false)=true) (hi:(P.info? ty).map (·.size)=some cs.size) :
 (results fn tmps).run P w=.ok (.tuple #[tmps.getD u undef,.agg cs,tmps.getD u2 undef,tmps.getD u3 undef]) w:=by
 have aa:tmps[p]?.getD undef=.pointer (some ⟨g,0,none⟩):=by simpa using hp
 simp[results,h,aa,asAddr,XR w g t ty cs fr d hg hu hd hi]
theorem Tx.pick_neg (k:Int) {L:Nat} (hk:k<0) (h0:0<L) (h:L≤maxLen):∃j:Nat,j<L∧(wrap64 (k.tmod L+L)).tmod L=(j:Int):=by
 simp only[maxLen]at h
 obtain⟨a1,a2⟩:=Tx.tmod_bd k (show (0:Int)<L by omega)
 have a5:k.tmod L≤0:=by
  rw[Int.tmod_eq_emod]
  have h2:=Int.emod_lt_of_pos k (show (0:Int)<L by omega)
  split
  · rename_i hh
    rcases hh with hh|hh
    · omega
    · rw[Int.emod_eq_zero_of_dvd hh];exact YQ _
  · have h3:((L:Int).natAbs:Int)=L:=by omega
    omega
 have e1:wrap64 (k.tmod L+L)=k.tmod L+L:=by unfold wrap64;omega
 rw[e1]
 have a3:0≤(k.tmod L+L).tmod L:=Int.tmod_nonneg _ (by omega)
 obtain⟨_,a4⟩:=Tx.tmod_bd (k.tmod L+L) (show (0:Int)<L by omega)
 exact⟨((k.tmod L+L).tmod L).toNat,by omega,by omega⟩
theorem Tx.both {B:Nat} {w w':World} (h:Below B w w') (a:Addr) (u:Value):Below B (w.setCell a u) (w'.setCell a u) :=
 ⟨h.os,h.tape,h.output,by simp[World.setCell];exact h.size,fun k hk=>by simp only[World.setCell,YN,h.block k hk]⟩
def Tx.RetMade (aa:Nat) (w:World) (e:Ending) (w':World):Prop :=
 ∃(p v:Value) (T:List Rw.Row) (E S l:List Int) (A:Option Addr) (c:Nat),e=.returned (.tuple #[p,v,.slice A l.length c,.bool true])∧Ud.Is w' p T S∧Md.Doc w' v T E∧Ud.Right T E S∧w'.ownsRow w.heap.size 3 1 (.slice A l.length c) l.length (l.map (Value.int .i64))∧(∀x∈l,C.isC x=true)∧l.length≤aa∧(∀w'',w'.grownBy w'' (Value.slice A l.length c).ownBlock→Ud.Is w'' p T S∧Md.Doc w'' v T E)∧Below w.heap.size w w'
theorem Tx.row_isC {T:List Rw.Row} {E S:List Int} (h:Ud.Right T E S) {r:Rw.Row} (hr:r∈T):C.isC r.1=true∧∀c∈r.2.2,C.isC c=true :=
 ⟨(h.ok.good r hr).1,fun c hc=>((h.ok.good r hr).2.2.2.2.2 c hc).1⟩
theorem Tx.all_isC:∀c∈([65,97,768,4352,4449,4520,44032,44033]:List Int),C.isC c=true:=by decide
set_option maxRecDepth 100000 in
set_option maxHeartbeats 4000000 in
theorem Tx.made_any (A XA PA MA:Option Addr) (n c xn xc pn pc mn mc:Nat) (T0:List Rw.Row) (E0 P M:List Int) (ar:Nat) (w:World) (hn:T0.length=n) (hxn:E0.length=xn) (hpn:P.length=pn) (hmn:M.length=mn) (hnb:n≤maxLen) (hxb:xn≤maxLen) (hpb:pn≤maxLen) (hmb:mn≤maxLen) (fc:ar≤1000) (hbd:∀r∈T0,Rw.bounds r)
 (h2:Rw.SeesI w A T0) (hX:Sl w w.heap.size XA (E0.map (Value.int .i64))) (hP:Sl w w.heap.size PA (P.map (Value.int .i64))) (hM:Sl w w.heap.size MA (M.map (Value.int .i64))) (hL:Rw.Laid w) :
 Calls Tryz.prog 9 #[.agg #[.slice A n c,.slice XA xn xc,.slice PA pn pc,.slice MA mn mc],.int .i64 ar] w (Tx.RetMade ar w):=by
 obtain⟨i0,cn,ct,cv,b9⟩:=Z7 infoInt
 have bq:Hid (∀W,Below w.heap.size w W→Calls Tryz.prog 27 #[.agg #[.slice A n c,.slice XA xn xc]] W (Ud.RetLoaded W)):=Za fun W hW =>
  Ud.loaded_any A XA n c xn xc T0 E0 W hn hxn hnb hxb hbd (h2.below hW) (hX.below hW hW.size) (hL.next hW)
 obtain⟨wa,cu⟩:∃wa,(w.alloc (.cells #[.slice A n c,.slice XA xn xc,.slice PA pn pc,.slice MA mn mc] 27)).alloc (.cells #[.slice none 0 0,.slice none 0 0] 25)=wa:=⟨_,rfl⟩
 have b1:Below w.heap.size w wa:=by rw[←cu];exact ((Zd _ _).alloc (Zb _) _).alloc (by simp) _
 have dc:Rw.At wa w.heap.size 27 [.slice A n c,.slice XA xn xc,.slice PA pn pc,.slice MA mn mc]:=by
  rw[←cu];exact (Rw.At.new w 27 [.slice A n c,.slice XA xn xc,.slice PA pn pc,.slice MA mn mc]).alloc _
 have b8:Rw.At wa (w.heap.size+1) 25 [.slice none 0 0,.slice none 0 0]:=by
  have:=Rw.At.new (w.alloc (.cells #[.slice A n c,.slice XA xn xc,.slice PA pn pc,.slice MA mn mc] 27)) 25 [.slice none 0 0,.slice none 0 0]
  rw[ZH]at this
  rw[←cu];exact this
 have fp:=Za cu
 have eg:=Za b1
 have et:=Za dc
 have dl:=Za b8
 have ee:=Za hpn
 have e7:=Za hmn
 have gj:=Za (hP.below b1 b1.size)
 have fe:=Za (hM.below b1 b1.size)
 have x0:=dc.cell 0 rfl
 have x1:=dc.cell 1 rfl
 have xl:=dc.lt
 clear cu b1 dc b8 hn hxn hnb hxb hbd h2 hX hL hP hM hpn hmn
 go_enter Tryz.func9,Tryz.ntmps9
 go_upto_region 1 with (fail)
 rw[fp.out]
 go_wp2_with fail
 refine (bq.out wa eg.out).mono ?_
 rintro e w2 ⟨p,v2,T,E,S,rfl,ed,b4,hR,ba⟩
 obtain⟨pb,rfl,gp⟩:=ed.form
 obtain⟨A2,c2,XA2,xc2,rfl,ei⟩:=id b4
 obtain⟨n2,eh⟩:∃k,T.length=k:=⟨_,rfl⟩
 obtain⟨xn2,cr⟩:∃k,E.length=k:=⟨_,rfl⟩
 rw[eh,cr]at b4 ⊢
 unfold Md.tv at b4 ⊢
 obtain⟨w3,du⟩:∃w3,w2.alloc (.cells #[.slice A2 n2 c2,.slice XA2 xn2 xc2] 25)=w3:=⟨_,rfl⟩
 have bp:Below w2.heap.size w2 w3:=by rw[←du];exact (Zd _ _).alloc (Zb _) _
 have aa:Rw.At w3 w2.heap.size 25 [.slice A2 n2 c2,.slice XA2 xn2 xc2]:=by rw[←du];exact Rw.At.new w2 25 [.slice A2 n2 c2,.slice XA2 xn2 xc2]
 have ch:=et.out.below (ba.trans (bp.mono ba.size))
 have fx:=Za du
 have c7:Below w.heap.size w w3:=eg.out.trans ((ba.trans (bp.mono ba.size)).mono eg.out.size)
 have dh:=Za (ba.trans (bp.mono ba.size))
 have b6:=Za c7
 have fy:=Za ch
 have ap:=Za (dl.out.below (ba.trans (bp.mono ba.size)))
 have bw:=Za aa
 have bg:=Za (ed.below bp)
 have dt:=Za (b4.below bp)
 have ez:Hid (Rw.SeesI w3 A2 T):=by
  obtain⟨A9,c9,X9,d9,he,gi,h6⟩:=b4.below bp
  simp only[Md.tv,XE,XY,Yd,Z3,YH]at he
  obtain⟨⟨rfl,_,rfl⟩,rfl,_,rfl⟩:=he
  exact Za gi
 have HR:=Za hR
 have gv:=Za eh
 have gm:n2≤20:=by have:=hR.tl;omega
 have gq:w.heap.size+1<w2.heap.size:=Zf dl.out.lt ba.size
 clear x0 x1 b4 ei ba bp aa ed du c7 ch hR eh cr bq fp
 go_upto_region 2 with (fail)
 rw[fx.out]
 have ag:(w3.alloc (.cells #[.int .i64 65,.int .i64 97,.int .i64 768,.int .i64 4352,.int .i64 4449,.int .i64 4520,.int .i64 44032,.int .i64 44033] 3)).ownsRow w3.heap.size 3 1 (.slice (some ⟨w3.heap.size,0,none⟩) 8 8) 8 (([65,97,768,4352,4449,4520,44032,44033]:List Int).map (Value.int .i64)) :=
  World.ownsRow_lit w3 #[.int .i64 65,.int .i64 97,.int .i64 768,.int .i64 4352,.int .i64 4449,.int .i64 4520,.int .i64 44032,.int .i64 44033] 8 (Zb _) (by decide) rfl
 obtain⟨w4,dx⟩:∃w4,w3.alloc (.cells #[.int .i64 65,.int .i64 97,.int .i64 768,.int .i64 4352,.int .i64 4449,.int .i64 4520,.int .i64 44032,.int .i64 44033] 3)=w4:=⟨_,rfl⟩
 have bh:Below w3.heap.size w3 w4:=by rw[←dx];exact (Zd _ _).alloc (Zb _) _
 rw[dx]at ag
 have dm:=Za ag
 have gz:=Za bh
 have gw:=Za dx
 have a8:=bw.out.below bh
 have y0:=a8.cell 0 rfl
 have yl:=a8.lt
 clear dx ag bh a8
 go_upto_region 5 with (fail)
 rw[gw.out]
 go_wp2_with fail
 clear y0 yl
 go_loopw [10,29] (fun v6 i wr=>∃(j:Nat) (v:Value) (xs:List Int),j≤n2∧i=.int .i64 j∧v6=v∧wr.ownsRow w3.heap.size 3 1 v xs.length (xs.map (Value.int .i64))∧(∀x∈xs,C.isC x=true)∧(xs.length≤8+j*3∧0<xs.length)∧Below w3.heap.size w3 wr) (fun _ i _=>n2-(intOf i).toNat)
 case atStart=>exact⟨0,_,[65,97,768,4352,4449,4520,44032,44033],ZE _,rfl,rfl,dm.out,Tx.all_isC,by simp,gz.out⟩
 case round =>
  obtain⟨j,ho,xs,hj,rfl,rfl,ak,hxb,er,aj⟩:=hrel
  have bb:Below w3.heap.size w3 wr:=aj
  have ae:=Za ak
  have ef:=Za hxb
  have ai:=Za aj
  by_cases hlt:j<n2
  · obtain⟨r,hr⟩:∃r,T[j]?=some r:=⟨_,Zc (by rw[gv.out];exact hlt)⟩
    have ec:=Zk hr
    have fu:=Tx.row_isC HR.out ec
    have fz:=(HR.out.rok r ec).2.2.1
    have cp:=ez.out
    obtain⟨b,o,a,gl,hb,fk,fm,ft,fh⟩:=cp.row hr
    have c0:=((bcell bb).1 b (o+j*3) hb).trans fk
    have c1:=((bcell bb).1 b (o+j*3+1) hb).trans fm
    have c2:=((bcell bb).1 b (o+j*3+2) hb).trans ft
    have hz:b<wr.heap.size:=Zf hb bb.size
    obtain⟨ml,bx⟩:∃k,r.2.2.length=k:=⟨_,rfl⟩
    rw[bx]at c2 fz
    have jI:(j:Int)<n2:=by omega
    have h0:(0:Int)≤j:=by omega
    obtain⟨wb,dp⟩:∃wb,wr.alloc (.cells #[.int .i64 r.1,.int .i64 r.2.1,.slice a.1 ml a.2] 61)=wb:=⟨_,rfl⟩
    have cx:Rw.At wb wr.heap.size 61 [.int .i64 r.1,.int .i64 r.2.1,.slice a.1 ml a.2]:=by rw[←dp];exact Rw.At.new wr 61 [.int .i64 r.1,.int .i64 r.2.1,.slice a.1 ml a.2]
    have dw:Below wr.heap.size wr wb:=by rw[←dp];exact (Zd _ _).alloc (Zb _) _
    have gx:=Za dp
    have bj:=Za cx
    have dr:=Za dw
    have cb:=Za (own_below ak dw (Zb _))
    have dz:=Za ((fh.below bb (Zb _)).below (dw.mono bb.size) (Zb _))
    have cm:=Za bx
    subst gl
    clear fk fm ft fh bb ak hxb aj hr ec bx dp cx dw cp
    go_upto_region 8 with (fail)
    rw[gx.out]
    refine Stg.wp_region (Stg.Keep (· = wr.heap.size)) (Stg.Keep.rel _) (by kernel_rfl) (by kernel_rfl) (by kernel_rfl) ?_
    have e0:=Stg.Keep.cells (s:=(· = wr.heap.size)) (w:=wb.drew) (bj.out.cell 0 rfl) rfl
    have e2:=Stg.Keep.cells (s:=(· = wr.heap.size)) (w:=wb.drew) (bj.out.cell 2 rfl) rfl
    iterate 3 (refine Stg.read 0 (by kernel_rfl) (by kernel_rfl) (by kernel_rfl) wb.drew rfl (by kernel_rfl) ?_;intro K hK;go_big_quiet_op;go_big_quiet_on)
    refine Stg.stepW wb.drew (by kernel_rfl) (by kernel_rfl) rfl (by kernel_rfl) ?_;intro K hK;go_simp
    obtain⟨wd,ay⟩:∃wd,(wb.alloc (.cells #[.int .i64 r.1] 3)).drew=wd:=⟨_,rfl⟩
    have hbd:Below wb.heap.size wb wd:=by rw[←ay];exact ((Zd _ _).alloc (Zb _) _).drew
    have cy:wd.cell? ⟨wb.heap.size,0,none⟩=some (.int .i64 r.1):=by rw[←ay];exact (Rw.At.new wb 3 [.int .i64 r.1]).cell 0 rfl
    have ao:=own_below cb.out hbd (Zb _)
    have bi:=Zh ai.out.size (Zh dr.out.size hbd.size)
    have a1:=bj.out.below hbd
    refine hK _ _ (by rintro q rfl;rw[ay];exact a1.trans bj.out.symm) ?_
    rw[ay]
    intro A' av
    subst av
    refine Stg.stepW wd (by kernel_rfl) (by kernel_rfl) rfl (by kernel_rfl) ?_
    intro K hK
    refine wp_push1 _ _ _ _ rfl w3.heap.size 3 i0 _ 8 Tryz.underlying23 cn ct cv b9 rfl _ xs.length _ rfl ao (.int .i64 r.1) rfl wb.heap.size rfl cy (by simp only[maxLen];omega) (by omega) bi ?_
    intro v9 w9 aq br dv
    have aa:=a1.grown dv (fun e=>Rw.own_not ao (by decide) _ e _ _ a1)
    have fo:=(dr.out.mono ai.out.size).trans ((hbd.mono (Zh ai.out.size dr.out.size)).trans br)
    have cd:=dz.out.below ((hbd.mono (Zh ai.out.size dr.out.size)).trans br) (Zb _)
    refine hK _ _ (by rintro q rfl;exact aa.trans a1.symm) ?_
    intro A' av
    simp only[Act.put,Zs,ZF,ZD]at av
    subst av
    iterate 2 (refine Stg.read 2 (by kernel_rfl) (by kernel_rfl) (by kernel_rfl) wb.drew rfl (by kernel_rfl) ?_;intro K hK;go_big_quiet_op;go_big_quiet_on)
    refine Stg.stepW w9 (by kernel_rfl) (by kernel_rfl) rfl (by kernel_rfl) ?_
    intro K hK
    refine wp_appendSl _ _ _ _ rfl w3.heap.size 3 i0 _ 1 8 Tryz.underlying23 cn ct cv b9 rfl (by decide) v9 (xs.length+1) _ rfl aq w3.heap.size a.1 ml _ (r.2.2.map (Value.int .i64)) rfl (by rw[Zg,cm.out];omega) cd (by intro u hu;obtain⟨y,_,rfl⟩:=List.mem_map.1 hu;rfl) (by simp only[maxLen];omega) (by omega) (Zh bi br.size) ?_
    intro v10 e9 aw dk cg
    have bo:=aa.grown cg (fun e=>Rw.own_not aq (by decide) _ e _ _ aa)
    refine hK _ _ (by rintro q rfl;exact bo.trans aa.symm) ?_
    intro A' av
    simp only[Act.put,Zs,ZF,ZD]at av
    subst av
    refine Stg.readW (by kernel_rfl) (by kernel_rfl) (by kernel_rfl) ?_;intro K hK;go_big_quiet_op;go_big_quiet_on
    refine Stg.nil e9 rfl ?_
    have e4:(xs++[r.1]++r.2.2).length=xs.length+1+ml:=by simp[cm.out];omega
    have ax:e9.ownsRow w3.heap.size 3 1 v10 (xs++[r.1]++r.2.2).length ((xs++[r.1]++r.2.2).map (Value.int .i64)):=by
     rw[e4]
     simpa using aw
    have e1:=Za ax
    have ea:=Za (ai.out.trans (fo.trans dk))
    have hk:=Za e4
    clear ax aw aq ao bo aa a1 cg dv dk br cd fo hbd cy ay e4
    go_wp2_with fail
    exact⟨⟨j+1,_,xs++[r.1]++r.2.2,by omega,by go_num,rfl,e1.out,fun x hx=>by
     rcases List.mem_append.1 hx with hx|hx
     · rcases List.mem_append.1 hx with hx|hx
       · exact ef.out x hx
       · rw[ZA]at hx;subst hx;exact fu.1
     · exact fu.2 x hx,by rw[hk.out];omega,ea.out⟩,by simp[intOf];omega⟩
  · obtain rfl:n2=j:=by omega
    have jI:¬(n2:Int)<n2:=by omega
    obtain⟨A9,c9,rfl⟩:=own_form ak
    obtain⟨w5,rfl⟩:∃w5:World,w5=wr:=⟨_,rfl⟩
    obtain⟨xn,hxn⟩:∃k,xs.length=k:=⟨_,rfl⟩
    rw[hxn]at ak er ⊢
    have b5:=Za hxn
    have gh:=Za (Sl.of_own ak)
    have dy:=Za (dh.out.trans (bb.mono dh.out.size))
    have af:=Za bb
    have cf:=er.2
    have hl:xn≤1000:=by omega
    clear ak hxb aj bb hxn er ae hj jI
    go_upto_region 10 with (fail)
    go_upto_region 12 with (fail)
    go_loopw [13,14] (fun gu i wr=>∃(k:Nat) (sl:Value) (l:List Int),k≤pn∧k≤ar∧i=.int .i64 k∧gu=sl∧wr.ownsRow w5.heap.size 3 1 sl k (l.map (Value.int .i64))∧l.length=k∧(∀x∈l,C.isC x=true)∧Below w5.heap.size w5 wr) (fun _ i _=>ar-(intOf i).toNat)
    case atStart=>exact⟨0,_,[],ZE _,ZE _,rfl,rfl,ZC _ _ _ _,rfl,fun x hx=>absurd hx YS,Zd _ _⟩
    case round =>
     obtain⟨k,sl,l,hkp,fg,rfl,rfl,ak,bz,fj,aj⟩:=hrel
     have ae:=Za ak
     have cj:=Za fj
     have b7:=Za bz
     have ai:=Za aj
     have cq:=aj.size
     have b3:=dy.out.trans (aj.mono dy.out.size)
     have bc:=et.out.below b3
     have x2:=bc.cell 2 rfl
     have x3:=bc.cell 3 rfl
     have xl:=bc.lt
     have c6:=Za (gh.out.below aj aj.size)
     have ep:=Za (gj.out.below b3 b3.size)
     have gg:=Za (fe.out.below b3 b3.size)
     clear ak fj bz aj bc
     by_cases hp:k<pn
     · by_cases hm:k<ar
       · have kP:(k:Int)<pn:=by omega
         have kM:(k:Int)<ar:=by omega
         have k0:(0:Int)≤k:=by omega
         obtain⟨q,hq⟩:∃q,P[k]?=some q:=⟨_,Zc (by rw[ee.out];exact hp)⟩
         obtain⟨h4,po,rfl,gy,fq⟩:=ep.out (by rw[Zg,ee.out];omega)
         have gb:=fq k (by rw[Zg,ee.out];exact hp)
         rw[Zu,hq,Zt]at gb
         clear fq hq
         by_cases hq0:q<0
         · by_cases hm0:0<mn
           · have mI:(0:Int)<mn:=by omega
             have mN:((mn:Int) == 0)=false:=by simp;omega
             have m0:(mn:Int)≠0:=by omega
             obtain⟨jj,bn,a7⟩:=Tx.pick_neg q hq0 hm0 hmb
             obtain⟨y,hy⟩:∃y,M[jj]?=some y:=⟨_,Zc (by rw[e7.out];exact bn)⟩
             obtain⟨e5,mo,rfl,bl,bs⟩:=fe.out (by rw[Zg,e7.out];omega)
             have b2:=bs jj (by rw[Zg,e7.out];exact bn)
             rw[Zu,hy,Zt,←(bcell b3).1 _ _ bl]at b2
             have e6:e5<w5.heap.size:=Zf bl dy.out.size
             have en:w.heap.size<w5.heap.size:=Zf et.out.lt dy.out.size
             have jI:(jj:Int)<mn:=by omega
             have j0:(0:Int)≤jj:=by omega
             have bt:=Ch.K_is y
             have gf:=Ch.K_bd y
             have fw:Hid (∀W,Calls Tryz.prog 19 #[.int .i64 y] W fun e w'=>e=.returned (.int .i32 (Ch.K y))∧W=w'):=Za fun W=>Ch.char_any y W
             obtain⟨ky,ej⟩:∃ky,Ch.K y=ky:=⟨_,rfl⟩
             rw[ej]at bt gf
             simp only[ej]at fw
             have ek:IntKind.i64.wrap ky=ky:=by rw[Z0];omega
             clear bs hy ej
             go_upto_region 16 with (fail)
             refine Stg.wp_region (Stg.Keep (· < w5.heap.size)) (Stg.Keep.rel _) (by kernel_rfl) (by kernel_rfl) (by kernel_rfl) ?_
             have e3:=Stg.Keep.cells (s:=(· < w5.heap.size)) (w:=wr.drew) x3 en
             have em:=Stg.Keep.cells (s:=(· < w5.heap.size)) (w:=wr.drew) b2 e6
             iterate 2 (refine Stg.readW (by kernel_rfl) (by kernel_rfl) (by kernel_rfl) ?_;intro K hK;go_big_quiet_op;go_big_quiet_on)
             refine Stg.read 0 (by kernel_rfl) (by kernel_rfl) (by kernel_rfl) wr.drew rfl (by kernel_rfl) ?_;intro K hK;go_big_quiet_op;go_big_quiet_on
             iterate 2 (refine Stg.readW (by kernel_rfl) (by kernel_rfl) (by kernel_rfl) ?_;intro K hK;go_big_quiet_op;go_big_quiet_on)
             refine Stg.read 0 (by kernel_rfl) (by kernel_rfl) (by kernel_rfl) wr.drew rfl (by kernel_rfl) ?_;intro K hK;go_big_quiet_op;go_big_quiet_on
             iterate 3 (refine Stg.readW (by kernel_rfl) (by kernel_rfl) (by kernel_rfl) ?_;intro K hK;go_big_quiet_op;go_big_quiet_on)
             refine Stg.read 0 (by kernel_rfl) (by kernel_rfl) (by kernel_rfl) wr.drew rfl (by kernel_rfl) ?_;intro K hK;go_big_quiet_op;go_big_quiet_on
             iterate 3 (refine Stg.readW (by kernel_rfl) (by kernel_rfl) (by kernel_rfl) ?_;intro K hK;go_big_quiet_op;go_big_quiet_on)
             refine Stg.read 0 (by kernel_rfl) (by kernel_rfl) (by kernel_rfl) wr.drew rfl (by kernel_rfl) ?_;intro K hK;go_big_quiet_op;go_big_quiet_on
             iterate 3 (refine Stg.readW (by kernel_rfl) (by kernel_rfl) (by kernel_rfl) ?_;intro K hK;go_big_quiet_op;go_big_quiet_on)
             refine Stg.read 0 (by kernel_rfl) (by kernel_rfl) (by kernel_rfl) wr.drew rfl (by kernel_rfl) ?_;intro K hK;go_big_quiet_op;go_big_quiet_on
             refine Stg.call 19 _ _ rfl (C.enter Tryz.func19 (by kernel_rfl) rfl) [.int .i64 y] rfl wr.drew _ (fw.out _) (by kernel_rfl) rfl (by kernel_rfl) ?_
             rintro e w' ⟨rfl,rfl⟩;refine⟨_,rfl,fun b hb=>rfl,?_⟩;intro A' av;simp only[Act.put,Zs,ZF,ZD]at av;subst av
             refine Stg.readW (by kernel_rfl) (by kernel_rfl) (by kernel_rfl) ?_;intro K hK;go_big_quiet_op;go_big_quiet_on
             refine Stg.stepW wr.drew (by kernel_rfl) (by kernel_rfl) rfl (by kernel_rfl) ?_;intro K hK;go_simp
             obtain⟨wd,ay⟩:∃wd,(wr.alloc (.cells #[.int .i64 ky] 3)).drew=wd:=⟨_,rfl⟩
             have hbd:Below wr.heap.size wr wd:=by rw[←ay];exact ((Zd _ _).alloc (Zb _) _).drew
             have cy:wd.cell? ⟨wr.heap.size,0,none⟩=some (.int .i64 ky):=by rw[←ay];exact (Rw.At.new wr 3 [.int .i64 ky]).cell 0 rfl
             have ao:=own_below ae.out hbd (Zb _)
             have bi:=Zh cq hbd.size
             refine hK _ _ (by rw[ay];exact fun b hb=>Stg.Keep.of_below (s:=(· < w5.heap.size)) (hbd.mono cq) (fun b hb=>hb) b hb) ?_
             rw[ay]
             intro A' av
             subst av
             refine Stg.stepW wd (by kernel_rfl) (by kernel_rfl) rfl (by kernel_rfl) ?_
             intro K hK
             refine wp_push1 _ _ _ _ rfl w5.heap.size 3 i0 _ 8 Tryz.underlying23 cn ct cv b9 rfl _ k _ rfl ao (.int .i64 ky) rfl wr.heap.size rfl cy (by simp only[maxLen];omega) (by omega) bi ?_
             intro v9 w9 aq br dv
             refine hK _ _ (Stg.Keep.of_below br fun b hb=>hb) ?_
             intro A' av;simp only[Act.put,Zs,ZF,ZD]at av;subst av
             refine Stg.readW (by kernel_rfl) (by kernel_rfl) (by kernel_rfl) ?_;intro K hK;go_big_quiet_op;go_big_quiet_on
             refine Stg.nil w9 rfl ?_
             have bf:=Za aq
             have bm:=Za (ai.out.trans ((hbd.mono cq).trans br))
             have eu:=Za bt
             clear aq br dv ao cy hbd ay bt
             go_wp2_with fail
             refine⟨⟨k+1,_,l++[ky],by omega,by omega,by go_num,rfl,?_,by rw[Ze,b7.out];rfl,?_,bm.out⟩,by simp[intOf];omega⟩
             · rw[ZM];exact bf.out
             · intro x hx
               rcases List.mem_append.1 hx with hx|hx
               · exact cj.out x hx
               · rw[ZA]at hx;subst hx;exact eu.out
           · have hh:mn=0:=by omega
             subst hh
             obtain⟨jj,bn,a7⟩:=Tx.pick q cf (show xn≤1000000 by omega)
             obtain⟨y,hy⟩:∃y,xs[jj]?=some y:=⟨_,Zc (by rw[b5.out];exact bn)⟩
             obtain⟨e5,mo,rfl,bl,bs⟩:=c6.out (by rw[Zg,b5.out];omega)
             have b2:=bs jj (by rw[Zg,b5.out];exact bn)
             rw[Zu,hy,Zt]at b2
             have jI:(jj:Int)<xn:=by omega
             have j0:(0:Int)≤jj:=by omega
             have mI:(0:Int)<xn:=by omega
             have m0:(xn:Int)≠0:=by omega
             have bt:=Za (ef.out y (Zk hy))
             clear bs hy
             go_wp2_with (at_builtin;refine wpList_push1 _ rfl _ _ _ rfl w5.heap.size 3 i0 _ 8 Tryz.underlying23 cn ct cv b9 rfl _ k _ rfl ae.out _ rfl rfl (by simp only[maxLen];omega) (by omega) cq ?_;intro v1 w4 ag bh;have bf:=Za ag;have bm:=Za (ai.out.trans bh);clear ag bh)
             refine⟨⟨k+1,_,l++[y],by omega,by omega,by go_num,rfl,?_,by rw[Ze,b7.out];rfl,?_,bm.out⟩,by simp[intOf];omega⟩
             · rw[ZM];exact bf.out
             · intro x hx
               rcases List.mem_append.1 hx with hx|hx
               · exact cj.out x hx
               · rw[ZA]at hx;subst hx;exact bt.out
         · obtain⟨jj,bn,a7⟩:=Tx.pick q cf (show xn≤1000000 by omega)
           rw[Int.tmod_eq_emod_of_nonneg (show 0≤q by omega)]at a7
           obtain⟨y,hy⟩:∃y,xs[jj]?=some y:=⟨_,Zc (by rw[b5.out];exact bn)⟩
           obtain⟨e5,mo,rfl,bl,bs⟩:=c6.out (by rw[Zg,b5.out];omega)
           have b2:=bs jj (by rw[Zg,b5.out];exact bn)
           rw[Zu,hy,Zt]at b2
           have jI:(jj:Int)<xn:=by omega
           have j0:(0:Int)≤jj:=by omega
           have mI:(0:Int)<xn:=by omega
           have m0:(xn:Int)≠0:=by omega
           have bt:=Za (ef.out y (Zk hy))
           clear bs hy
           go_wp2_with (at_builtin;refine wpList_push1 _ rfl _ _ _ rfl w5.heap.size 3 i0 _ 8 Tryz.underlying23 cn ct cv b9 rfl _ k _ rfl ae.out _ rfl rfl (by simp only[maxLen];omega) (by omega) cq ?_;intro v1 w4 ag bh;have bf:=Za ag;have bm:=Za (ai.out.trans bh);clear ag bh)
           refine⟨⟨k+1,_,l++[y],by omega,by omega,by go_num,rfl,?_,by rw[Ze,b7.out];rfl,?_,bm.out⟩,by simp[intOf];omega⟩
           · rw[ZM];exact bf.out
           · intro x hx
             rcases List.mem_append.1 hx with hx|hx
             · exact cj.out x hx
             · rw[ZA]at hx;subst hx;exact bt.out
       · have kP:(k:Int)<pn:=by omega
         have kM:¬(k:Int)<ar:=by omega
         obtain⟨a6,az,rfl⟩:=own_form ae.out
         have ah:=af.out.trans (ai.out.mono af.out.size)
         have aa:=bw.out.below ah
         have h5:=ap.out.below ah
         have y0:=aa.cell 0 rfl
         have y1:=aa.cell 1 rfl
         have yl:=aa.lt
         have k2:=h5.cell 0 rfl
         have k3:=h5.cell 1 rfl
         have k4:=h5.frozen 0
         have k5:=h5.frozen 1
         have kl:=h5.lt
         have eo:=Za (bg.out.below ah)
         have ey:=Za (dt.out.below ah)
         have H5:=Za h5
         have bm:=Za (b6.out.trans (ah.mono b6.out.size))
         have bf:=Za (own_mono ae.out (Zh b6.out.size af.out.size))
         have hne:(Value.slice a6 k az).ownBlock=none∨(Value.slice a6 k az).ownBlock≠some (w.heap.size+1):=by
          cases hg:(Value.slice a6 k az).ownBlock with
          | none=>exact .inl rfl
          | some g =>
            refine .inr fun e=>?_
            obtain rfl:=ZU e
            have h1:=(own_at ae.out hg).1
            have h2:=af.out.size
            have h3:=ap.out.lt
            omega
         have ew:=Za hne
         have eb:=Za (fun g (hg:(Value.slice a6 k az).ownBlock=some g)=>(own_at ae.out hg).1)
         clear ah aa h5 ae hne
         go_upto_region 18 with (fail)
         go_region
         go_wp2_with fail
         have h1:=H5.out.set 0 (.slice A2 n2 c2)
         have h2:=h1.set 1 (.slice XA2 xn2 xc2)
         have df:=(eo.out.setAt H5.out 0 (.slice A2 n2 c2)).setAt h1 1 (.slice XA2 xn2 xc2)
         have cc:=(ey.out.setAt H5.out 0 (.slice A2 n2 c2)).setAt h1 1 (.slice XA2 xn2 xc2)
         have cw:Below w.heap.size w ((wr.setCell ⟨w.heap.size+1,0,none⟩ (.slice A2 n2 c2)).setCell ⟨w.heap.size+1,1,none⟩ (.slice XA2 xn2 xc2)) :=
          (bm.out.setCell (p:=⟨w.heap.size+1,0,none⟩) (ZZ _) _).setCell (p:=⟨w.heap.size+1,1,none⟩) (ZZ _) _
         have e8:wr.grownBy ((wr.setCell ⟨w.heap.size+1,0,none⟩ (.slice A2 n2 c2)).setCell ⟨w.heap.size+1,1,none⟩ (.slice XA2 xn2 xc2)) (some (w.heap.size+1)):=Rw.grown_trans (Rw.grown_set _ _ _) (Rw.grown_set _ _ _)
         have au:=World.ownsRow.kept bf.out e8 ew.out
         obtain⟨w6,c8⟩:∃w6,(wr.setCell ⟨w.heap.size+1,0,none⟩ (.slice A2 n2 c2)).setCell ⟨w.heap.size+1,1,none⟩ (.slice XA2 xn2 xc2)=w6:=⟨_,rfl⟩
         rw[c8]at h2 df cc cw au ⊢
         have bu:=ap.out.below af.out
         have ck:=bu.set 0 (.slice A2 n2 c2)
         have i5:=((bg.out.below af.out).setAt bu 0 (.slice A2 n2 c2)).setAt ck 1 (.slice XA2 xn2 xc2)
         have d5:=((dt.out.below af.out).setAt bu 0 (.slice A2 n2 c2)).setAt ck 1 (.slice XA2 xn2 xc2)
         have bk:=Tx.both (Tx.both ai.out ⟨w.heap.size+1,0,none⟩ (.slice A2 n2 c2)) ⟨w.heap.size+1,1,none⟩ (.slice XA2 xn2 xc2)
         rw[c8]at bk
         obtain⟨w7,dn⟩:∃w7,(w5.setCell ⟨w.heap.size+1,0,none⟩ (.slice A2 n2 c2)).setCell ⟨w.heap.size+1,1,none⟩ (.slice XA2 xn2 xc2)=w7:=⟨_,rfl⟩
         have cz:w7.heap.size=w5.heap.size:=by rw[←dn,ZN,ZN]
         rw[dn]at i5 d5 bk
         refine Yl (Tx.results4 rfl _ _ (w.heap.size+1) _ _ _ _ rfl (show w6.drew.heap[w.heap.size+1]?=_ from h2) Tryz.underlying25 rfl (by kernel_rfl)) rfl ?_
         have bz:=b7.out
         subst bz
         exact⟨_,.agg #[.slice A2 n2 c2,.slice XA2 xn2 xc2],T,E,S,l,a6,az,rfl,df.below (Zd _ _).drew,cc.below (Zd _ _).drew,HR.out,own_below au (Zd _ _).drew (Zb _),cj.out,fg,(fun w'' hg=>by
          have di:Below w7.heap.size w7 w'':=by
           rw[cz]
           exact bk.trans ((Zd _ _).drew.trans (Rw.below_grown hg (by have:=bk.size;rw[cz]at this;exact this) fun q hq=>eb.out q hq))
          exact⟨i5.below di,d5.below di⟩),cw.drew⟩
     · have kP:¬(k:Int)<pn:=by omega
       obtain⟨a6,az,rfl⟩:=own_form ae.out
       have ah:=af.out.trans (ai.out.mono af.out.size)
       have aa:=bw.out.below ah
       have h5:=ap.out.below ah
       have y0:=aa.cell 0 rfl
       have y1:=aa.cell 1 rfl
       have yl:=aa.lt
       have k2:=h5.cell 0 rfl
       have k3:=h5.cell 1 rfl
       have k4:=h5.frozen 0
       have k5:=h5.frozen 1
       have kl:=h5.lt
       have eo:=Za (bg.out.below ah)
       have ey:=Za (dt.out.below ah)
       have H5:=Za h5
       have bm:=Za (b6.out.trans (ah.mono b6.out.size))
       have bf:=Za (own_mono ae.out (Zh b6.out.size af.out.size))
       have hne:(Value.slice a6 k az).ownBlock=none∨(Value.slice a6 k az).ownBlock≠some (w.heap.size+1):=by
        cases hg:(Value.slice a6 k az).ownBlock with
        | none=>exact .inl rfl
        | some g =>
          refine .inr fun e=>?_
          obtain rfl:=ZU e
          have h1:=(own_at ae.out hg).1
          have h2:=af.out.size
          have h3:=ap.out.lt
          omega
       have ew:=Za hne
       have eb:=Za (fun g (hg:(Value.slice a6 k az).ownBlock=some g)=>(own_at ae.out hg).1)
       clear ah aa h5 ae hne
       go_upto_region 18 with (fail)
       go_region
       go_wp2_with fail
       have h1:=H5.out.set 0 (.slice A2 n2 c2)
       have h2:=h1.set 1 (.slice XA2 xn2 xc2)
       have df:=(eo.out.setAt H5.out 0 (.slice A2 n2 c2)).setAt h1 1 (.slice XA2 xn2 xc2)
       have cc:=(ey.out.setAt H5.out 0 (.slice A2 n2 c2)).setAt h1 1 (.slice XA2 xn2 xc2)
       have cw:Below w.heap.size w ((wr.setCell ⟨w.heap.size+1,0,none⟩ (.slice A2 n2 c2)).setCell ⟨w.heap.size+1,1,none⟩ (.slice XA2 xn2 xc2)) :=
        (bm.out.setCell (p:=⟨w.heap.size+1,0,none⟩) (ZZ _) _).setCell (p:=⟨w.heap.size+1,1,none⟩) (ZZ _) _
       have e8:wr.grownBy ((wr.setCell ⟨w.heap.size+1,0,none⟩ (.slice A2 n2 c2)).setCell ⟨w.heap.size+1,1,none⟩ (.slice XA2 xn2 xc2)) (some (w.heap.size+1)):=Rw.grown_trans (Rw.grown_set _ _ _) (Rw.grown_set _ _ _)
       have au:=World.ownsRow.kept bf.out e8 ew.out
       obtain⟨w6,c8⟩:∃w6,(wr.setCell ⟨w.heap.size+1,0,none⟩ (.slice A2 n2 c2)).setCell ⟨w.heap.size+1,1,none⟩ (.slice XA2 xn2 xc2)=w6:=⟨_,rfl⟩
       rw[c8]at h2 df cc cw au ⊢
       have bu:=ap.out.below af.out
       have ck:=bu.set 0 (.slice A2 n2 c2)
       have i5:=((bg.out.below af.out).setAt bu 0 (.slice A2 n2 c2)).setAt ck 1 (.slice XA2 xn2 xc2)
       have d5:=((dt.out.below af.out).setAt bu 0 (.slice A2 n2 c2)).setAt ck 1 (.slice XA2 xn2 xc2)
       have bk:=Tx.both (Tx.both ai.out ⟨w.heap.size+1,0,none⟩ (.slice A2 n2 c2)) ⟨w.heap.size+1,1,none⟩ (.slice XA2 xn2 xc2)
       rw[c8]at bk
       obtain⟨w7,dn⟩:∃w7,(w5.setCell ⟨w.heap.size+1,0,none⟩ (.slice A2 n2 c2)).setCell ⟨w.heap.size+1,1,none⟩ (.slice XA2 xn2 xc2)=w7:=⟨_,rfl⟩
       have cz:w7.heap.size=w5.heap.size:=by rw[←dn,ZN,ZN]
       rw[dn]at i5 d5 bk
       refine Yl (Tx.results4 rfl _ _ (w.heap.size+1) _ _ _ _ rfl (show w6.drew.heap[w.heap.size+1]?=_ from h2) Tryz.underlying25 rfl (by kernel_rfl)) rfl ?_
       have bz:=b7.out
       subst bz
       exact⟨_,.agg #[.slice A2 n2 c2,.slice XA2 xn2 xc2],T,E,S,l,a6,az,rfl,df.below (Zd _ _).drew,cc.below (Zd _ _).drew,HR.out,own_below au (Zd _ _).drew (Zb _),cj.out,fg,(fun w'' hg=>by
        have di:Below w7.heap.size w7 w'':=by
         rw[cz]
         exact bk.trans ((Zd _ _).drew.trans (Rw.below_grown hg (by have:=bk.size;rw[cz]at this;exact this) fun q hq=>eb.out q hq))
        exact⟨i5.below di,d5.below di⟩),cw.drew⟩
structure Tx.In (A XA PA MA:Option Addr) (n c xn xc pn pc mn mc:Nat) (T0:List Rw.Row) (E0 P M:List Int) (w:World):Prop where
 hn:T0.length=n
 hxn:E0.length=xn
 hpn:P.length=pn
 hmn:M.length=mn
 hnb:n≤maxLen
 hxb:xn≤maxLen
 hpb:pn≤maxLen
 hmb:mn≤maxLen
 hbd:∀r∈T0,Rw.bounds r
 ht:Rw.SeesI w A T0
 hx:Sl w w.heap.size XA (E0.map (Value.int .i64))
 hp:Sl w w.heap.size PA (P.map (Value.int .i64))
 hm:Sl w w.heap.size MA (M.map (Value.int .i64))
theorem Tx.In.below {A XA PA MA:Option Addr} {n c xn xc pn pc mn mc:Nat} {T0:List Rw.Row} {E0 P M:List Int} {w w':World} (h:Tx.In A XA PA MA n c xn xc pn pc mn mc T0 E0 P M w) (hb:Below w.heap.size w w'):Tx.In A XA PA MA n c xn xc pn pc mn mc T0 E0 P M w' :=
 ⟨h.hn,h.hxn,h.hpn,h.hmn,h.hnb,h.hxb,h.hpb,h.hmb,h.hbd,h.ht.below hb,h.hx.below hb hb.size,h.hp.below hb hb.size,h.hm.below hb hb.size⟩
theorem Tx.made_in (A XA PA MA:Option Addr) (n c xn xc pn pc mn mc:Nat) (T0:List Rw.Row) (E0 P M:List Int) (aa:Nat) (w:World) (ae:aa≤1000) (h:Tx.In A XA PA MA n c xn xc pn pc mn mc T0 E0 P M w) (hL:Rw.Laid w) :
 Calls Tryz.prog 9 #[.agg #[.slice A n c,.slice XA xn xc,.slice PA pn pc,.slice MA mn mc],.int .i64 aa] w (Tx.RetMade aa w) :=
 Tx.made_any A XA PA MA n c xn xc pn pc mn mc T0 E0 P M aa w h.hn h.hxn h.hpn h.hmn h.hnb h.hxb h.hpb h.hmb ae h.hbd h.ht h.hx h.hp h.hm hL
theorem Tx.isC_i32 {c:Int} (h:C.isC c=true) : -2147483648≤c∧c≤2147483647:=by have:=Ud.isC_bd h;omega
theorem Sl.takeN {w:World} {B:Nat} {A:Option Addr} {xs:List Value} (h:Sl w B A xs) (k:Nat):Sl w B A (xs.take k):=fun h0=>by
 rw[Zq]at h0
 obtain⟨b,o,hA,hb,hc⟩:=h (by omega)
 refine⟨b,o,hA,hb,fun i hi=>?_⟩
 rw[Zq]at hi
 rw[hc i (by omega),List.getElem?_take_of_lt (by omega)]
theorem Sl.dropN {w:World} {B:Nat} {b o:Nat} {xs:List Value} (h:Sl w B (some ⟨b,o,none⟩) xs) (k:Nat):Sl w B (some ⟨b,o+k,none⟩) (xs.drop k):=fun h0=>by
 rw[ZK]at h0
 obtain⟨b',o',hA,hb,hc⟩:=h (by omega)
 cases hA
 refine⟨b,o+k,rfl,hb,fun i hi=>?_⟩
 rw[ZK]at hi
 rw[Yi,hc (k+i) (by omega),Xf]
end Go.Proofs.YtikiplbhlohmdaaGreatDoor
