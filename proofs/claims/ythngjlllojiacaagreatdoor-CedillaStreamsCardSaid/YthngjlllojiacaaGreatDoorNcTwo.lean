/- cedillalaw16's Made: a table, loaded, and characters: by walking the text. -/
import Derived.Test.YthngjlllojiacaaGreatDoorUdLoaded
set_option maxRecDepth 100000
set_option maxHeartbeats 4000000
set_option linter.unusedVariables false
set_option linter.unusedSimpArgs false
namespace Go.Proofs.YthngjlllojiacaaGreatDoor
open Go.Proofs.Tryz
open Go.RowKit
theorem zFm (k:Int) {L:Int} (h:0<L) : -L<k.tmod L∧k.tmod L<L:=by
 rw[J2];have h1:=Int.emod_nonneg k (show L≠0 by omega);have h2:=JL k h;split
 · omega
 have h3:(L.natAbs:Int)=L:=by omega
 omega
theorem Tx.pick (k:Int) {L:Nat} (h0:0<L) (h:L≤1000000):∃j:Nat,j<L∧(wrap64 (k.tmod L+L)).tmod L=(j:Int):=by
 obtain⟨a1,a2⟩:=zFm k (show (0:Int)<L by omega);have e1:wrap64 (k.tmod L+L)=k.tmod L+L:=by unfold wrap64;omega
 rw[e1];have a3:0≤(k.tmod L+L).tmod L:=Kb _ (by omega);obtain⟨_,a4⟩:=zFm (k.tmod L+L) (show (0:Int)<L by omega);exact⟨((k.tmod L+L).tmod L).toNat,by omega,by omega⟩
theorem zJ2 {P:Program} {fn:Func} {p u u2 u3:Tmp} {ty:TypeId} (h:fn.results = #[.tmp u,.cell p ty,.tmp u2,.tmp u3]) (tmps:Array Value) (w:World) (g:Nat) (t:TypeId) (cs:Array Value) (fr:Nat × Nat) (d:TypeDesc)
 (hp:tmps.getD p undef=.pointer (some ⟨g,0,none⟩)) (hg:w.heap[g]?=some (.cells cs t fr))
 (hu:P.underlying ty=some d) (hd:(match d with | .struct _ | .array _ _=>true|_=>false)=true) (hi:(P.info? ty).map (·.size)=some cs.size) :
 (results fn tmps).run P w=.ok (.tuple #[tmps.getD u undef,.agg cs,tmps.getD u2 undef,tmps.getD u3 undef]) w:=by
 have aa:tmps[p]?.getD undef=.pointer (some ⟨g,0,none⟩):=by simpa using hp
 simp[results,h,aa,asAddr,X3 w g t ty cs fr d hg hu hd hi]
theorem zNN (k:Int) {L:Nat} (hk:k<0) (h0:0<L) (h:L≤maxLen):∃j:Nat,j<L∧(wrap64 (k.tmod L+L)).tmod L=(j:Int):=by
 simp only[maxLen]at h;obtain⟨a1,a2⟩:=zFm k (show (0:Int)<L by omega)
 have a5:k.tmod L≤0:=by
  rw[J2];have h2:=JL k (show (0:Int)<L by omega);split
  · rename_i hh;rcases hh with hh|hh
    · omega
    rw[Int.emod_eq_zero_of_dvd hh];exact YC _
  have h3:((L:Int).natAbs:Int)=L:=by omega
  omega
 have e1:wrap64 (k.tmod L+L)=k.tmod L+L:=by unfold wrap64;omega
 rw[e1];have a3:0≤(k.tmod L+L).tmod L:=Kb _ (by omega);obtain⟨_,a4⟩:=zFm (k.tmod L+L) (show (0:Int)<L by omega);exact⟨((k.tmod L+L).tmod L).toNat,by omega,by omega⟩
theorem zL4 {B:Nat} {w w':World} (h:Below B w w') (a:Addr) (u:Value):Below B (w.setCell a u) (w'.setCell a u) :=
 ⟨h.os,h.tape,h.output,by simp[World.setCell];exact h.size,fun k hk=>by simp only[World.setCell,YY,h.block k hk]⟩
def zK3 (aa:Nat) (w:World) (e:Ending) (w':World):Prop :=
 ∃(p v:Value) (T:List Rw.Row) (E S l:List Int) (A:Option Addr) (c:Nat),e=.returned (.tuple #[p,v,.slice A l.length c,.bool true])∧Ud.Is w' p T S∧Md.Doc w' v T E∧Ud.Right T E S∧w'.ownsRow w.heap.size 3 1 (.slice A l.length c) l.length (l.map (Value.int .i64))∧(∀x∈l,C.isC x=true)∧l.length≤aa∧(∀w'',w'.grownBy w'' (Value.slice A l.length c).ownBlock→Ud.Is w'' p T S∧Md.Doc w'' v T E)∧Below w.heap.size w w'
theorem zPs {T:List Rw.Row} {E S:List Int} (h:Ud.Right T E S) {r:Rw.Row} (hr:r∈T):C.isC r.1=true∧∀c∈r.2.2,C.isC c=true :=
 ⟨(h.ok.good r hr).1,fun c hc=>((h.ok.good r hr).2.2.2.2.2 c hc).1⟩
theorem zPt:∀c∈([65,97,768,4352,4449,4520,44032,44033]:List Int),C.isC c=true:=by decide
theorem zNO (A XA PA MA:Option Addr) (n c xn xc pn pc mn mc:Nat) (T0:List Rw.Row) (E0 P M:List Int) (au:Nat) (w:World) (hn:T0.length=n) (hxn:E0.length=xn) (hpn:P.length=pn) (hmn:M.length=mn) (hnb:n≤maxLen) (hxb:xn≤maxLen) (hpb:pn≤maxLen) (hmb:mn≤maxLen) (fg:au≤1000) (hbd:∀r∈T0,zDQ r)
 (h2:Rw.SeesI w A T0) (hX:Sl w w.heap.size XA (E0.map (Value.int .i64))) (hP:Sl w w.heap.size PA (P.map (Value.int .i64))) (hM:Sl w w.heap.size MA (M.map (Value.int .i64))) (hL:Rw.Laid w) :
 Calls prog 14 #[.agg #[.slice A n c,.slice XA xn xc,.slice PA pn pc,.slice MA mn mc],.int .i64 au] w (zK3 au w):=by
 obtain⟨i0,di,cv,ct,cw⟩:=Z7 zFy
 have bs:Hy (∀W,Below w.heap.size w W→Calls prog 34 #[.agg #[.slice A n c,.slice XA xn xc]] W (zHB W)):=hy' fun W hW =>
  zL3 A XA n c xn xc T0 E0 W hn hxn hnb hxb hbd (h2.below hW) (hX.below hW hW.size) (hL.next hW)
 obtain⟨wa,cy⟩:∃wa,(w.alloc (.cells #[.slice A n c,.slice XA xn xc,.slice PA pn pc,.slice MA mn mc] 40)).alloc (.cells #[.slice none 0 0,.slice none 0 0] 38)=wa:=⟨_,rfl⟩;have b1:Below w.heap.size w wa:=by rw[←cy];exact ((Zc _ _).alloc (Za _) _).alloc (by simp) _
 have c6:Rw.At wa w.heap.size 40 [.slice A n c,.slice XA xn xc,.slice PA pn pc,.slice MA mn mc]:=by
  rw[←cy];exact (Rw.At.new w 40 [.slice A n c,.slice XA xn xc,.slice PA pn pc,.slice MA mn mc]).alloc _
 have c8:Rw.At wa (w.heap.size+1) 38 [.slice none 0 0,.slice none 0 0]:=by
  have:=Rw.At.new (w.alloc (.cells #[.slice A n c,.slice XA xn xc,.slice PA pn pc,.slice MA mn mc] 40)) 38 [.slice none 0 0,.slice none 0 0];rw[ZK]at this;rw[←cy];exact this
 have fq:=hy' cy;have et:=hy' b1;have ee:=hy' c6;have dl:=hy' c8;have ez:=hy' hpn;have eb:=hy' hmn;have gm:=hy' (hP.below b1 b1.size);have fc:=hy' (hM.below b1 b1.size);have x0:=c6.cell 0 rfl;have x1:=c6.cell 1 rfl;have xl:=c6.lt;clear cy b1 c6 c8 hn hxn hnb hxb hbd h2 hX hL hP hM hpn hmn;go_enter func14,ntmps14;go_upto_region 1 with (fail)
 rw[fq.o];go_wp2_with fail;refine (bs.o wa et.o).mono ?_;rintro e w2 ⟨p,v2,T,E,S,rfl,ey,bz,hR,ba⟩;obtain⟨pb,rfl,hl⟩:=ey.form;obtain⟨A2,c2,XA2,xc2,rfl,eh⟩:=id bz;obtain⟨n2,e1⟩:∃k,T.length=k:=⟨_,rfl⟩;obtain⟨xn2,dn⟩:∃k,E.length=k:=⟨_,rfl⟩;rw[e1,dn]at bz ⊢;unfold zBd at bz ⊢;obtain⟨w3,du⟩:∃w3,w2.alloc (.cells #[.slice A2 n2 c2,.slice XA2 xn2 xc2] 38)=w3:=⟨_,rfl⟩;have bq:Below w2.heap.size w2 w3:=by rw[←du];exact (Zc _ _).alloc (Za _) _
 have aa:Rw.At w3 w2.heap.size 38 [.slice A2 n2 c2,.slice XA2 xn2 xc2]:=by rw[←du];exact Rw.At.new w2 38 [.slice A2 n2 c2,.slice XA2 xn2 xc2]
 have b7:=ee.o.below (ba.trans (bq.mono ba.size));have fy:=hy' du;have cr:Below w.heap.size w w3:=et.o.trans ((ba.trans (bq.mono ba.size)).mono et.o.size);have cc:=hy' (ba.trans (bq.mono ba.size));have b3:=hy' cr;have hh:=hy' b7;have aq:=hy' (dl.o.below (ba.trans (bq.mono ba.size)));have bx:=hy' aa;have bf:=hy' (ey.below bq);have dr:=hy' (bz.below bq)
 have ec:Hy (Rw.SeesI w3 A2 T):=by
  obtain⟨A9,c9,X9,d9,he,gi,ho⟩:=bz.below bq;simp only[zBd,XF,X8,Yb,Z2,YH]at he;obtain⟨⟨rfl,_,rfl⟩,rfl,_,rfl⟩:=he;exact hy' gi
 have HR:=hy' hR;have gy:=hy' e1;have gj:n2≤20:=by have:=hR.tl;omega
 have gf:w.heap.size+1<w2.heap.size:=Zf dl.o.lt ba.size;clear x0 x1 bz eh ba bq aa ey du cr b7 hR e1 dn bs fq;go_upto_region 2 with (fail)
 rw[fy.o]
 have ag:(w3.alloc (.cells #[.int .i64 65,.int .i64 97,.int .i64 768,.int .i64 4352,.int .i64 4449,.int .i64 4520,.int .i64 44032,.int .i64 44033] 3)).ownsRow w3.heap.size 3 1 (.slice (some ⟨w3.heap.size,0,none⟩) 8 8) 8 (([65,97,768,4352,4449,4520,44032,44033]:List Int).map (Value.int .i64)) :=
  World.ownsRow_lit w3 #[.int .i64 65,.int .i64 97,.int .i64 768,.int .i64 4352,.int .i64 4449,.int .i64 4520,.int .i64 44032,.int .i64 44033] 8 (Za _) (by decide) rfl
 obtain⟨w4,dt⟩:∃w4,w3.alloc (.cells #[.int .i64 65,.int .i64 97,.int .i64 768,.int .i64 4352,.int .i64 4449,.int .i64 4520,.int .i64 44032,.int .i64 44033] 3)=w4:=⟨_,rfl⟩;have bk:Below w3.heap.size w3 w4:=by rw[←dt];exact (Zc _ _).alloc (Za _) _
 rw[dt]at ag;have ch:=hy' ag;have gw:=hy' bk;have gv:=hy' dt;have a1:=bx.o.below bk;have y0:=a1.cell 0 rfl;have yl:=a1.lt;clear dt ag bk a1;go_upto_region 5 with (fail)
 rw[gv.o];go_wp2_with fail;clear y0 yl;go_loopw [10,29] (fun v6 i wr=>∃(j:Nat) (v:Value) (xs:List Int),j≤n2∧i=.int .i64 j∧v6=v∧wr.ownsRow w3.heap.size 3 1 v xs.length (xs.map (Value.int .i64))∧(∀x∈xs,C.isC x=true)∧(xs.length≤8+j*3∧0<xs.length)∧Below w3.heap.size w3 wr) (fun _ i _=>n2-(intOf i).toNat)
 case atStart=>exact⟨0,_,[65,97,768,4352,4449,4520,44032,44033],ZG _,rfl,rfl,ch.o,zPt,by simp,gw.o⟩
 obtain⟨j,hz,xs,hj,rfl,rfl,ak,hxb,ep,aj⟩:=hrel;have bb:Below w3.heap.size w3 wr:=aj;have ae:=hy' ak;have ea:=hy' hxb;have ai:=hy' aj
 by_cases hlt:j<n2
 · obtain⟨r,hr⟩:∃r,T[j]?=some r:=⟨_,Zb (by rw[gy.o];exact hlt)⟩;have ed:=Zk hr;have fw:=zPs HR.o ed;have gl:=(HR.o.rok r ed).2.2.1;have cf:=ec.o;obtain⟨b,o,a,fz,hb,ft,fk,fo,fe⟩:=cf.row hr;have c0:=((zAP bb).1 b (o+j*3) hb).trans ft;have c1:=((zAP bb).1 b (o+j*3+1) hb).trans fk;have c2:=((zAP bb).1 b (o+j*3+2) hb).trans fo;have h4:b<wr.heap.size:=Zf hb bb.size;obtain⟨ml,bt⟩:∃k,r.2.2.length=k:=⟨_,rfl⟩;rw[bt]at c2 gl;have jI:(j:Int)<n2:=by omega
   have h0:(0:Int)≤j:=by omega
   obtain⟨wb,dp⟩:∃wb,wr.alloc (.cells #[.int .i64 r.1,.int .i64 r.2.1,.slice a.1 ml a.2] 74)=wb:=⟨_,rfl⟩;have cx:Rw.At wb wr.heap.size 74 [.int .i64 r.1,.int .i64 r.2.1,.slice a.1 ml a.2]:=by rw[←dp];exact Rw.At.new wr 74 [.int .i64 r.1,.int .i64 r.2.1,.slice a.1 ml a.2]
   have dy:Below wr.heap.size wr wb:=by rw[←dp];exact (Zc _ _).alloc (Za _) _
   have gh:=hy' dp;have bi:=hy' cx;have dv:=hy' dy;have df:=hy' (zA4 ak dy (Za _));have e8:=hy' ((fe.below bb (Za _)).below (dy.mono bb.size) (Za _));have cj:=hy' bt;subst fz;clear ft fk fo fe bb ak hxb aj hr ed bt dp cx dy cf;go_upto_region 8 with (fail)
   rw[gh.o];refine Stg.wp_region (by kernel_rfl) (Stg.Keep (· = wr.heap.size)) (Stg.Keep.rel _) ?_;have e0:=Stg.Keep.cells (s:=(· = wr.heap.size)) (w:=wb.drew) (bi.o.cell 0 rfl) rfl;have e2:=Stg.Keep.cells (s:=(· = wr.heap.size)) (w:=wb.drew) (bi.o.cell 2 rfl) rfl;(iterate 3 (refine Stg.read 0 (by kernel_rfl) wb.drew rfl ?_;intro K hK;go_big_quiet_op;go_big_quiet_on))
   refine Stg.stepW (by kernel_rfl) wb.drew rfl ?_;intro K hK;go_simp;obtain⟨wd,ax⟩:∃wd,(wb.alloc (.cells #[.int .i64 r.1] 3)).drew=wd:=⟨_,rfl⟩;have hbd:Below wb.heap.size wb wd:=by rw[←ax];exact ((Zc _ _).alloc (Za _) _).drew
   have cu:wd.cell? ⟨wb.heap.size,0,none⟩=some (.int .i64 r.1):=by rw[←ax];exact (Rw.At.new wb 3 [.int .i64 r.1]).cell 0 rfl
   have ao:=zA4 df.o hbd (Za _);have bj:=Zh ai.o.size (Zh dv.o.size hbd.size);have a7:=bi.o.below hbd;refine hK _ _ (by rintro q rfl;rw[ax];exact a7.trans bi.o.symm) ?_;rw[ax];intro A' av;subst av;refine Stg.stepW (by kernel_rfl) wd rfl ?_;intro K hK;refine zKe _ _ _ _ rfl w3.heap.size 3 i0 _ 8 underlying36 di cv ct cw rfl _ xs.length _ rfl ao (.int .i64 r.1) rfl wb.heap.size rfl cu (by simp only[maxLen];omega) (by omega) bj ?_;intro v9 w9 ap bp dw;have aa:=a7.grown dw (fun e=>zAy ao (by decide) _ e _ _ a7);have fm:=(dv.o.mono ai.o.size).trans ((hbd.mono (Zh ai.o.size dv.o.size)).trans bp);have dh:=e8.o.below ((hbd.mono (Zh ai.o.size dv.o.size)).trans bp) (Za _);refine hK _ _ (by rintro q rfl;exact aa.trans a7.symm) ?_;intro A' av;simp only[Act.put,Zn,ZC,ZB]at av;subst av;(iterate 2 (refine Stg.read 2 (by kernel_rfl) wb.drew rfl ?_;intro K hK;go_big_quiet_op;go_big_quiet_on))
   refine Stg.stepW (by kernel_rfl) w9 rfl ?_;intro K hK;refine zFD _ _ _ _ rfl w3.heap.size 3 i0 _ 1 8 underlying36 di cv ct cw rfl (by decide) v9 (xs.length+1) _ rfl ap w3.heap.size a.1 ml _ (r.2.2.map (Value.int .i64)) rfl (by rw[Ze,cj.o];omega) dh (by intro u hu;obtain⟨y,_,rfl⟩:=List.mem_map.1 hu;rfl) (by simp only[maxLen];omega) (by omega) (Zh bj bp.size) ?_;intro v10 fh a6 dm cp;have br:=aa.grown cp (fun e=>zAy ap (by decide) _ e _ _ aa);refine hK _ _ (by rintro q rfl;exact br.trans aa.symm) ?_;intro A' av;simp only[Act.put,Zn,ZC,ZB]at av;subst av;refine Stg.readW (by kernel_rfl) ?_;intro K hK;go_big_quiet_op;go_big_quiet_on;refine Stg.nil fh rfl ?_;have e5:(xs++[r.1]++r.2.2).length=xs.length+1+ml:=by simp[cj.o];omega
   have az:fh.ownsRow w3.heap.size 3 1 v10 (xs++[r.1]++r.2.2).length ((xs++[r.1]++r.2.2).map (Value.int .i64)):=by
    rw[e5];simpa using a6
   have dz:=hy' az;have en:=hy' (ai.o.trans (fm.trans dm));have hk:=hy' e5;clear az a6 ap ao br aa a7 cp dw dm bp dh fm hbd cu ax e5;go_wp2_with fail
   exact⟨⟨j+1,_,xs++[r.1]++r.2.2,by omega,by go_num,rfl,dz.o,fun x hx=>by
    rcases List.mem_append.1 hx with hx|hx
    · rcases List.mem_append.1 hx with hx|hx
      · exact ea.o x hx
      rw[Zp]at hx;subst hx;exact fw.1
    exact fw.2 x hx,by rw[hk.o];omega,en.o⟩,by simp[intOf];omega⟩
 obtain rfl:n2=j:=by omega
 have jI:¬(n2:Int)<n2:=by omega
 obtain⟨A9,c9,rfl⟩:=zA3 ak;obtain⟨w5,rfl⟩:∃w5:World,w5=wr:=⟨_,rfl⟩;obtain⟨xn,hxn⟩:∃k,xs.length=k:=⟨_,rfl⟩;rw[hxn]at ak ep ⊢;have b5:=hy' hxn;have gg:=hy' (Sl.of_own ak);have dx:=hy' (cc.o.trans (bb.mono cc.o.size));have af:=hy' bb;have cn:=ep.2;have fx:xn≤1000:=by omega
 clear ak hxb aj bb hxn ep ae hj jI;go_upto_region 10 with (fail)
 go_upto_region 12 with (fail)
 go_loopw [13,14] (fun gz i wr=>∃(k:Nat) (sl:Value) (l:List Int),k≤pn∧k≤au∧i=.int .i64 k∧gz=sl∧wr.ownsRow w5.heap.size 3 1 sl k (l.map (Value.int .i64))∧l.length=k∧(∀x∈l,C.isC x=true)∧Below w5.heap.size w5 wr) (fun _ i _=>au-(intOf i).toNat)
 case atStart=>exact⟨0,_,[],ZG _,ZG _,rfl,rfl,ZI _ _ _ _,rfl,fun x hx=>absurd hx Z6,Zc _ _⟩
 obtain⟨k,sl,l,hkp,fj,rfl,rfl,ak,b6,e9,aj⟩:=hrel;have ae:=hy' ak;have dk:=hy' e9;have ck:=hy' b6;have ai:=hy' aj;have cd:=aj.size;have b2:=dx.o.trans (aj.mono dx.o.size);have bm:=ee.o.below b2;have x2:=bm.cell 2 rfl;have x3:=bm.cell 3 rfl;have xl:=bm.lt;have cm:=hy' (gg.o.below aj aj.size);have ej:=hy' (gm.o.below b2 b2.size);have gu:=hy' (fc.o.below b2 b2.size);clear ak e9 b6 aj bm
 by_cases hp:k<pn
 rotate_left
 · have kP:¬(k:Int)<pn:=by omega
   obtain⟨aw,a8,rfl⟩:=zA3 ae.o;have ah:=af.o.trans (ai.o.mono af.o.size);have aa:=bx.o.below ah;have h5:=aq.o.below ah;have y0:=aa.cell 0 rfl;have y1:=aa.cell 1 rfl;have yl:=aa.lt;have k2:=h5.cell 0 rfl;have k3:=h5.cell 1 rfl;have k4:=h5.frozen 0;have k5:=h5.frozen 1;have kl:=h5.lt;have ei:=hy' (bf.o.below ah);have eo:=hy' (dr.o.below ah);have H5:=hy' h5;have bh:=hy' (b3.o.trans (ah.mono b3.o.size));have bg:=hy' (zB0 ae.o (Zh b3.o.size af.o.size))
   have hne:(Value.slice aw k a8).ownBlock=none∨(Value.slice aw k a8).ownBlock≠some (w.heap.size+1):=by
    cases hg:(Value.slice aw k a8).ownBlock with
    | none=>exact .inl rfl
    | some g =>
      refine .inr fun e=>?_
      obtain rfl:=XD e;have h1:=(zB2 ae.o hg).1;have h2:=af.o.size;have h3:=aq.o.lt;omega
   have er:=hy' hne;have e4:=hy' (fun g (hg:(Value.slice aw k a8).ownBlock=some g)=>(zB2 ae.o hg).1);clear ah aa h5 ae hne;go_upto_region 18 with (fail)
   go_region;go_wp2_with fail;have h1:=H5.o.set 0 (.slice A2 n2 c2);have h2:=h1.set 1 (.slice XA2 xn2 xc2);have cb:=(ei.o.setAt H5.o 0 (.slice A2 n2 c2)).setAt h1 1 (.slice XA2 xn2 xc2);have cq:=(eo.o.setAt H5.o 0 (.slice A2 n2 c2)).setAt h1 1 (.slice XA2 xn2 xc2)
   have cz:Below w.heap.size w ((wr.setCell ⟨w.heap.size+1,0,none⟩ (.slice A2 n2 c2)).setCell ⟨w.heap.size+1,1,none⟩ (.slice XA2 xn2 xc2)) :=
    (bh.o.setCell (p:=⟨w.heap.size+1,0,none⟩) (ZW _) _).setCell (p:=⟨w.heap.size+1,1,none⟩) (ZW _) _
   have ew:wr.grownBy ((wr.setCell ⟨w.heap.size+1,0,none⟩ (.slice A2 n2 c2)).setCell ⟨w.heap.size+1,1,none⟩ (.slice XA2 xn2 xc2)) (some (w.heap.size+1)):=zA0 (Rw.grown_set _ _ _) (Rw.grown_set _ _ _);have ar:=JM bg.o ew er.o;obtain⟨w6,b8⟩:∃w6,(wr.setCell ⟨w.heap.size+1,0,none⟩ (.slice A2 n2 c2)).setCell ⟨w.heap.size+1,1,none⟩ (.slice XA2 xn2 xc2)=w6:=⟨_,rfl⟩;rw[b8]at h2 cb cq cz ar ⊢;have bw:=aq.o.below af.o;have dc:=bw.set 0 (.slice A2 n2 c2);have i5:=((bf.o.below af.o).setAt bw 0 (.slice A2 n2 c2)).setAt dc 1 (.slice XA2 xn2 xc2);have d5:=((dr.o.below af.o).setAt bw 0 (.slice A2 n2 c2)).setAt dc 1 (.slice XA2 xn2 xc2);have bl:=zL4 (zL4 ai.o ⟨w.heap.size+1,0,none⟩ (.slice A2 n2 c2)) ⟨w.heap.size+1,1,none⟩ (.slice XA2 xn2 xc2);rw[b8]at bl;obtain⟨w7,cg⟩:∃w7,(w5.setCell ⟨w.heap.size+1,0,none⟩ (.slice A2 n2 c2)).setCell ⟨w.heap.size+1,1,none⟩ (.slice XA2 xn2 xc2)=w7:=⟨_,rfl⟩;have b9:w7.heap.size=w5.heap.size:=by rw[←cg,ZP,ZP]
   rw[cg]at i5 d5 bl;refine YF (zJ2 rfl _ _ (w.heap.size+1) _ _ _ _ rfl (show w6.drew.heap[w.heap.size+1]?=_ from h2) underlying38 rfl (by kernel_rfl)) rfl ?_;have b6:=ck.o;subst b6
   exact⟨_,.agg #[.slice A2 n2 c2,.slice XA2 xn2 xc2],T,E,S,l,aw,a8,rfl,cb.below (Zc _ _).drew,cq.below (Zc _ _).drew,HR.o,zA4 ar (Zc _ _).drew (Za _),dk.o,fj,(fun w'' hg=>by
    have c7:Below w7.heap.size w7 w'':=by
     rw[b9];exact bl.trans ((Zc _ _).drew.trans (zAe hg (by have:=bl.size;rw[b9]at this;exact this) fun q hq=>e4.o q hq))
    exact⟨i5.below c7,d5.below c7⟩),cz.drew⟩
 by_cases hm:k<au
 rotate_left
 · have kP:(k:Int)<pn:=by omega
   have kM:¬(k:Int)<au:=by omega
   obtain⟨aw,a8,rfl⟩:=zA3 ae.o;have ah:=af.o.trans (ai.o.mono af.o.size);have aa:=bx.o.below ah;have h5:=aq.o.below ah;have y0:=aa.cell 0 rfl;have y1:=aa.cell 1 rfl;have yl:=aa.lt;have k2:=h5.cell 0 rfl;have k3:=h5.cell 1 rfl;have k4:=h5.frozen 0;have k5:=h5.frozen 1;have kl:=h5.lt;have ei:=hy' (bf.o.below ah);have eo:=hy' (dr.o.below ah);have H5:=hy' h5;have bh:=hy' (b3.o.trans (ah.mono b3.o.size));have bg:=hy' (zB0 ae.o (Zh b3.o.size af.o.size))
   have hne:(Value.slice aw k a8).ownBlock=none∨(Value.slice aw k a8).ownBlock≠some (w.heap.size+1):=by
    cases hg:(Value.slice aw k a8).ownBlock with
    | none=>exact .inl rfl
    | some g =>
      refine .inr fun e=>?_
      obtain rfl:=XD e;have h1:=(zB2 ae.o hg).1;have h2:=af.o.size;have h3:=aq.o.lt;omega
   have er:=hy' hne;have e4:=hy' (fun g (hg:(Value.slice aw k a8).ownBlock=some g)=>(zB2 ae.o hg).1);clear ah aa h5 ae hne;go_upto_region 18 with (fail)
   go_region;go_wp2_with fail;have h1:=H5.o.set 0 (.slice A2 n2 c2);have h2:=h1.set 1 (.slice XA2 xn2 xc2);have cb:=(ei.o.setAt H5.o 0 (.slice A2 n2 c2)).setAt h1 1 (.slice XA2 xn2 xc2);have cq:=(eo.o.setAt H5.o 0 (.slice A2 n2 c2)).setAt h1 1 (.slice XA2 xn2 xc2)
   have cz:Below w.heap.size w ((wr.setCell ⟨w.heap.size+1,0,none⟩ (.slice A2 n2 c2)).setCell ⟨w.heap.size+1,1,none⟩ (.slice XA2 xn2 xc2)) :=
    (bh.o.setCell (p:=⟨w.heap.size+1,0,none⟩) (ZW _) _).setCell (p:=⟨w.heap.size+1,1,none⟩) (ZW _) _
   have ew:wr.grownBy ((wr.setCell ⟨w.heap.size+1,0,none⟩ (.slice A2 n2 c2)).setCell ⟨w.heap.size+1,1,none⟩ (.slice XA2 xn2 xc2)) (some (w.heap.size+1)):=zA0 (Rw.grown_set _ _ _) (Rw.grown_set _ _ _);have ar:=JM bg.o ew er.o;obtain⟨w6,b8⟩:∃w6,(wr.setCell ⟨w.heap.size+1,0,none⟩ (.slice A2 n2 c2)).setCell ⟨w.heap.size+1,1,none⟩ (.slice XA2 xn2 xc2)=w6:=⟨_,rfl⟩;rw[b8]at h2 cb cq cz ar ⊢;have bw:=aq.o.below af.o;have dc:=bw.set 0 (.slice A2 n2 c2);have i5:=((bf.o.below af.o).setAt bw 0 (.slice A2 n2 c2)).setAt dc 1 (.slice XA2 xn2 xc2);have d5:=((dr.o.below af.o).setAt bw 0 (.slice A2 n2 c2)).setAt dc 1 (.slice XA2 xn2 xc2);have bl:=zL4 (zL4 ai.o ⟨w.heap.size+1,0,none⟩ (.slice A2 n2 c2)) ⟨w.heap.size+1,1,none⟩ (.slice XA2 xn2 xc2);rw[b8]at bl;obtain⟨w7,cg⟩:∃w7,(w5.setCell ⟨w.heap.size+1,0,none⟩ (.slice A2 n2 c2)).setCell ⟨w.heap.size+1,1,none⟩ (.slice XA2 xn2 xc2)=w7:=⟨_,rfl⟩;have b9:w7.heap.size=w5.heap.size:=by rw[←cg,ZP,ZP]
   rw[cg]at i5 d5 bl;refine YF (zJ2 rfl _ _ (w.heap.size+1) _ _ _ _ rfl (show w6.drew.heap[w.heap.size+1]?=_ from h2) underlying38 rfl (by kernel_rfl)) rfl ?_;have b6:=ck.o;subst b6
   exact⟨_,.agg #[.slice A2 n2 c2,.slice XA2 xn2 xc2],T,E,S,l,aw,a8,rfl,cb.below (Zc _ _).drew,cq.below (Zc _ _).drew,HR.o,zA4 ar (Zc _ _).drew (Za _),dk.o,fj,(fun w'' hg=>by
    have c7:Below w7.heap.size w7 w'':=by
     rw[b9];exact bl.trans ((Zc _ _).drew.trans (zAe hg (by have:=bl.size;rw[b9]at this;exact this) fun q hq=>e4.o q hq))
    exact⟨i5.below c7,d5.below c7⟩),cz.drew⟩
 have kP:(k:Int)<pn:=by omega
 have kM:(k:Int)<au:=by omega
 have k0:(0:Int)≤k:=by omega
 obtain⟨q,hq⟩:∃q,P[k]?=some q:=⟨_,Zb (by rw[ez.o];exact hp)⟩;obtain⟨h6,po,rfl,gb,fp⟩:=ej.o (by rw[Ze,ez.o];omega);have gx:=fp k (by rw[Ze,ez.o];exact hp);rw[Zw,hq,Zx]at gx;clear fp hq
 by_cases hq0:q<0
 rotate_left
 · obtain⟨jj,bo,ay⟩:=Tx.pick q cn (show xn≤1000000 by omega);rw[QE (show 0≤q by omega)]at ay;obtain⟨y,hy⟩:∃y,xs[jj]?=some y:=⟨_,Zb (by rw[b5.o];exact bo)⟩;obtain⟨eg,mo,rfl,bc,bn⟩:=cm.o (by rw[Ze,b5.o];omega);have b4:=bn jj (by rw[Ze,b5.o];exact bo);rw[Zw,hy,Zx]at b4;have jI:(jj:Int)<xn:=by omega
   have j0:(0:Int)≤jj:=by omega
   have mI:(0:Int)<xn:=by omega
   have m0:(xn:Int)≠0:=by omega
   have bu:=hy' (ea.o y (Zk hy));clear bn hy;go_wp2_with (at_builtin;refine zAi _ rfl _ _ _ rfl w5.heap.size 3 i0 _ 8 underlying36 di cv ct cw rfl _ k _ rfl ae.o _ rfl rfl (by simp only[maxLen];omega) (by omega) cd ?_;intro v1 w4 ag bk;have bg:=hy' ag;have bh:=hy' (ai.o.trans bk);clear ag bk);refine⟨⟨k+1,_,l++[y],by omega,by omega,by go_num,rfl,?_,by rw[Zd,ck.o];rfl,?_,bh.o⟩,by simp[intOf];omega⟩
   · rw[ZO];exact bg.o
   intro x hx;rcases List.mem_append.1 hx with hx|hx
   · exact dk.o x hx
   rw[Zp]at hx;subst hx;exact bu.out
 by_cases hm0:0<mn
 · have mI:(0:Int)<mn:=by omega
   have mN:((mn:Int) == 0)=false:=by simp;omega
   have m0:(mn:Int)≠0:=by omega
   obtain⟨jj,bo,ay⟩:=zNN q hq0 hm0 hmb;obtain⟨y,hy⟩:∃y,M[jj]?=some y:=⟨_,Zb (by rw[eb.o];exact bo)⟩;obtain⟨eg,mo,rfl,bc,bn⟩:=fc.o (by rw[Ze,eb.o];omega);have b4:=bn jj (by rw[Ze,eb.o];exact bo);rw[Zw,hy,Zx,←(zAP b2).1 _ _ bc]at b4;have e7:eg<w5.heap.size:=Zf bc dx.o.size;have ef:w.heap.size<w5.heap.size:=Zf ee.o.lt dx.o.size;have jI:(jj:Int)<mn:=by omega
   have j0:(0:Int)≤jj:=by omega
   have bu:=Ch.K_is y;have gp:=Ch.K_bd y;have fu:Hy (∀W,Calls prog 35 #[.int .i64 y] W fun e w'=>e=.returned (.int .i32 (Ch.K y))∧W=w'):=hy' fun W=>Ch.char_any y W
   obtain⟨ky,eu⟩:∃ky,Ch.K y=ky:=⟨_,rfl⟩;rw[eu]at bu gp;simp only[eu]at fu;have ek:IntKind.i64.wrap ky=ky:=by rw[Z5];omega
   clear bn hy eu;go_upto_region 16 with (fail)
   refine Stg.wp_region (by kernel_rfl) (Stg.Keep (· < w5.heap.size)) (Stg.Keep.rel _) ?_;have e3:=Stg.Keep.cells (s:=(· < w5.heap.size)) (w:=wr.drew) x3 ef;have em:=Stg.Keep.cells (s:=(· < w5.heap.size)) (w:=wr.drew) b4 e7;(iterate 2 (refine Stg.readW (by kernel_rfl) ?_;intro K hK;go_big_quiet_op;go_big_quiet_on))
   refine Stg.read 0 (by kernel_rfl) wr.drew rfl ?_;intro K hK;go_big_quiet_op;go_big_quiet_on;(iterate 2 (refine Stg.readW (by kernel_rfl) ?_;intro K hK;go_big_quiet_op;go_big_quiet_on));refine Stg.read 0 (by kernel_rfl) wr.drew rfl ?_;intro K hK;go_big_quiet_op;go_big_quiet_on;(iterate 3 (refine Stg.readW (by kernel_rfl) ?_;intro K hK;go_big_quiet_op;go_big_quiet_on));refine Stg.read 0 (by kernel_rfl) wr.drew rfl ?_;intro K hK;go_big_quiet_op;go_big_quiet_on;(iterate 3 (refine Stg.readW (by kernel_rfl) ?_;intro K hK;go_big_quiet_op;go_big_quiet_on));refine Stg.read 0 (by kernel_rfl) wr.drew rfl ?_;intro K hK;go_big_quiet_op;go_big_quiet_on;(iterate 3 (refine Stg.readW (by kernel_rfl) ?_;intro K hK;go_big_quiet_op;go_big_quiet_on));refine Stg.read 0 (by kernel_rfl) wr.drew rfl ?_;intro K hK;go_big_quiet_op;go_big_quiet_on;refine Stg.call 35 _ _ rfl func35 [.int .i64 y] rfl wr.drew _ (fu.o _) (by kernel_rfl) rfl ?_;rintro e w' ⟨rfl,rfl⟩;refine⟨_,rfl,fun b hb=>rfl,?_⟩;intro A' av;simp only[Act.put,Zn,ZC,ZB]at av;subst av;refine Stg.readW (by kernel_rfl) ?_;intro K hK;go_big_quiet_op;go_big_quiet_on;refine Stg.stepW (by kernel_rfl) wr.drew rfl ?_;intro K hK;go_simp;obtain⟨wd,ax⟩:∃wd,(wr.alloc (.cells #[.int .i64 ky] 3)).drew=wd:=⟨_,rfl⟩;have hbd:Below wr.heap.size wr wd:=by rw[←ax];exact ((Zc _ _).alloc (Za _) _).drew
   have cu:wd.cell? ⟨wr.heap.size,0,none⟩=some (.int .i64 ky):=by rw[←ax];exact (Rw.At.new wr 3 [.int .i64 ky]).cell 0 rfl
   have ao:=zA4 ae.o hbd (Za _);have bj:=Zh cd hbd.size;refine hK _ _ (by rw[ax];exact fun b hb=>Stg.Keep.of_below (s:=(· < w5.heap.size)) (hbd.mono cd) (fun b hb=>hb) b hb) ?_;rw[ax];intro A' av;subst av;refine Stg.stepW (by kernel_rfl) wd rfl ?_;intro K hK;refine zKe _ _ _ _ rfl w5.heap.size 3 i0 _ 8 underlying36 di cv ct cw rfl _ k _ rfl ao (.int .i64 ky) rfl wr.heap.size rfl cu (by simp only[maxLen];omega) (by omega) bj ?_;intro v9 w9 ap bp dw;refine hK _ _ (Stg.Keep.of_below bp fun b hb=>hb) ?_;intro A' av;simp only[Act.put,Zn,ZC,ZB]at av;subst av;refine Stg.readW (by kernel_rfl) ?_;intro K hK;go_big_quiet_op;go_big_quiet_on;refine Stg.nil w9 rfl ?_;have bg:=hy' ap;have bh:=hy' (ai.o.trans ((hbd.mono cd).trans bp));have e6:=hy' bu;clear ap bp dw ao cu hbd ax bu;go_wp2_with fail;refine⟨⟨k+1,_,l++[ky],by omega,by omega,by go_num,rfl,?_,by rw[Zd,ck.o];rfl,?_,bh.o⟩,by simp[intOf];omega⟩
   · rw[ZO];exact bg.o
   intro x hx;rcases List.mem_append.1 hx with hx|hx
   · exact dk.o x hx
   rw[Zp]at hx;subst hx;exact e6.out
 have gq:mn=0:=by omega
 subst gq;obtain⟨jj,bo,ay⟩:=Tx.pick q cn (show xn≤1000000 by omega);obtain⟨y,hy⟩:∃y,xs[jj]?=some y:=⟨_,Zb (by rw[b5.o];exact bo)⟩;obtain⟨eg,mo,rfl,bc,bn⟩:=cm.o (by rw[Ze,b5.o];omega);have b4:=bn jj (by rw[Ze,b5.o];exact bo);rw[Zw,hy,Zx]at b4;have jI:(jj:Int)<xn:=by omega
 have j0:(0:Int)≤jj:=by omega
 have mI:(0:Int)<xn:=by omega
 have m0:(xn:Int)≠0:=by omega
 have bu:=hy' (ea.o y (Zk hy));clear bn hy;go_wp2_with (at_builtin;refine zAi _ rfl _ _ _ rfl w5.heap.size 3 i0 _ 8 underlying36 di cv ct cw rfl _ k _ rfl ae.o _ rfl rfl (by simp only[maxLen];omega) (by omega) cd ?_;intro v1 w4 ag bk;have bg:=hy' ag;have bh:=hy' (ai.o.trans bk);clear ag bk);refine⟨⟨k+1,_,l++[y],by omega,by omega,by go_num,rfl,?_,by rw[Zd,ck.o];rfl,?_,bh.o⟩,by simp[intOf];omega⟩
 · rw[ZO];exact bg.o
 intro x hx;rcases List.mem_append.1 hx with hx|hx
 · exact dk.o x hx
 rw[Zp]at hx;subst hx;exact bu.out
structure Tx.In (A XA PA MA:Option Addr) (n c xn xc pn pc mn mc:Nat) (T0:List Rw.Row) (E0 P M:List Int) (w:World):Prop where
 hn:T0.length=n
 hxn:E0.length=xn
 hpn:P.length=pn
 hmn:M.length=mn
 hnb:n≤maxLen
 hxb:xn≤maxLen
 hpb:pn≤maxLen
 hmb:mn≤maxLen
 hbd:∀r∈T0,zDQ r
 ht:Rw.SeesI w A T0
 hx:Sl w w.heap.size XA (E0.map (Value.int .i64))
 hp:Sl w w.heap.size PA (P.map (Value.int .i64))
 hm:Sl w w.heap.size MA (M.map (Value.int .i64))
theorem Tx.In.below {A XA PA MA:Option Addr} {n c xn xc pn pc mn mc:Nat} {T0:List Rw.Row} {E0 P M:List Int} {w w':World} (h:Tx.In A XA PA MA n c xn xc pn pc mn mc T0 E0 P M w) (hb:Below w.heap.size w w'):Tx.In A XA PA MA n c xn xc pn pc mn mc T0 E0 P M w' :=
 ⟨h.hn,h.hxn,h.hpn,h.hmn,h.hnb,h.hxb,h.hpb,h.hmb,h.hbd,h.ht.below hb,h.hx.below hb hb.size,h.hp.below hb hb.size,h.hm.below hb hb.size⟩
theorem zRX (A XA PA MA:Option Addr) (n c xn xc pn pc mn mc:Nat) (T0:List Rw.Row) (E0 P M:List Int) (aa:Nat) (w:World) (ae:aa≤1000) (h:Tx.In A XA PA MA n c xn xc pn pc mn mc T0 E0 P M w) (hL:Rw.Laid w) :
 Calls prog 14 #[.agg #[.slice A n c,.slice XA xn xc,.slice PA pn pc,.slice MA mn mc],.int .i64 aa] w (zK3 aa w) :=
 zNO A XA PA MA n c xn xc pn pc mn mc T0 E0 P M aa w h.hn h.hxn h.hpn h.hmn h.hnb h.hxb h.hpb h.hmb ae h.hbd h.ht h.hx h.hp h.hm hL
theorem Tx.isC_i32 {c:Int} (h:C.isC c=true) : -2147483648≤c∧c≤2147483647:=by have:=Ud.isC_bd h;omega
theorem Sl.takeN {w:World} {B:Nat} {A:Option Addr} {xs:List Value} (h:Sl w B A xs) (k:Nat):Sl w B A (xs.take k):=fun h0=>by
 rw[Zr]at h0;obtain⟨b,o,hA,hb,hc⟩:=h (by omega);refine⟨b,o,hA,hb,fun i hi=>?_⟩;rw[Zr]at hi;rw[hc i (by omega),XY (by omega)]
theorem Sl.dropN {w:World} {B:Nat} {b o:Nat} {xs:List Value} (h:Sl w B (some ⟨b,o,none⟩) xs) (k:Nat):Sl w B (some ⟨b,o+k,none⟩) (xs.drop k):=fun h0=>by
 rw[ZM]at h0;obtain⟨b',o',hA,hb,hc⟩:=h (by omega);cases hA
 refine⟨b,o+k,rfl,hb,fun i hi=>?_⟩;rw[ZM]at hi;rw[Yi,hc (k+i) (by omega),Xj]
def Or.at0 (f:Int→Int) (l:List Int) (k:Nat):Prop:=k=l.length∨∃x,l[k]?=some x∧f x=0
theorem Or.at0.of {f:Int→Int} {l:List Int} {k:Nat} (h:Or.at0 f l k):Or.of f l=Or.of f (l.take k)++Or.of f (l.drop k):=by
 rcases h with rfl|⟨x,hx,h0⟩
 · rw[QR,J3];simp[Or.of,zBn]
 obtain⟨h1,h2⟩:=List.getElem?_eq_some_iff.1 hx;rw[ZR h1,h2,←zLg (by omega),←h2,←ZR h1,ZE]
theorem zSh {f:Int→Int} {l:List Int} {k:Nat} (h:Or.at0 f l k):Or.inB f 0 l=(Or.inB f 0 (l.take k)&&Or.inB f 0 (l.drop k)):=by
 rcases h with rfl|⟨x,hx,h0⟩
 · rw[QR,J3];simp[Or.inB]
 obtain⟨h1,h2⟩:=List.getElem?_eq_some_iff.1 hx;have hd:l.drop k=x::l.drop (k+1):=by rw[ZR h1,h2]
 conv=>lhs;rw[←ZE k l,hd,zDz (by omega)]
 rw[hd]
 conv=>rhs;rhs;unfold Or.inB
 rw[Zj (by omega)]
theorem Nc.find_take {α:Type} {p:α→Bool} {T:List α} {k:Nat} {r:α} (hr:T[k]?=some r) (aa:∀q∈T.take k,p q=false) (he:p r=true):T.find? p=some r:=by
 obtain⟨h1,h2⟩:=List.getElem?_eq_some_iff.1 hr;rw[←ZE k T,List.find?_append,List.find?_eq_none.2 (fun x hx=>by rw[aa x hx];simp),Option.none_or,ZR h1,Q7,h2,he]
theorem Nc.no_succ {α:Type} {p:α→Bool} {T:List α} {k:Nat} {r:α} (hr:T[k]?=some r) (aa:∀q∈T.take k,p q=false) (he:p r=false):∀q∈T.take (k+1),p q=false:=by
 rw[ZA,hr];intro q hq;rcases List.mem_append.1 hq with h|h
 · exact aa q h
 simp at h;rw[h];exact he
theorem zNP (v:Value) (T:List Rw.Row) (E:List Int) (a b:Int) (w:World) (bu:T.length≤100000) (b1:E.length≤1000000) (h:Md.Doc w v T E) (br:∀r∈T,r.2.2.length≤1000) (aq:∀r∈T,-2147483648≤r.1∧r.1≤2147483647) (cf : -2147483648≤a) (ch:a≤2147483647) (cd : -2147483648≤b) (b9:b≤2147483647) :
 Calls prog 72 #[v,.int .i64 a,.int .i64 b] w fun e w'=>e=.returned (.int .i64 (Nc.two T (Md.xs E) a b))∧Below w.heap.size w w':=by
 have az:∀d W,Below w.heap.size w W → -2147483648≤d→d≤2147483647→Calls prog 109 #[v,.int .i64 d] W fun e w'=>e=.returned (.bool (zAo T (Md.xs E) d))∧Below W.heap.size W w':=fun d W hW h3 h4=>zHz v T E d W bu b1 (h.below hW) br h3 h4
 obtain⟨A,c,XA,xc,rfl,h2,hX⟩:=h;obtain⟨n,hn⟩:∃k,T.length=k:=⟨_,rfl⟩;obtain⟨xn,hxn⟩:∃k,E.length=k:=⟨_,rfl⟩;rw[hn,hxn]at az ⊢;rw[hn]at bu;obtain⟨pf,bf⟩:∃p,zAo T (Md.xs E)=p:=⟨_,rfl⟩;have bw:Nc.two T (Md.xs E) a b=if (Hg.joinK a b).2=true then (Hg.joinK a b).1 else ((T.find? fun r=>decide (r.2.2=[a,b])&&pf r.1).map (·.1)).getD (-1):=by rw[←bf];rfl
 rw[bw];rw[bf]at az;unfold zBd at *;obtain⟨wa,a6⟩:∃wa,w.alloc (.cells #[.slice A n c,.slice XA xn xc] 38)=wa:=⟨_,rfl⟩;have bc:Below w.heap.size w wa:=by rw[←a6];exact (Zc _ _).alloc (Za _) _
 have bt:Rw.At wa w.heap.size 38 [.slice A n c,.slice XA xn xc]:=by rw[←a6];exact Rw.At.new w 38 [.slice A n c,.slice XA xn xc]
 have bl:=hy' a6;have ah:=hy' bc;have bo:=hy' (h2.below bc);have bq:=hy' bt;have HN:=hy' hn;have cc:=hy' aq;have cb:=hy' az;obtain⟨ka,bg⟩:∃k,zA2 a=k:=⟨_,rfl⟩;obtain⟨kb,bh⟩:∃k,zA2 b=k:=⟨_,rfl⟩;have bi:Hy (∀W,Calls prog 108 #[.int .i64 a] W fun e w'=>e=.returned (.int .i64 ka)∧W=w'):=hy' fun W=>by have:=zFC a W cf ch;rw[bg]at this;exact this
 have bj:Hy (∀W,Calls prog 108 #[.int .i64 b] W fun e w'=>e=.returned (.int .i64 kb)∧W=w'):=hy' fun W=>by have:=zFC b W cd b9;rw[bh]at this;exact this
 have ag:(ka=1∧kb=2∧Hg.joinK a b=(44032+((a-4352)*21+b-4449)*28,true)∧4352≤a∧a<4371∧4449≤b∧b<4470)∨(¬(ka=1∧kb=2)∧ka=4∧kb=3∧Hg.joinK a b=(a+b-4519,true))∨(¬(ka=1∧kb=2)∧¬(ka=4∧kb=3)∧(Hg.joinK a b).2=false):=by
  unfold Hg.joinK;rw[bg,bh]
  by_cases g1:ka=1∧kb=2
  · have:=zFB a (by omega);have:=zEt b (by omega);exact .inl ⟨g1.1,g1.2,by rw[Zl g1],by omega,by omega,by omega,by omega⟩
  by_cases g2:ka=4∧kb=3
  · exact .inr (.inl ⟨g1,g2.1,g2.2,by rw[Zj g1,Zl g2]⟩)
  exact .inr (.inr ⟨g1,g2,by rw[Zj g1,Zj g2]⟩)
 have aw:=hy' ag;clear a6 bc bt hn hxn h2 hX az aq bg bh ag bw bf br b1;rcases aw.o with ⟨rfl,rfl,hj,g1,g2,g3,g4⟩|⟨g0,rfl,rfl,hj⟩|⟨g1,g2,hj⟩
 · rw[hj];have HJ:=hy' hj;clear hj;go_enter func72,ntmps72;go_upto_region 1 with (fail)
   rw[bl.o];go_wp2_with fail;refine (bi.o wa).mono ?_;rintro e w' ⟨rfl,rfl⟩;go_wp2_with fail;refine (bj.o wa).mono ?_;rintro e w' ⟨rfl,rfl⟩;go_wp2_with fail;go_ret;exact⟨by first|rfl|go_num|simp,ah.o⟩
 · rw[hj];have HJ:=hy' hj;clear hj g0;go_enter func72,ntmps72;go_upto_region 1 with (fail)
   rw[bl.o];go_wp2_with fail;refine (bi.o wa).mono ?_;rintro e w' ⟨rfl,rfl⟩;go_wp2_with fail;refine (bj.o wa).mono ?_;rintro e w' ⟨rfl,rfl⟩;go_wp2_with fail;go_ret;exact⟨by first|rfl|go_num|simp,ah.o⟩
 rw[Zj (by rw[hj];simp)];obtain⟨p,hp⟩:∃p:Rw.Row→Bool,(fun r=>decide (r.2.2=[a,b])&&pf r.1)=p:=⟨_,rfl⟩;have ar:∀r,p r=(decide (r.2.2=[a,b])&&pf r.1):=fun r=>by rw[←hp]
 rw[hp];have HP:=hy' ar;obtain⟨t1,b4⟩:∃q,(ka == 1)=q:=⟨_,rfl⟩;obtain⟨t2,b6⟩:∃q,(kb == 2)=q:=⟨_,rfl⟩;obtain⟨t3,ck⟩:∃q,(ka == 4)=q:=⟨_,rfl⟩;obtain⟨t4,b8⟩:∃q,(kb == 3)=q:=⟨_,rfl⟩
 have cg:(t1&&t2)=false:=by
  rw[←b4,←b6];cases h1:(ka == 1) <;> cases h2:(kb == 2) <;> simp_all
 have b7:(t3&&t4)=false:=by
  rw[←ck,←b8];cases h1:(ka == 4) <;> cases h2:(kb == 3) <;> simp_all
 clear hp ar hj g1 g2;go_enter func72,ntmps72;go_upto_region 1 with (fail)
 rw[bl.o];go_wp2_with fail;refine (bi.o wa).mono ?_;rintro e w' ⟨rfl,rfl⟩;go_wp2_with fail;refine (bj.o wa).mono ?_;rintro e w' ⟨rfl,rfl⟩;go_upto_region 3 with (fail)
 go_cut [20] (fun s wx=>s=.bool false∧wx=wa)
 case first =>
  cases t1
  · go_wp2_with fail;go_meet;exact⟨rfl,rfl⟩
  cases t2
  · go_wp2_with fail;go_meet;exact⟨rfl,rfl⟩
  cases cg
 obtain⟨rfl,ai⟩:=hcut;replace ai:=ai.symm;subst ai;go_upto_region 5 with (fail)
 go_cut [34] (fun s wx=>s=.bool false∧wx=wa)
 case first =>
  cases t3
  · go_wp2_with fail;go_meet;exact⟨rfl,rfl⟩
  cases t4
  · go_wp2_with fail;go_meet;exact⟨rfl,rfl⟩
  cases b7
 obtain⟨rfl,ai⟩:=hcut;replace ai:=ai.symm;subst ai;have ak:=bq.o;have z0:=ak.cell 0 rfl;have zl:=ak.lt;clear ak;go_wp2_with fail;go_loopw [42] (fun i wr=>∃k:Nat,k≤n∧i=.int .i64 k∧(∀q∈T.take k,p q=false)∧Below wa.heap.size wa wr) (fun i _=>n-(intOf i).toNat)
 case atStart=>exact⟨0,ZG _,rfl,by simp,Zc _ _⟩
 obtain⟨k,hk,rfl,bs,ae⟩:=hrel;have au:=hy' bs;have ay:=hy' ae;clear bs z0 zl
 by_cases hlt:k<n
 rotate_left
 · obtain rfl:n=k:=by omega
   have hf:T.find? p=none:=List.find?_eq_none.2 fun q hq=>by
    have:=au.o;rw[Zi (by rw[HN.o];exact Za _)]at this;rw[this q hq];simp
   have HF:=hy' hf;have b5:=hy' (ah.o.trans (ay.o.mono ah.o.size));have kI:¬(n:Int)<n:=by omega
   clear hf hlt;go_wp2_with fail;go_ret;rw[HF.o];exact⟨by first|rfl|simp,b5.o⟩
 obtain⟨r,hr⟩:∃r,T[k]?=some r:=⟨_,Zb (by rw[HN.o];exact hlt)⟩;obtain⟨b0,o,rn,b3,hb,c0,c1,c2,ba⟩:=(bo.o.below ae).row hr;have cn:(k:Int)<n:=by omega
 have aq:=cc.o r (Zk hr);have ar:=HP.o r;obtain⟨rc,rk,m⟩:=r;simp only[]at aq ar c0 c1 c2 ba;obtain⟨wn,a8⟩:∃wn,wr.alloc (.cells #[.int .i64 rc,.int .i64 rk,.slice rn.1 m.length rn.2] 74)=wn:=⟨_,rfl⟩;have a7:Below wr.heap.size wr wn:=by rw[←a8];exact (Zc _ _).alloc (Za _) _
 have aa:Rw.At wn wr.heap.size 74 [.int .i64 rc,.int .i64 rk,.slice rn.1 m.length rn.2]:=by rw[←a8];exact Rw.At.new wr 74 [.int .i64 rc,.int .i64 rk,.slice rn.1 m.length rn.2]
 have af:=hy' (ay.o.trans (a7.mono ae.size));have bz:=hy' (ba.below a7 a7.size);have HR:=hy' hr;have ax:=hy' aa;have cj:=hy' a8;have bb:=hy' (cb.o rc wn (ah.o.trans (af.o.mono ah.o.size)) aq.1 aq.2);have a1:=hy' ar;subst b3;clear hr ba ae a7 a8 ar aq aa;go_upto_region 10 with (fail)
 rw[cj.o];have aa:=ax.o;have y0:=aa.cell 0 rfl;have y2:=aa.cell 2 rfl;have yl:=aa.lt;have ht:=bq.o.below af.o;have z0:=ht.cell 0 rfl;have z1:=ht.cell 1 rfl;have zl:=ht.lt;clear aa ht c0 c1 c2 hb
 by_cases hm2:m.length=2
 rotate_left
 · have hpn:p (rc,rk,m)=false:=by
    rw[a1.o,Zt (fun e=>hm2 (by rw[show m=[a,b] from e];rfl)),Xl]
   have aj:=hy' (Nc.no_succ HR.o au.o hpn);have hmb:((m.length:Int) == 2)=false:=by simp;omega
   clear hpn hm2;go_wp2_with fail;exact⟨⟨k+1,by omega,by go_num,aj.o,af.o⟩,by simp[intOf];omega⟩
 obtain⟨x,y,rfl⟩:∃x y,m=[x,y]:=by
  rcases m with _|⟨x,_|⟨y,_|⟨z,t⟩⟩⟩ <;> simp at hm2
  exact⟨x,y,rfl⟩
 obtain⟨ab,ao,hA,cm,bk⟩:=bz.o (by simp);have e0:=bk 0 (by simp);have e1:=bk 1 (by simp);simp only[ZX,Yq,YM,Y4,YT]at e0 e1;simp only[ZF,Z0]at y2;rw[hA]at y2;clear bk hm2 bz;rcases hx:(x == a) with _|_
 · have hpn:p (rc,rk,[x,y])=false:=by
    rw[a1.o,Zt (fun e=>by simp at e;simp[e.1]at hx),Xl]
   have aj:=hy' (Nc.no_succ HR.o au.o hpn);clear hpn;go_wp2_with fail;exact⟨⟨k+1,by omega,by go_num,aj.o,af.o⟩,by simp[intOf];omega⟩
 rcases hy:(y == b) with _|_
 · have hpn:p (rc,rk,[x,y])=false:=by
    rw[a1.o,Zt (fun e=>by simp at e;simp[e.2]at hy),Xl]
   have aj:=hy' (Nc.no_succ HR.o au.o hpn);clear hpn;go_wp2_with fail;exact⟨⟨k+1,by omega,by go_num,aj.o,af.o⟩,by simp[intOf];omega⟩
 have b2:([x,y]:List Int)=[a,b]:=by rw[beq_iff_eq.1 hx,beq_iff_eq.1 hy]
 obtain⟨pv,bn⟩:∃q,pf rc=q:=⟨_,rfl⟩
 have bp:p (rc,rk,[x,y])=pv:=by
  rw[a1.o,Zu b2,Xe,←bn]
 rw[bn]at bb;have bx:=hy' bp;clear bp bn b2;cases pv
 · have aj:=hy' (Nc.no_succ HR.o au.o bx.o);go_wp2_with (first|(go_at_call 109;refine bb.o.mono ?_;rintro e w5 ⟨rfl,av⟩;have bm:=hy' (af.o.trans (av.mono af.o.size));clear av)|fail);exact⟨⟨k+1,by omega,by go_num,aj.o,bm.o⟩,by simp[intOf];omega⟩
 have HF:=hy' (Nc.find_take HR.o au.o bx.o);go_wp2_with (first|(go_at_call 109;refine bb.o.mono ?_;rintro e w5 ⟨rfl,av⟩;have ap:=ax.o.below av;have v0:=ap.cell 0 rfl;have vl:=ap.lt;have bm:=hy' (ah.o.trans ((af.o.trans (av.mono af.o.size)).mono ah.o.size));clear av ap)|fail);go_ret;rw[HF.o];exact⟨by first|rfl|simp,bm.o⟩
end Go.Proofs.YthngjlllojiacaaGreatDoor
