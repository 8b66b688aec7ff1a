/- cedillalaw16's Made: a table, loaded, and characters: by walking the text. -/
import Derived.Test.YtjakbblocbicjaaGreatDoorStC
import Derived.Test.YtjakbblocbicjaaGreatDoorXtTable
set_option maxRecDepth 100000
set_option maxHeartbeats 4000000
set_option linter.unusedVariables false
set_option linter.unusedSimpArgs false
namespace Go.Proofs.YtjakbblocbicjaaGreatDoor
open Go.Proofs.Tryz
open Go.RowKit
theorem zFw (k:Int) {L:Int} (h:0<L) : -L<k.tmod L∧k.tmod L<L:=by
 rw[J7];have h1:=Int.emod_nonneg k (show L≠0 by omega);have h2:=JQ k h;split
 · omega
 have h3:(L.natAbs:Int)=L:=by omega
 omega
theorem Tx.pick (k:Int) {L:Nat} (h0:0<L) (h:L≤1000000):∃j:Nat,j<L∧(wrap64 (k.tmod L+L)).tmod L=(j:Int):=by
 obtain⟨a1,a2⟩:=zFw k (show (0:Int)<L by omega);have e1:wrap64 (k.tmod L+L)=k.tmod L+L:=by unfold wrap64;omega
 rw[e1];have a3:0≤(k.tmod L+L).tmod L:=Kg _ (by omega);obtain⟨_,a4⟩:=zFw (k.tmod L+L) (show (0:Int)<L by omega);exact⟨((k.tmod L+L).tmod L).toNat,by omega,by omega⟩
theorem zJo {P:Program} {fn:Func} {p u u2 u3:Tmp} {ty:TypeId} (h:fn.results = #[.tmp u,.cell p ty,.tmp u2,.tmp u3]) (tmps:Array Value) (w:World) (g:Nat) (t:TypeId) (cs:Array Value) (fr:Nat × Nat) (d:TypeDesc)
 (hp:tmps.getD p undef=.pointer (some ⟨g,0,none⟩)) (hg:w.heap[g]?=some (.cells cs t fr))
 (hu:P.underlying ty=some d) (hd:(match d with | .struct _ | .array _ _=>true|_=>false)=true) (hi:(P.info? ty).map (·.size)=some cs.size) :
 (results fn tmps).run P w=.ok (.tuple #[tmps.getD u undef,.agg cs,tmps.getD u2 undef,tmps.getD u3 undef]) w:=by
 have aa:tmps[p]?.getD undef=.pointer (some ⟨g,0,none⟩):=by simpa using hp
 simp[results,h,aa,asAddr,X5 w g t ty cs fr d hg hu hd hi]
theorem zOm (k:Int) {L:Nat} (hk:k<0) (h0:0<L) (h:L≤maxLen):∃j:Nat,j<L∧(wrap64 (k.tmod L+L)).tmod L=(j:Int):=by
 simp only[maxLen]at h;obtain⟨a1,a2⟩:=zFw k (show (0:Int)<L by omega)
 have a5:k.tmod L≤0:=by
  rw[J7];have h2:=JQ k (show (0:Int)<L by omega);split
  · rename_i hh;rcases hh with hh|hh
    · omega
    rw[Int.emod_eq_zero_of_dvd hh];exact YE _
  have h3:((L:Int).natAbs:Int)=L:=by omega
  omega
 have e1:wrap64 (k.tmod L+L)=k.tmod L+L:=by unfold wrap64;omega
 rw[e1];have a3:0≤(k.tmod L+L).tmod L:=Kg _ (by omega);obtain⟨_,a4⟩:=zFw (k.tmod L+L) (show (0:Int)<L by omega);exact⟨((k.tmod L+L).tmod L).toNat,by omega,by omega⟩
theorem zLw {B:Nat} {w w':World} (h:Below B w w') (a:Addr) (u:Value):Below B (w.setCell a u) (w'.setCell a u) :=
 ⟨h.os,h.tape,h.output,by simp[World.setCell];exact h.size,fun k hk=>by simp only[World.setCell,YV,h.block k hk]⟩
def zKy (aa:Nat) (w:World) (e:Ending) (w':World):Prop :=
 ∃(p v:Value) (T:List Rw.Row) (E S l:List Int) (A:Option Addr) (c:Nat),e=.returned (.tuple #[p,v,.slice A l.length c,.bool true])∧Ud.Is w' p T S∧Md.Doc w' v T E∧Ud.Right T E S∧w'.ownsRow w.heap.size 3 1 (.slice A l.length c) l.length (l.map (Value.int .i64))∧(∀x∈l,C.isC x=true)∧l.length≤aa∧(∀w'',w'.grownBy w'' (Value.slice A l.length c).ownBlock→Ud.Is w'' p T S∧Md.Doc w'' v T E)∧Below w.heap.size w w'
theorem zPS {T:List Rw.Row} {E S:List Int} (h:Ud.Right T E S) {r:Rw.Row} (hr:r∈T):C.isC r.1=true∧∀c∈r.2.2,C.isC c=true :=
 ⟨(h.ok.good r hr).1,fun c hc=>((h.ok.good r hr).2.2.2.2.2 c hc).1⟩
theorem zPT:∀c∈([65,97,768,4352,4449,4520,44032,44033]:List Int),C.isC c=true:=by decide
theorem zOn (A XA PA MA:Option Addr) (n c xn xc pn pc mn mc:Nat) (T0:List Rw.Row) (E0 P M:List Int) (ar:Nat) (w:World) (hn:T0.length=n) (hxn:E0.length=xn) (hpn:P.length=pn) (hmn:M.length=mn) (hnb:n≤maxLen) (hxb:xn≤maxLen) (hpb:pn≤maxLen) (hmb:mn≤maxLen) (fx:ar≤1000) (hbd:∀r∈T0,zDR r)
 (h2:Rw.SeesI w A T0) (hX:Sl w w.heap.size XA (E0.map (Value.int .i64))) (hP:Sl w w.heap.size PA (P.map (Value.int .i64))) (hM:Sl w w.heap.size MA (M.map (Value.int .i64))) (hL:Rw.Laid w) :
 Calls prog 15 #[.agg #[.slice A n c,.slice XA xn xc,.slice PA pn pc,.slice MA mn mc],.int .i64 ar] w (zKy ar w):=by
 obtain⟨i0,cz,ct,ch,cn⟩:=Z2 zDT
 have bp:Hy (∀W,Below w.heap.size w W→Calls prog 47 #[.agg #[.slice A n c,.slice XA xn xc]] W (zHR W)):=hy' fun W hW =>
  zLp A XA n c xn xc T0 E0 W hn hxn hnb hxb hbd (h2.below hW) (hX.below hW hW.size) (hL.next hW)
 obtain⟨wa,dc⟩:∃wa,(w.alloc (.cells #[.slice A n c,.slice XA xn xc,.slice PA pn pc,.slice MA mn mc] 27)).alloc (.cells #[.slice none 0 0,.slice none 0 0] 25)=wa:=⟨_,rfl⟩;have b2:Below w.heap.size w wa:=by rw[←dc];exact ((Zc _ _).alloc (Za _) _).alloc (by simp) _
 have cg:Rw.At wa w.heap.size 27 [.slice A n c,.slice XA xn xc,.slice PA pn pc,.slice MA mn mc]:=by
  rw[←dc];exact (Rw.At.new w 27 [.slice A n c,.slice XA xn xc,.slice PA pn pc,.slice MA mn mc]).alloc _
 have cc:Rw.At wa (w.heap.size+1) 25 [.slice none 0 0,.slice none 0 0]:=by
  have:=Rw.At.new (w.alloc (.cells #[.slice A n c,.slice XA xn xc,.slice PA pn pc,.slice MA mn mc] 27)) 25 [.slice none 0 0,.slice none 0 0];rw[ZJ]at this;rw[←dc];exact this
 have fg:=hy' dc;have ec:=hy' b2;have e7:=hy' cg;have df:=hy' cc;have eu:=hy' hpn;have ef:=hy' hmn;have gg:=hy' (hP.below b2 b2.size);have fp:=hy' (hM.below b2 b2.size);have x0:=cg.cell 0 rfl;have x1:=cg.cell 1 rfl;have xl:=cg.lt;clear dc b2 cg cc hn hxn hnb hxb hbd h2 hX hL hP hM hpn hmn;go_enter func15,ntmps15;go_upto_region 1 with (fail)
 rw[fg.o];go_wp2_with fail;refine (bp.o wa ec.o).mono ?_;rintro e w2 ⟨p,v2,T,E,S,rfl,ej,b5,hR,ba⟩;obtain⟨pb,rfl,gf⟩:=ej.form;obtain⟨A2,c2,XA2,xc2,rfl,e5⟩:=id b5;obtain⟨n2,e6⟩:∃k,T.length=k:=⟨_,rfl⟩;obtain⟨xn2,cq⟩:∃k,E.length=k:=⟨_,rfl⟩;rw[e6,cq]at b5 ⊢;unfold zAX at b5 ⊢;obtain⟨w3,dv⟩:∃w3,w2.alloc (.cells #[.slice A2 n2 c2,.slice XA2 xn2 xc2] 25)=w3:=⟨_,rfl⟩;have bq:Below w2.heap.size w2 w3:=by rw[←dv];exact (Zc _ _).alloc (Za _) _
 have aa:Rw.At w3 w2.heap.size 25 [.slice A2 n2 c2,.slice XA2 xn2 xc2]:=by rw[←dv];exact Rw.At.new w2 25 [.slice A2 n2 c2,.slice XA2 xn2 xc2]
 have cu:=e7.o.below (ba.trans (bq.mono ba.size));have gu:=hy' dv;have cr:Below w.heap.size w w3:=ec.o.trans ((ba.trans (bq.mono ba.size)).mono ec.o.size);have dm:=hy' (ba.trans (bq.mono ba.size));have b3:=hy' cr;have ho:=hy' cu;have aq:=hy' (df.o.below (ba.trans (bq.mono ba.size)));have bx:=hy' aa;have bg:=hy' (ej.below bq);have dt:=hy' (b5.below bq)
 have e9:Hy (Rw.SeesI w3 A2 T):=by
  obtain⟨A9,c9,X9,d9,he,gh,h7⟩:=b5.below bq;simp only[zAX,XF,Qc,Yd,ZZ,YQ]at he;obtain⟨⟨rfl,_,rfl⟩,rfl,_,rfl⟩:=he;exact hy' gh
 have HR:=hy' hR;have gb:=hy' e6;have gw:n2≤20:=by have:=hR.tl;omega
 have gx:w.heap.size+1<w2.heap.size:=Zf df.o.lt ba.size;clear x0 x1 b5 e5 ba bq aa ej dv cr cu hR e6 cq bp fg;go_upto_region 2 with (fail)
 rw[gu.o]
 have af:(w3.alloc (.cells #[.int .i64 65,.int .i64 97,.int .i64 768,.int .i64 4352,.int .i64 4449,.int .i64 4520,.int .i64 44032,.int .i64 44033] 3)).ownsRow w3.heap.size 3 1 (.slice (some ⟨w3.heap.size,0,none⟩) 8 8) 8 (([65,97,768,4352,4449,4520,44032,44033]:List Int).map (Value.int .i64)) :=
  World.ownsRow_lit w3 #[.int .i64 65,.int .i64 97,.int .i64 768,.int .i64 4352,.int .i64 4449,.int .i64 4520,.int .i64 44032,.int .i64 44033] 8 (Za _) (by decide) rfl
 obtain⟨w4,dw⟩:∃w4,w3.alloc (.cells #[.int .i64 65,.int .i64 97,.int .i64 768,.int .i64 4352,.int .i64 4449,.int .i64 4520,.int .i64 44032,.int .i64 44033] 3)=w4:=⟨_,rfl⟩;have bf:Below w3.heap.size w3 w4:=by rw[←dw];exact (Zc _ _).alloc (Za _) _
 rw[dw]at af;have cj:=hy' af;have gm:=hy' bf;have gy:=hy' dw;have ay:=bx.o.below bf;have y0:=ay.cell 0 rfl;have yl:=ay.lt;clear dw af bf ay;go_upto_region 5 with (fail)
 rw[gy.o];go_wp2_with fail;clear y0 yl;go_loopw [10,29] (fun v6 i wr=>∃(j:Nat) (v:Value) (xs:List Int),j≤n2∧i=.int .i64 j∧v6=v∧wr.ownsRow w3.heap.size 3 1 v xs.length (xs.map (Value.int .i64))∧(∀x∈xs,C.isC x=true)∧(xs.length≤8+j*3∧0<xs.length)∧Below w3.heap.size w3 wr) (fun _ i _=>n2-(intOf i).toNat)
 case atStart=>exact⟨0,_,[65,97,768,4352,4449,4520,44032,44033],ZF _,rfl,rfl,cj.o,zPT,by simp,gm.o⟩
 obtain⟨j,hz,xs,hj,rfl,rfl,ak,hxb,eg,aj⟩:=hrel;have bb:Below w3.heap.size w3 wr:=aj;have ae:=hy' ak;have ea:=hy' hxb;have ah:=hy' aj
 by_cases hlt:j<n2
 · obtain⟨r,hr⟩:∃r,T[j]?=some r:=⟨_,Zb (by rw[gb.o];exact hlt)⟩;have ee:=Zj hr;have fk:=zPS HR.o ee;have gi:=(HR.o.rok r ee).2.2.1;have cp:=e9.o;obtain⟨b,o,a,gj,hb,fh,ft,fm,fw⟩:=cp.row hr;have c0:=((zAQ bb).1 b (o+j*3) hb).trans fh;have c1:=((zAQ bb).1 b (o+j*3+1) hb).trans ft;have c2:=((zAQ bb).1 b (o+j*3+2) hb).trans fm;have h4:b<wr.heap.size:=Zf hb bb.size;obtain⟨ml,bw⟩:∃k,r.2.2.length=k:=⟨_,rfl⟩;rw[bw]at c2 gi;have jI:(j:Int)<n2:=by omega
   have h0:(0:Int)≤j:=by omega
   obtain⟨wb,dy⟩:∃wb,wr.alloc (.cells #[.int .i64 r.1,.int .i64 r.2.1,.slice a.1 ml a.2] 39)=wb:=⟨_,rfl⟩;have b8:Rw.At wb wr.heap.size 39 [.int .i64 r.1,.int .i64 r.2.1,.slice a.1 ml a.2]:=by rw[←dy];exact Rw.At.new wr 39 [.int .i64 r.1,.int .i64 r.2.1,.slice a.1 ml a.2]
   have du:Below wr.heap.size wr wb:=by rw[←dy];exact (Zc _ _).alloc (Za _) _
   have hh:=hy' dy;have bj:=hy' b8;have dx:=hy' du;have cm:=hy' (zA4 ak du (Za _));have eh:=hy' ((fw.below bb (Za _)).below (du.mono bb.size) (Za _));have dn:=hy' bw;subst gj;clear fh ft fm fw bb ak hxb aj hr ee bw dy b8 du cp;go_upto_region 8 with (fail)
   rw[hh.o];refine Stg.wp_region (by kernel_rfl) (Stg.Keep (· = wr.heap.size)) (Stg.Keep.rel _) ?_;have e0:=Stg.Keep.cells (s:=(· = wr.heap.size)) (w:=wb.drew) (bj.o.cell 0 rfl) rfl;have e2:=Stg.Keep.cells (s:=(· = wr.heap.size)) (w:=wb.drew) (bj.o.cell 2 rfl) rfl;(iterate 3 (refine Stg.read 0 (by kernel_rfl) wb.drew rfl ?_;intro K hK;go_big_quiet_op;go_big_quiet_on));refine Stg.stepW (by kernel_rfl) wb.drew rfl ?_;intro K hK;go_simp;obtain⟨wd,a6⟩:∃wd,(wb.alloc (.cells #[.int .i64 r.1] 3)).drew=wd:=⟨_,rfl⟩;have hbd:Below wb.heap.size wb wd:=by rw[←a6];exact ((Zc _ _).alloc (Za _) _).drew
   have c6:wd.cell? ⟨wb.heap.size,0,none⟩=some (.int .i64 r.1):=by rw[←a6];exact (Rw.At.new wb 3 [.int .i64 r.1]).cell 0 rfl
   have ap:=zA4 cm.o hbd (Za _);have bm:=Zh ah.o.size (Zh dx.o.size hbd.size);have aw:=bj.o.below hbd;refine hK _ _ (by rintro q rfl;rw[a6];exact aw.trans bj.o.symm) ?_;rw[a6];intro A' av;subst av;refine Stg.stepW (by kernel_rfl) wd rfl ?_;intro K hK;refine zKC _ _ _ _ rfl w3.heap.size 3 i0 _ 8 underlying23 cz ct ch cn rfl _ xs.length _ rfl ap (.int .i64 r.1) rfl wb.heap.size rfl c6 (by simp only[maxLen];omega) (by omega) bm ?_;intro v9 w9 ao bs dp;have aa:=aw.grown dp (fun e=>zAB ap (by decide) _ e _ _ aw);have fc:=(dx.o.mono ah.o.size).trans ((hbd.mono (Zh ah.o.size dx.o.size)).trans bs);have c8:=eh.o.below ((hbd.mono (Zh ah.o.size dx.o.size)).trans bs) (Za _);refine hK _ _ (by rintro q rfl;exact aa.trans aw.symm) ?_;intro A' av;simp only[Act.put,Zl,Zv,Zs]at av;subst av;(iterate 2 (refine Stg.read 2 (by kernel_rfl) wb.drew rfl ?_;intro K hK;go_big_quiet_op;go_big_quiet_on));refine Stg.stepW (by kernel_rfl) w9 rfl ?_;intro K hK;refine zFM _ _ _ _ rfl w3.heap.size 3 i0 _ 1 8 underlying23 cz ct ch cn rfl (by decide) v9 (xs.length+1) _ rfl ao w3.heap.size a.1 ml _ (r.2.2.map (Value.int .i64)) rfl (by rw[Ze,dn.o];omega) c8 (by intro u hu;obtain⟨y,_,rfl⟩:=List.mem_map.1 hu;rfl) (by simp only[maxLen];omega) (by omega) (Zh bm bs.size) ?_;intro v10 fu az di b7;have br:=aa.grown b7 (fun e=>zAB ao (by decide) _ e _ _ aa);refine hK _ _ (by rintro q rfl;exact br.trans aa.symm) ?_;intro A' av;simp only[Act.put,Zl,Zv,Zs]at av;subst av;refine Stg.readW (by kernel_rfl) ?_;intro K hK;go_big_quiet_op;go_big_quiet_on;refine Stg.nil fu rfl ?_;have ei:(xs++[r.1]++r.2.2).length=xs.length+1+ml:=by simp[dn.o];omega
   have a1:fu.ownsRow w3.heap.size 3 1 v10 (xs++[r.1]++r.2.2).length ((xs++[r.1]++r.2.2).map (Value.int .i64)):=by
    rw[ei];simpa using az
   have eo:=hy' a1;have dz:=hy' (ah.o.trans (fc.trans di));have hk:=hy' ei;clear a1 az ao ap br aa aw b7 dp di bs c8 fc hbd c6 a6 ei;go_wp2_with fail
   exact⟨⟨j+1,_,xs++[r.1]++r.2.2,by omega,by go_num,rfl,eo.o,fun x hx=>by
    rcases List.mem_append.1 hx with hx|hx
    · rcases List.mem_append.1 hx with hx|hx
      · exact ea.o x hx
      rw[Zt]at hx;subst hx;exact fk.1
    exact fk.2 x hx,by rw[hk.o];omega,dz.o⟩,by simp[intOf];omega⟩
 obtain rfl:n2=j:=by omega
 have jI:¬(n2:Int)<n2:=by omega
 obtain⟨A9,c9,rfl⟩:=zA3 ak;obtain⟨w5,rfl⟩:∃w5:World,w5=wr:=⟨_,rfl⟩;obtain⟨xn,hxn⟩:∃k,xs.length=k:=⟨_,rfl⟩;rw[hxn]at ak eg ⊢;have b4:=hy' hxn;have fz:=hy' (Sl.of_own ak);have dr:=hy' (dm.o.trans (bb.mono dm.o.size));have ag:=hy' bb;have cy:=eg.2;have gq:xn≤1000:=by omega
 clear ak hxb aj bb hxn eg ae hj jI;go_upto_region 10 with (fail)
 go_upto_region 12 with (fail)
 go_loopw [13,14] (fun fy i wr=>∃(k:Nat) (sl:Value) (l:List Int),k≤pn∧k≤ar∧i=.int .i64 k∧fy=sl∧wr.ownsRow w5.heap.size 3 1 sl k (l.map (Value.int .i64))∧l.length=k∧(∀x∈l,C.isC x=true)∧Below w5.heap.size w5 wr) (fun _ i _=>ar-(intOf i).toNat)
 case atStart=>exact⟨0,_,[],ZF _,ZF _,rfl,rfl,ZE _ _ _ _,rfl,fun x hx=>absurd hx Z7,Zc _ _⟩
 obtain⟨k,sl,l,hkp,fj,rfl,rfl,ak,b1,fe,aj⟩:=hrel;have ae:=hy' ak;have cv:=hy' fe;have cf:=hy' b1;have ah:=hy' aj;have c7:=aj.size;have bz:=dr.o.trans (aj.mono dr.o.size);have bi:=e7.o.below bz;have x2:=bi.cell 2 rfl;have x3:=bi.cell 3 rfl;have xl:=bi.lt;have ck:=hy' (fz.o.below aj aj.size);have e8:=hy' (gg.o.below bz bz.size);have gz:=hy' (fp.o.below bz bz.size);clear ak fe b1 aj bi
 by_cases hp:k<pn
 rotate_left
 · have kP:¬(k:Int)<pn:=by omega
   obtain⟨ax,a7,rfl⟩:=zA3 ae.o;have ai:=ag.o.trans (ah.o.mono ag.o.size);have aa:=bx.o.below ai;have h5:=aq.o.below ai;have y0:=aa.cell 0 rfl;have y1:=aa.cell 1 rfl;have yl:=aa.lt;have k2:=h5.cell 0 rfl;have k3:=h5.cell 1 rfl;have k4:=h5.frozen 0;have k5:=h5.frozen 1;have kl:=h5.lt;have ew:=hy' (bg.o.below ai);have ey:=hy' (dt.o.below ai);have H5:=hy' h5;have bl:=hy' (b3.o.trans (ai.mono b3.o.size));have bk:=hy' (zAR ae.o (Zh b3.o.size ag.o.size))
   have hne:(Value.slice ax k a7).ownBlock=none∨(Value.slice ax k a7).ownBlock≠some (w.heap.size+1):=by
    cases hg:(Value.slice ax k a7).ownBlock with
    | none=>exact .inl rfl
    | some g =>
      refine .inr fun e=>?_
      obtain rfl:=Yg e;have h1:=(zB6 ae.o hg).1;have h2:=ag.o.size;have h3:=aq.o.lt;omega
   have ez:=hy' hne;have e1:=hy' (fun g (hg:(Value.slice ax k a7).ownBlock=some g)=>(zB6 ae.o hg).1);clear ai aa h5 ae hne;go_upto_region 18 with (fail)
   go_region;go_wp2_with fail;have h1:=H5.o.set 0 (.slice A2 n2 c2);have h2:=h1.set 1 (.slice XA2 xn2 xc2);have dk:=(ew.o.setAt H5.o 0 (.slice A2 n2 c2)).setAt h1 1 (.slice XA2 xn2 xc2);have dl:=(ey.o.setAt H5.o 0 (.slice A2 n2 c2)).setAt h1 1 (.slice XA2 xn2 xc2)
   have cw:Below w.heap.size w ((wr.setCell ⟨w.heap.size+1,0,none⟩ (.slice A2 n2 c2)).setCell ⟨w.heap.size+1,1,none⟩ (.slice XA2 xn2 xc2)) :=
    (bl.o.setCell (p:=⟨w.heap.size+1,0,none⟩) (ZW _) _).setCell (p:=⟨w.heap.size+1,1,none⟩) (ZW _) _
   have en:wr.grownBy ((wr.setCell ⟨w.heap.size+1,0,none⟩ (.slice A2 n2 c2)).setCell ⟨w.heap.size+1,1,none⟩ (.slice XA2 xn2 xc2)) (some (w.heap.size+1)):=zA0 (Rw.grown_set _ _ _) (Rw.grown_set _ _ _);have au:=JR bk.o en ez.o;obtain⟨w6,cx⟩:∃w6,(wr.setCell ⟨w.heap.size+1,0,none⟩ (.slice A2 n2 c2)).setCell ⟨w.heap.size+1,1,none⟩ (.slice XA2 xn2 xc2)=w6:=⟨_,rfl⟩;rw[cx]at h2 dk dl cw au ⊢;have bu:=aq.o.below ag.o;have b9:=bu.set 0 (.slice A2 n2 c2);have i5:=((bg.o.below ag.o).setAt bu 0 (.slice A2 n2 c2)).setAt b9 1 (.slice XA2 xn2 xc2);have d5:=((dt.o.below ag.o).setAt bu 0 (.slice A2 n2 c2)).setAt b9 1 (.slice XA2 xn2 xc2);have bc:=zLw (zLw ah.o ⟨w.heap.size+1,0,none⟩ (.slice A2 n2 c2)) ⟨w.heap.size+1,1,none⟩ (.slice XA2 xn2 xc2);rw[cx]at bc;obtain⟨w7,cd⟩:∃w7,(w5.setCell ⟨w.heap.size+1,0,none⟩ (.slice A2 n2 c2)).setCell ⟨w.heap.size+1,1,none⟩ (.slice XA2 xn2 xc2)=w7:=⟨_,rfl⟩;have dh:w7.heap.size=w5.heap.size:=by rw[←cd,ZP,ZP]
   rw[cd]at i5 d5 bc;refine YH (zJo rfl _ _ (w.heap.size+1) _ _ _ _ rfl (show w6.drew.heap[w.heap.size+1]?=_ from h2) underlying25 rfl (by kernel_rfl)) rfl ?_;have b1:=cf.o;subst b1
   exact⟨_,.agg #[.slice A2 n2 c2,.slice XA2 xn2 xc2],T,E,S,l,ax,a7,rfl,dk.below (Zc _ _).drew,dl.below (Zc _ _).drew,HR.o,zA4 au (Zc _ _).drew (Za _),cv.o,fj,(fun w'' hg=>by
    have cb:Below w7.heap.size w7 w'':=by
     rw[dh];exact bc.trans ((Zc _ _).drew.trans (zAf hg (by have:=bc.size;rw[dh]at this;exact this) fun q hq=>e1.o q hq))
    exact⟨i5.below cb,d5.below cb⟩),cw.drew⟩
 by_cases hm:k<ar
 rotate_left
 · have kP:(k:Int)<pn:=by omega
   have kM:¬(k:Int)<ar:=by omega
   obtain⟨ax,a7,rfl⟩:=zA3 ae.o;have ai:=ag.o.trans (ah.o.mono ag.o.size);have aa:=bx.o.below ai;have h5:=aq.o.below ai;have y0:=aa.cell 0 rfl;have y1:=aa.cell 1 rfl;have yl:=aa.lt;have k2:=h5.cell 0 rfl;have k3:=h5.cell 1 rfl;have k4:=h5.frozen 0;have k5:=h5.frozen 1;have kl:=h5.lt;have ew:=hy' (bg.o.below ai);have ey:=hy' (dt.o.below ai);have H5:=hy' h5;have bl:=hy' (b3.o.trans (ai.mono b3.o.size));have bk:=hy' (zAR ae.o (Zh b3.o.size ag.o.size))
   have hne:(Value.slice ax k a7).ownBlock=none∨(Value.slice ax k a7).ownBlock≠some (w.heap.size+1):=by
    cases hg:(Value.slice ax k a7).ownBlock with
    | none=>exact .inl rfl
    | some g =>
      refine .inr fun e=>?_
      obtain rfl:=Yg e;have h1:=(zB6 ae.o hg).1;have h2:=ag.o.size;have h3:=aq.o.lt;omega
   have ez:=hy' hne;have e1:=hy' (fun g (hg:(Value.slice ax k a7).ownBlock=some g)=>(zB6 ae.o hg).1);clear ai aa h5 ae hne;go_upto_region 18 with (fail)
   go_region;go_wp2_with fail;have h1:=H5.o.set 0 (.slice A2 n2 c2);have h2:=h1.set 1 (.slice XA2 xn2 xc2);have dk:=(ew.o.setAt H5.o 0 (.slice A2 n2 c2)).setAt h1 1 (.slice XA2 xn2 xc2);have dl:=(ey.o.setAt H5.o 0 (.slice A2 n2 c2)).setAt h1 1 (.slice XA2 xn2 xc2)
   have cw:Below w.heap.size w ((wr.setCell ⟨w.heap.size+1,0,none⟩ (.slice A2 n2 c2)).setCell ⟨w.heap.size+1,1,none⟩ (.slice XA2 xn2 xc2)) :=
    (bl.o.setCell (p:=⟨w.heap.size+1,0,none⟩) (ZW _) _).setCell (p:=⟨w.heap.size+1,1,none⟩) (ZW _) _
   have en:wr.grownBy ((wr.setCell ⟨w.heap.size+1,0,none⟩ (.slice A2 n2 c2)).setCell ⟨w.heap.size+1,1,none⟩ (.slice XA2 xn2 xc2)) (some (w.heap.size+1)):=zA0 (Rw.grown_set _ _ _) (Rw.grown_set _ _ _);have au:=JR bk.o en ez.o;obtain⟨w6,cx⟩:∃w6,(wr.setCell ⟨w.heap.size+1,0,none⟩ (.slice A2 n2 c2)).setCell ⟨w.heap.size+1,1,none⟩ (.slice XA2 xn2 xc2)=w6:=⟨_,rfl⟩;rw[cx]at h2 dk dl cw au ⊢;have bu:=aq.o.below ag.o;have b9:=bu.set 0 (.slice A2 n2 c2);have i5:=((bg.o.below ag.o).setAt bu 0 (.slice A2 n2 c2)).setAt b9 1 (.slice XA2 xn2 xc2);have d5:=((dt.o.below ag.o).setAt bu 0 (.slice A2 n2 c2)).setAt b9 1 (.slice XA2 xn2 xc2);have bc:=zLw (zLw ah.o ⟨w.heap.size+1,0,none⟩ (.slice A2 n2 c2)) ⟨w.heap.size+1,1,none⟩ (.slice XA2 xn2 xc2);rw[cx]at bc;obtain⟨w7,cd⟩:∃w7,(w5.setCell ⟨w.heap.size+1,0,none⟩ (.slice A2 n2 c2)).setCell ⟨w.heap.size+1,1,none⟩ (.slice XA2 xn2 xc2)=w7:=⟨_,rfl⟩;have dh:w7.heap.size=w5.heap.size:=by rw[←cd,ZP,ZP]
   rw[cd]at i5 d5 bc;refine YH (zJo rfl _ _ (w.heap.size+1) _ _ _ _ rfl (show w6.drew.heap[w.heap.size+1]?=_ from h2) underlying25 rfl (by kernel_rfl)) rfl ?_;have b1:=cf.o;subst b1
   exact⟨_,.agg #[.slice A2 n2 c2,.slice XA2 xn2 xc2],T,E,S,l,ax,a7,rfl,dk.below (Zc _ _).drew,dl.below (Zc _ _).drew,HR.o,zA4 au (Zc _ _).drew (Za _),cv.o,fj,(fun w'' hg=>by
    have cb:Below w7.heap.size w7 w'':=by
     rw[dh];exact bc.trans ((Zc _ _).drew.trans (zAf hg (by have:=bc.size;rw[dh]at this;exact this) fun q hq=>e1.o q hq))
    exact⟨i5.below cb,d5.below cb⟩),cw.drew⟩
 have kP:(k:Int)<pn:=by omega
 have kM:(k:Int)<ar:=by omega
 have k0:(0:Int)≤k:=by omega
 obtain⟨q,hq⟩:∃q,P[k]?=some q:=⟨_,Zb (by rw[eu.o];exact hp)⟩;obtain⟨h6,po,rfl,gl,fo⟩:=e8.o (by rw[Ze,eu.o];omega);have hl:=fo k (by rw[Ze,eu.o];exact hp);rw[Zo,hq,Zz]at hl;clear fo hq
 by_cases hq0:q<0
 rotate_left
 · obtain⟨jj,bn,a8⟩:=Tx.pick q cy (show xn≤1000000 by omega);rw[QK (show 0≤q by omega)]at a8;obtain⟨y,hy⟩:∃y,xs[jj]?=some y:=⟨_,Zb (by rw[b4.o];exact bn)⟩;obtain⟨e4,mo,rfl,bh,bo⟩:=ck.o (by rw[Ze,b4.o];omega);have b6:=bo jj (by rw[Ze,b4.o];exact bn);rw[Zo,hy,Zz]at b6;have jI:(jj:Int)<xn:=by omega
   have j0:(0:Int)≤jj:=by omega
   have mI:(0:Int)<xn:=by omega
   have m0:(xn:Int)≠0:=by omega
   have bt:=hy' (ea.o y (Zj hy));clear bo hy;go_wp2_with (at_builtin;refine zAa _ rfl _ _ _ rfl w5.heap.size 3 i0 _ 8 underlying23 cz ct ch cn rfl _ k _ rfl ae.o _ rfl rfl (by simp only[maxLen];omega) (by omega) c7 ?_;intro v1 w4 af bf;have bk:=hy' af;have bl:=hy' (ah.o.trans bf);clear af bf);refine⟨⟨k+1,_,l++[y],by omega,by omega,by go_num,rfl,?_,by rw[Zd,cf.o];rfl,?_,bl.o⟩,by simp[intOf];omega⟩
   · rw[ZL];exact bk.o
   intro x hx;rcases List.mem_append.1 hx with hx|hx
   · exact cv.o x hx
   rw[Zt]at hx;subst hx;exact bt.out
 by_cases hm0:0<mn
 · have mI:(0:Int)<mn:=by omega
   have mN:((mn:Int) == 0)=false:=by simp;omega
   have m0:(mn:Int)≠0:=by omega
   obtain⟨jj,bn,a8⟩:=zOm q hq0 hm0 hmb;obtain⟨y,hy⟩:∃y,M[jj]?=some y:=⟨_,Zb (by rw[ef.o];exact bn)⟩;obtain⟨e4,mo,rfl,bh,bo⟩:=fp.o (by rw[Ze,ef.o];omega);have b6:=bo jj (by rw[Ze,ef.o];exact bn);rw[Zo,hy,Zz,←(zAQ bz).1 _ _ bh]at b6;have ed:e4<w5.heap.size:=Zf bh dr.o.size;have eb:w.heap.size<w5.heap.size:=Zf e7.o.lt dr.o.size;have jI:(jj:Int)<mn:=by omega
   have j0:(0:Int)≤jj:=by omega
   have bt:=Ch.K_is y;have gp:=Ch.K_bd y;have fq:Hy (∀W,Calls prog 48 #[.int .i64 y] W fun e w'=>e=.returned (.int .i32 (Ch.K y))∧W=w'):=hy' fun W=>Ch.char_any y W
   obtain⟨ky,ep⟩:∃ky,Ch.K y=ky:=⟨_,rfl⟩;rw[ep]at bt gp;simp only[ep]at fq;have ek:IntKind.i64.wrap ky=ky:=by rw[Z4];omega
   clear bo hy ep;go_upto_region 16 with (fail)
   refine Stg.wp_region (by kernel_rfl) (Stg.Keep (· < w5.heap.size)) (Stg.Keep.rel _) ?_;have e3:=Stg.Keep.cells (s:=(· < w5.heap.size)) (w:=wr.drew) x3 eb;have em:=Stg.Keep.cells (s:=(· < w5.heap.size)) (w:=wr.drew) b6 ed;(iterate 2 (refine Stg.readW (by kernel_rfl) ?_;intro K hK;go_big_quiet_op;go_big_quiet_on));refine Stg.read 0 (by kernel_rfl) wr.drew rfl ?_;intro K hK;go_big_quiet_op;go_big_quiet_on;(iterate 2 (refine Stg.readW (by kernel_rfl) ?_;intro K hK;go_big_quiet_op;go_big_quiet_on));refine Stg.read 0 (by kernel_rfl) wr.drew rfl ?_;intro K hK;go_big_quiet_op;go_big_quiet_on;(iterate 3 (refine Stg.readW (by kernel_rfl) ?_;intro K hK;go_big_quiet_op;go_big_quiet_on));refine Stg.read 0 (by kernel_rfl) wr.drew rfl ?_;intro K hK;go_big_quiet_op;go_big_quiet_on;(iterate 3 (refine Stg.readW (by kernel_rfl) ?_;intro K hK;go_big_quiet_op;go_big_quiet_on));refine Stg.read 0 (by kernel_rfl) wr.drew rfl ?_;intro K hK;go_big_quiet_op;go_big_quiet_on;(iterate 3 (refine Stg.readW (by kernel_rfl) ?_;intro K hK;go_big_quiet_op;go_big_quiet_on));refine Stg.read 0 (by kernel_rfl) wr.drew rfl ?_;intro K hK;go_big_quiet_op;go_big_quiet_on;refine Stg.cl 48 _ _ rfl func48 [.int .i64 y] rfl wr.drew _ (fq.o _) (by kernel_rfl) rfl ?_;rintro e w' ⟨rfl,rfl⟩;refine⟨_,rfl,fun b hb=>rfl,?_⟩;intro A' av;simp only[Act.put,Zl,Zv,Zs]at av;subst av;refine Stg.readW (by kernel_rfl) ?_;intro K hK;go_big_quiet_op;go_big_quiet_on;refine Stg.stepW (by kernel_rfl) wr.drew rfl ?_;intro K hK;go_simp;obtain⟨wd,a6⟩:∃wd,(wr.alloc (.cells #[.int .i64 ky] 3)).drew=wd:=⟨_,rfl⟩;have hbd:Below wr.heap.size wr wd:=by rw[←a6];exact ((Zc _ _).alloc (Za _) _).drew
   have c6:wd.cell? ⟨wr.heap.size,0,none⟩=some (.int .i64 ky):=by rw[←a6];exact (Rw.At.new wr 3 [.int .i64 ky]).cell 0 rfl
   have ap:=zA4 ae.o hbd (Za _);have bm:=Zh c7 hbd.size;refine hK _ _ (by rw[a6];exact fun b hb=>Stg.Keep.of_below (s:=(· < w5.heap.size)) (hbd.mono c7) (fun b hb=>hb) b hb) ?_;rw[a6];intro A' av;subst av;refine Stg.stepW (by kernel_rfl) wd rfl ?_;intro K hK;refine zKC _ _ _ _ rfl w5.heap.size 3 i0 _ 8 underlying23 cz ct ch cn rfl _ k _ rfl ap (.int .i64 ky) rfl wr.heap.size rfl c6 (by simp only[maxLen];omega) (by omega) bm ?_;intro v9 w9 ao bs dp;refine hK _ _ (Stg.Keep.of_below bs fun b hb=>hb) ?_;intro A' av;simp only[Act.put,Zl,Zv,Zs]at av;subst av;refine Stg.readW (by kernel_rfl) ?_;intro K hK;go_big_quiet_op;go_big_quiet_on;refine Stg.nil w9 rfl ?_;have bk:=hy' ao;have bl:=hy' (ah.o.trans ((hbd.mono c7).trans bs));have et:=hy' bt;clear ao bs dp ap c6 hbd a6 bt;go_wp2_with fail;refine⟨⟨k+1,_,l++[ky],by omega,by omega,by go_num,rfl,?_,by rw[Zd,cf.o];rfl,?_,bl.o⟩,by simp[intOf];omega⟩
   · rw[ZL];exact bk.o
   intro x hx;rcases List.mem_append.1 hx with hx|hx
   · exact cv.o x hx
   rw[Zt]at hx;subst hx;exact et.out
 have gv:mn=0:=by omega
 subst gv;obtain⟨jj,bn,a8⟩:=Tx.pick q cy (show xn≤1000000 by omega);obtain⟨y,hy⟩:∃y,xs[jj]?=some y:=⟨_,Zb (by rw[b4.o];exact bn)⟩;obtain⟨e4,mo,rfl,bh,bo⟩:=ck.o (by rw[Ze,b4.o];omega);have b6:=bo jj (by rw[Ze,b4.o];exact bn);rw[Zo,hy,Zz]at b6;have jI:(jj:Int)<xn:=by omega
 have j0:(0:Int)≤jj:=by omega
 have mI:(0:Int)<xn:=by omega
 have m0:(xn:Int)≠0:=by omega
 have bt:=hy' (ea.o y (Zj hy));clear bo hy;go_wp2_with (at_builtin;refine zAa _ rfl _ _ _ rfl w5.heap.size 3 i0 _ 8 underlying23 cz ct ch cn rfl _ k _ rfl ae.o _ rfl rfl (by simp only[maxLen];omega) (by omega) c7 ?_;intro v1 w4 af bf;have bk:=hy' af;have bl:=hy' (ah.o.trans bf);clear af bf);refine⟨⟨k+1,_,l++[y],by omega,by omega,by go_num,rfl,?_,by rw[Zd,cf.o];rfl,?_,bl.o⟩,by simp[intOf];omega⟩
 · rw[ZL];exact bk.o
 intro x hx;rcases List.mem_append.1 hx with hx|hx
 · exact cv.o x hx
 rw[Zt]at hx;subst hx;exact bt.out
structure Tx.In (A XA PA MA:Option Addr) (n c xn xc pn pc mn mc:Nat) (T0:List Rw.Row) (E0 P M:List Int) (w:World):Prop where
 hn:T0.length=n
 hxn:E0.length=xn
 hpn:P.length=pn
 hmn:M.length=mn
 hnb:n≤maxLen
 hxb:xn≤maxLen
 hpb:pn≤maxLen
 hmb:mn≤maxLen
 hbd:∀r∈T0,zDR r
 ht:Rw.SeesI w A T0
 hx:Sl w w.heap.size XA (E0.map (Value.int .i64))
 hp:Sl w w.heap.size PA (P.map (Value.int .i64))
 hm:Sl w w.heap.size MA (M.map (Value.int .i64))
theorem Tx.In.below {A XA PA MA:Option Addr} {n c xn xc pn pc mn mc:Nat} {T0:List Rw.Row} {E0 P M:List Int} {w w':World} (h:Tx.In A XA PA MA n c xn xc pn pc mn mc T0 E0 P M w) (hb:Below w.heap.size w w'):Tx.In A XA PA MA n c xn xc pn pc mn mc T0 E0 P M w' :=
 ⟨h.hn,h.hxn,h.hpn,h.hmn,h.hnb,h.hxb,h.hpb,h.hmb,h.hbd,h.ht.below hb,h.hx.below hb hb.size,h.hp.below hb hb.size,h.hm.below hb hb.size⟩
theorem zFx (A XA PA MA:Option Addr) (n c xn xc pn pc mn mc:Nat) (T0:List Rw.Row) (E0 P M:List Int) (aa:Nat) (w:World) (ae:aa≤1000) (h:Tx.In A XA PA MA n c xn xc pn pc mn mc T0 E0 P M w) (hL:Rw.Laid w) :
 Calls prog 15 #[.agg #[.slice A n c,.slice XA xn xc,.slice PA pn pc,.slice MA mn mc],.int .i64 aa] w (zKy aa w) :=
 zOn A XA PA MA n c xn xc pn pc mn mc T0 E0 P M aa w h.hn h.hxn h.hpn h.hmn h.hnb h.hxb h.hpb h.hmb ae h.hbd h.ht h.hx h.hp h.hm hL
theorem Tx.isC_i32 {c:Int} (h:C.isC c=true) : -2147483648≤c∧c≤2147483647:=by have:=Ud.isC_bd h;omega
theorem zHT (A:Option Addr) (n c:Nat) (l:List Int) (w:World) (hn:l.length=n) (a6:n≤1000000) (hbd:∀x∈l,-2147483648≤x∧x≤2147483647) (hA:Sl w w.heap.size A (l.map (Value.int .i64))) :
 Calls prog 18 #[.slice A n c] w (Md.RetOwn l w):=by
 obtain⟨j0,hj0,aw,az,a1⟩:=Z2 zBL;have HN:=hy' hn;have av:=hy' hbd;have HA:=hy' hA;clear hn hbd hA;go_enter func18,ntmps18;go_wp2_with fail;go_loopw [3,5,8] (fun v3 _ i wr=>∃(k:Nat) (sl:Value),k≤n∧i=.int .i64 k∧v3=sl∧wr.ownsRow w.heap.size 21 1 sl k ((l.take k).map (Value.int .i32))∧Below w.heap.size w wr) (fun _ _ i _=>n-(intOf i).toNat)
 case atStart=>exact⟨0,_,ZF _,rfl,rfl,ZE _ _ _ _,Zc _ _⟩
 obtain⟨k,sl,hk,rfl,rfl,aa,ae⟩:=hrel;have aq:=ae.size
 by_cases hlt:k<n
 · obtain⟨x,hx⟩:∃x,l[k]?=some x:=⟨_,Zb (by rw[HN.o];exact hlt)⟩;obtain⟨ay,au⟩:=av.o x (Zj hx);obtain⟨ab,ao,hA2,a7,ap⟩:=HA.o (by rw[Ze,HN.o];omega);have hc:=ap k (by rw[Ze,HN.o];exact hlt);rw[Zo,hx,Zz,←(zAQ ae).1 _ _ (by omega)]at hc;have ak:l.take (k+1)=l.take k++[x]:=by rw[ZA,hx];rfl
   have ax:=hy' ak;have ex:IntKind.i32.wrap x=x:=by rw[XR];omega
   have kI:(k:Int)<n:=by omega
   have k0:(0:Int)≤k:=by omega
   have ah:=hy' aa;have ai:=hy' ae;subst hA2;clear hx ay au ap aa ae ak;go_wp2_with (first|(at_builtin;refine zAa _ rfl _ _ _ rfl w.heap.size 21 j0 _ 4 underlying35 hj0 aw az a1 rfl _ k _ rfl ah.o _ rfl rfl (by simp only[maxLen];omega) (by omega) aq ?_;intro v1 w4 af aj;have ag:=hy' af;have ar:=hy' (ai.o.trans aj);clear af aj)|fail);refine⟨⟨k+1,v1,by omega,by first|rfl|go_num,rfl,?_,ar.o⟩,by simp[intOf];omega⟩;rw[ax.o,ZL];exact ag.o
 obtain rfl:k=n:=by omega
 rw[Zi (by rw[HN.o];exact Za _)]at aa;obtain⟨A4,c4,rfl⟩:=zA3 aa;have kI:¬(k:Int)<k:=by omega
 have HO:=hy' aa;have HB:=hy' ae;clear aa ae;go_wp2_with fail;go_ret;unfold Md.RetOwn;rw[HN.o];exact⟨_,_,rfl,HO.o,HB.o⟩
theorem zJp (A B:Option Addr) (na ca nb cb:Nat) (LA LB:List Int) (w:World) (aq:LA.length=na) (hnb:LB.length=nb) (ax:na≤1000000) (az:nb≤1000000) (hbd:∀x∈LA,-2147483648≤x∧x≤2147483647)
 (hA:Sl w w.heap.size A (LA.map (Value.int .i32))) (hB:Sl w w.heap.size B (LB.map (Value.int .i64))) :
 Calls prog 42 #[.slice A na ca,.slice B nb cb] w fun e w'=>e=.returned (.bool (decide (LA=LB)))∧Below w.heap.size w w':=by
 have HA:=hy' hA;have HB:=hy' hB;have ai:=hy' aq;have aj:=hy' hnb;have au:=hy' hbd;obtain⟨r,hr⟩:∃r,decide (LA=LB)=r:=⟨_,rfl⟩;rw[hr];have HR:=hy' hr;clear hA hB aq hnb hr hbd;go_enter func42,ntmps42;rcases hd:((na:Int) != (nb:Int)) with _|_
 rotate_left
 · have hr:r=false:=by
    rw[←HR.o];refine Zq fun e=>?_
    have h1:=ai.o;rw[e,aj.o]at h1;subst h1;simp at hd
   have ah:=hy' hr;clear hr;go_wp2_with fail;go_ret;exact⟨by rw[ah.o];rfl,Zc _ _⟩
 have ar:na=nb:=by
  have:(na:Int)=nb:=by simpa using hd
  omega
 subst ar;go_wp2_with fail;go_loopw [13] (fun i wr=>∃k:Nat,k≤na∧i=.int .i64 k∧LA.take k=LB.take k∧Below w.heap.size w wr) (fun i _=>na-(intOf i).toNat)
 case atStart=>exact⟨0,ZF _,rfl,rfl,Zc _ _⟩
 obtain⟨k,hk,rfl,ae,aa⟩:=hrel;have af:=hy' ae;have ag:=hy' aa
 by_cases hlt:k<na
 rotate_left
 · obtain rfl:na=k:=by omega
   have he:LA=LB:=by
    have h:=af.o;rw[Zi (Nat.le_of_eq ai.o),Zi (Nat.le_of_eq aj.o)]at h;exact h
   have hr:r=true:=by rw[←HR.o];exact Zp he
   have ah:=hy' hr;clear he hr ae aa hlt hd;go_wp2_with fail;go_ret;exact⟨by rw[ah.o];rfl,ag.o⟩
 obtain⟨x,hx⟩:∃x,LA[k]?=some x:=⟨_,Zb (by rw[ai.o];exact hlt)⟩;obtain⟨y,hy⟩:∃y,LB[k]?=some y:=⟨_,Zb (by rw[aj.o];exact hlt)⟩;obtain⟨ba,oa,rfl,ay,ao⟩:=(HA.o.below aa aa.size) (by rw[Ze,ai.o];omega);obtain⟨bb,ob,rfl,a1,ak⟩:=(HB.o.below aa aa.size) (by rw[Ze,aj.o];omega);have c0:=ao k (by rw[Ze,ai.o];exact hlt);have c1:=ak k (by rw[Ze,aj.o];exact hlt);rw[Zo,hx,Zz]at c0;rw[Zo,hy,Zz]at c1;have hxb:=au.o x (Zj hx);have ex:IntKind.i64.wrap x=x:=by rw[Z4];omega
 have a6:(k:Int)<na:=by omega
 have aw:(0:Int)≤k:=by omega
 have HX:=hy' hx;have HY:=hy' hy;clear ae aa hx hy ao ak hd hxb;rcases hxy:(x != y) with _|_
 · have he:x=y:=by simpa using hxy
   have ap:LA.take (k+1)=LB.take (k+1):=by rw[ZA,ZA,HX.o,HY.o,af.o,he]
   have av:=hy' ap;clear ap he;go_upto_region 6 with (fail)
   go_region
   all_goals go_wp2_with fail
   all_goals exact⟨⟨k+1,by omega,by go_num,av.o,ag.o.drew⟩,by simp[intOf];omega⟩
 have hne:LA≠LB:=by
  rintro rfl;have:=HX.o.symm.trans HY.o;simp only[Zg]at this;subst this;simp at hxy
 have hr:r=false:=by rw[←HR.o];exact Zq hne
 have ah:=hy' hr;clear hne hr;go_upto_region 6 with (fail)
 go_region
 all_goals go_wp2_with fail
 all_goals go_ret
 all_goals exact⟨by rw[ah.o];rfl,ag.o.drew⟩
end Go.Proofs.YtjakbblocbicjaaGreatDoor
