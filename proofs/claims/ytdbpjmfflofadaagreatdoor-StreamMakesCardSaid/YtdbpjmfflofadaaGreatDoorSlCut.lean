/- cedillalaw16's Made: a table, loaded, and characters: by walking the text. -/
import Derived.Test.YtdbpjmfflofadaaGreatDoorRwPLine
set_option maxRecDepth 100000
set_option maxHeartbeats 4000000
set_option linter.unusedVariables false
set_option linter.unusedSimpArgs false
namespace Go.Proofs.YtdbpjmfflofadaaGreatDoor
open Go.Proofs.Tryz
open Go.RowKit
theorem zFN (k:Int) {L:Int} (h:0<L) : -L<k.tmod L∧k.tmod L<L:=by
 rw[Kk];have h1:=Int.emod_nonneg k (show L≠0 by omega);have h2:=J2 k h;split
 · omega
 have h3:(L.natAbs:Int)=L:=by omega
 omega
theorem Tx.pick (k:Int) {L:Nat} (h0:0<L) (h:L≤1000000):∃j:Nat,j<L∧(wrap64 (k.tmod L+L)).tmod L=(j:Int):=by
 obtain⟨a1,a2⟩:=zFN k (show (0:Int)<L by omega);have e1:wrap64 (k.tmod L+L)=k.tmod L+L:=by unfold wrap64;omega
 rw[e1];have a3:0≤(k.tmod L+L).tmod L:=Kv _ (by omega);obtain⟨_,a4⟩:=zFN (k.tmod L+L) (show (0:Int)<L by omega);exact⟨((k.tmod L+L).tmod L).toNat,by omega,by omega⟩
theorem zJX {P:Program} {fn:Func} {p u u2 u3:Tmp} {ty:TypeId} (h:fn.results = #[.tmp u,.cell p ty,.tmp u2,.tmp u3]) (tmps:Array Value) (w:World) (g:Nat) (t:TypeId) (cs:Array Value) (fr:Nat × Nat) (d:TypeDesc)
 (hp:tmps.getD p undef=.pointer (some ⟨g,0,none⟩)) (hg:w.heap[g]?=some (.cells cs t fr))
 (hu:P.underlying ty=some d) (hd:(match d with | .struct _ | .array _ _=>true|_=>false)=true) (hi:(P.info? ty).map (·.size)=some cs.size) :
 (results fn tmps).run P w=.ok (.tuple #[tmps.getD u undef,.agg cs,tmps.getD u2 undef,tmps.getD u3 undef]) w:=by
 have aa:tmps[p]?.getD undef=.pointer (some ⟨g,0,none⟩):=by simpa using hp
 simp[results,h,aa,asAddr,Qf w g t ty cs fr d hg hu hd hi]
theorem zPa (k:Int) {L:Nat} (hk:k<0) (h0:0<L) (h:L≤maxLen):∃j:Nat,j<L∧(wrap64 (k.tmod L+L)).tmod L=(j:Int):=by
 simp only[maxLen]at h;obtain⟨a1,a2⟩:=zFN k (show (0:Int)<L by omega)
 have a5:k.tmod L≤0:=by
  rw[Kk];have h2:=J2 k (show (0:Int)<L by omega);split
  · rename_i hh;rcases hh with hh|hh
    · omega
    rw[Int.emod_eq_zero_of_dvd hh];exact Xs _
  have h3:((L:Int).natAbs:Int)=L:=by omega
  omega
 have e1:wrap64 (k.tmod L+L)=k.tmod L+L:=by unfold wrap64;omega
 rw[e1];have a3:0≤(k.tmod L+L).tmod L:=Kv _ (by omega);obtain⟨_,a4⟩:=zFN (k.tmod L+L) (show (0:Int)<L by omega);exact⟨((k.tmod L+L).tmod L).toNat,by omega,by omega⟩
theorem zM7 {B:Nat} {w w':World} (h:Below B w w') (a:Addr) (u:Value):Below B (w.setCell a u) (w'.setCell a u) :=
 ⟨h.os,h.tape,h.output,by simp[World.setCell];exact h.size,fun k hk=>by simp only[World.setCell,YS,h.block k hk]⟩
def zL2 (aa:Nat) (w:World) (e:Ending) (w':World):Prop :=
 ∃(p v:Value) (T:List Rw.Row) (E S l:List Int) (A:Option Addr) (c:Nat),e=.returned (.tuple #[p,v,.slice A l.length c,.bool true])∧Ud.Is w' p T S∧Md.Doc w' v T E∧Ud.Right T E S∧w'.ownsRow w.heap.size 3 1 (.slice A l.length c) l.length (l.map (Value.int .i64))∧(∀x∈l,C.isC x=true)∧l.length≤aa∧(∀w'',w'.grownBy w'' (Value.slice A l.length c).ownBlock→Ud.Is w'' p T S∧Md.Doc w'' v T E)∧Below w.heap.size w w'
theorem zQL {T:List Rw.Row} {E S:List Int} (h:Ud.Right T E S) {r:Rw.Row} (hr:r∈T):C.isC r.1=true∧∀c∈r.2.2,C.isC c=true :=
 ⟨(h.ok.good r hr).1,fun c hc=>((h.ok.good r hr).2.2.2.2.2 c hc).1⟩
theorem zQM:∀c∈([65,97,768,4352,4449,4520,44032,44033]:List Int),C.isC c=true:=by decide
theorem zPb (A XA PA MA:Option Addr) (n c xn xc pn pc mn mc:Nat) (T0:List Rw.Row) (E0 P M:List Int) (ar:Nat) (w:World) (hn:T0.length=n) (hxn:E0.length=xn) (hpn:P.length=pn) (hmn:M.length=mn) (hnb:n≤maxLen) (hxb:xn≤maxLen) (hpb:pn≤maxLen) (hmb:mn≤maxLen) (fe:ar≤1000) (hbd:∀r∈T0,zEa r)
 (h2:Rw.SeesI w A T0) (hX:Sl w w.heap.size XA (E0.map (Value.int .i64))) (hP:Sl w w.heap.size PA (P.map (Value.int .i64))) (hM:Sl w w.heap.size MA (M.map (Value.int .i64))) (hL:Rw.Laid w) :
 Calls prog 13 #[.agg #[.slice A n c,.slice XA xn xc,.slice PA pn pc,.slice MA mn mc],.int .i64 ar] w (zL2 ar w):=by
 obtain⟨i0,ck,cr,di,b7⟩:=Z9 zG1
 have bn:Hy (∀W,Below w.heap.size w W→Calls prog 33 #[.agg #[.slice A n c,.slice XA xn xc]] W (zIm W)):=hy' fun W hW =>
  zM2 A XA n c xn xc T0 E0 W hn hxn hnb hxb hbd (h2.below hW) (hX.below hW hW.size) (hL.next hW)
 obtain⟨wa,dh⟩:∃wa,(w.alloc (.cells #[.slice A n c,.slice XA xn xc,.slice PA pn pc,.slice MA mn mc] 40)).alloc (.cells #[.slice none 0 0,.slice none 0 0] 38)=wa:=⟨_,rfl⟩;have b4:Below w.heap.size w wa:=by rw[←dh];exact ((Zd _ _).alloc (Za _) _).alloc (by simp) _
 have dm:Rw.At wa w.heap.size 40 [.slice A n c,.slice XA xn xc,.slice PA pn pc,.slice MA mn mc]:=by
  rw[←dh];exact (Rw.At.new w 40 [.slice A n c,.slice XA xn xc,.slice PA pn pc,.slice MA mn mc]).alloc _
 have b9:Rw.At wa (w.heap.size+1) 38 [.slice none 0 0,.slice none 0 0]:=by
  have:=Rw.At.new (w.alloc (.cells #[.slice A n c,.slice XA xn xc,.slice PA pn pc,.slice MA mn mc] 40)) 38 [.slice none 0 0,.slice none 0 0];rw[ZD]at this;rw[←dh];exact this
 have fk:=hy' dh;have dz:=hy' b4;have eu:=hy' dm;have cd:=hy' b9;have e8:=hy' hpn;have e1:=hy' hmn;have gw:=hy' (hP.below b4 b4.size);have fu:=hy' (hM.below b4 b4.size);have x0:=dm.cell 0 rfl;have x1:=dm.cell 1 rfl;have xl:=dm.lt;clear dh b4 dm b9 hn hxn hnb hxb hbd h2 hX hL hP hM hpn hmn;go_enter func13,ntmps13;go_upto_region 1 with (fail)
 rw[fk.o];go_wp2_with fail;refine (bn.o wa dz.o).mono ?_;rintro e w2 ⟨p,v2,T,E,S,rfl,ew,bz,hR,bb⟩;obtain⟨pb,rfl,gz⟩:=ew.form;obtain⟨A2,c2,XA2,xc2,rfl,eo⟩:=id bz;obtain⟨n2,ez⟩:∃k,T.length=k:=⟨_,rfl⟩;obtain⟨xn2,cx⟩:∃k,E.length=k:=⟨_,rfl⟩;rw[ez,cx]at bz ⊢;unfold zB8 at bz ⊢;obtain⟨w3,dp⟩:∃w3,w2.alloc (.cells #[.slice A2 n2 c2,.slice XA2 xn2 xc2] 38)=w3:=⟨_,rfl⟩;have bs:Below w2.heap.size w2 w3:=by rw[←dp];exact (Zd _ _).alloc (Za _) _
 have aa:Rw.At w3 w2.heap.size 38 [.slice A2 n2 c2,.slice XA2 xn2 xc2]:=by rw[←dp];exact Rw.At.new w2 38 [.slice A2 n2 c2,.slice XA2 xn2 xc2]
 have ch:=eu.o.below (bb.trans (bs.mono bb.size));have gf:=hy' dp;have dk:Below w.heap.size w w3:=dz.o.trans ((bb.trans (bs.mono bb.size)).mono dz.o.size);have cz:=hy' (bb.trans (bs.mono bb.size));have b2:=hy' dk;have hh:=hy' ch;have ap:=hy' (cd.o.below (bb.trans (bs.mono bb.size)));have bt:=hy' aa;have bh:=hy' (ew.below bs);have dt:=hy' (bz.below bs)
 have eg:Hy (Rw.SeesI w3 A2 T):=by
  obtain⟨A9,c9,X9,d9,he,gu,h4⟩:=bz.below bs;simp only[zB8,XO,Ql,Z7,ZX,Yl]at he;obtain⟨⟨rfl,_,rfl⟩,rfl,_,rfl⟩:=he;exact hy' gu
 have HR:=hy' hR;have fz:=hy' ez;have gx:n2≤20:=by have:=hR.tl;omega
 have gh:w.heap.size+1<w2.heap.size:=Zf cd.o.lt bb.size;clear x0 x1 bz eo bb bs aa ew dp dk ch hR ez cx bn fk;go_upto_region 2 with (fail)
 rw[gf.o]
 have af:(w3.alloc (.cells #[.int .i64 65,.int .i64 97,.int .i64 768,.int .i64 4352,.int .i64 4449,.int .i64 4520,.int .i64 44032,.int .i64 44033] 3)).ownsRow w3.heap.size 3 1 (.slice (some ⟨w3.heap.size,0,none⟩) 8 8) 8 (([65,97,768,4352,4449,4520,44032,44033]:List Int).map (Value.int .i64)) :=
  World.ownsRow_lit w3 #[.int .i64 65,.int .i64 97,.int .i64 768,.int .i64 4352,.int .i64 4449,.int .i64 4520,.int .i64 44032,.int .i64 44033] 8 (Za _) (by decide) rfl
 obtain⟨w4,dx⟩:∃w4,w3.alloc (.cells #[.int .i64 65,.int .i64 97,.int .i64 768,.int .i64 4352,.int .i64 4449,.int .i64 4520,.int .i64 44032,.int .i64 44033] 3)=w4:=⟨_,rfl⟩;have bf:Below w3.heap.size w3 w4:=by rw[←dx];exact (Zd _ _).alloc (Za _) _
 rw[dx]at af;have cq:=hy' af;have fy:=hy' bf;have hl:=hy' dx;have a1:=bt.o.below bf;have y0:=a1.cell 0 rfl;have yl:=a1.lt;clear dx af bf a1;go_upto_region 5 with (fail)
 rw[hl.o];go_wp2_with fail;clear y0 yl;go_loopw [10,29] (fun v6 i wr=>∃(j:Nat) (v:Value) (xs:List Int),j≤n2∧i=.int .i64 j∧v6=v∧wr.ownsRow w3.heap.size 3 1 v xs.length (xs.map (Value.int .i64))∧(∀x∈xs,C.isC x=true)∧(xs.length≤8+j*3∧0<xs.length)∧Below w3.heap.size w3 wr) (fun _ i _=>n2-(intOf i).toNat)
 case atStart=>exact⟨0,_,[65,97,768,4352,4449,4520,44032,44033],Zq _,rfl,rfl,cq.o,zQM,by simp,fy.o⟩
 obtain⟨j,h0,xs,hj,rfl,rfl,ak,hxb,ej,aj⟩:=hrel;have ba:Below w3.heap.size w3 wr:=aj;have ae:=hy' ak;have ec:=hy' hxb;have ah:=hy' aj
 by_cases hlt:j<n2
 · obtain⟨r,hr⟩:∃r,T[j]?=some r:=⟨_,Zb (by rw[fz.o];exact hlt)⟩;have e5:=Zj hr;have fc:=zQL HR.o e5;have gm:=(HR.o.rok r e5).2.2.1;have cj:=eg.o;obtain⟨b,o,a,gl,hb,fg,fj,fq,e9⟩:=cj.row hr;have c0:=((zAU ba).1 b (o+j*3) hb).trans fg;have c1:=((zAU ba).1 b (o+j*3+1) hb).trans fj;have c2:=((zAU ba).1 b (o+j*3+2) hb).trans fq;have hz:b<wr.heap.size:=Zf hb ba.size;obtain⟨ml,bu⟩:∃k,r.2.2.length=k:=⟨_,rfl⟩;rw[bu]at c2 gm;have jI:(j:Int)<n2:=by omega
   have ho:(0:Int)≤j:=by omega
   obtain⟨wb,dr⟩:∃wb,wr.alloc (.cells #[.int .i64 r.1,.int .i64 r.2.1,.slice a.1 ml a.2] 73)=wb:=⟨_,rfl⟩;have dn:Rw.At wb wr.heap.size 73 [.int .i64 r.1,.int .i64 r.2.1,.slice a.1 ml a.2]:=by rw[←dr];exact Rw.At.new wr 73 [.int .i64 r.1,.int .i64 r.2.1,.slice a.1 ml a.2]
   have dw:Below wr.heap.size wr wb:=by rw[←dr];exact (Zd _ _).alloc (Za _) _
   have gg:=hy' dr;have bg:=hy' dn;have du:=hy' dw;have cp:=hy' (zA6 ak dw (Za _));have e6:=hy' ((e9.below ba (Za _)).below (dw.mono ba.size) (Za _));have cy:=hy' bu;subst gl;clear fg fj fq e9 ba ak hxb aj hr e5 bu dr dn dw cj;go_upto_region 8 with (fail)
   rw[gg.o];refine Stg.wp_region (by kernel_rfl) (Stg.Keep (· = wr.heap.size)) (Stg.Keep.rel _) ?_;have e0:=Stg.Keep.cells (s:=(· = wr.heap.size)) (w:=wb.drew) (bg.o.cell 0 rfl) rfl;have e2:=Stg.Keep.cells (s:=(· = wr.heap.size)) (w:=wb.drew) (bg.o.cell 2 rfl) rfl
   (iterate 3 (refine Stg.read 0 (by kernel_rfl) wb.drew rfl ?_;intro K hK;go_big_quiet_op;go_big_quiet_on))
   refine Stg.stepW (by kernel_rfl) wb.drew rfl ?_;intro K hK;go_simp;obtain⟨wd,a6⟩:∃wd,(wb.alloc (.cells #[.int .i64 r.1] 3)).drew=wd:=⟨_,rfl⟩;have hbd:Below wb.heap.size wb wd:=by rw[←a6];exact ((Zd _ _).alloc (Za _) _).drew
   have df:wd.cell? ⟨wb.heap.size,0,none⟩=some (.int .i64 r.1):=by rw[←a6];exact (Rw.At.new wb 3 [.int .i64 r.1]).cell 0 rfl
   have aq:=zA6 cp.o hbd (Za _);have bc:=Zh ah.o.size (Zh du.o.size hbd.size);have a7:=bg.o.below hbd;refine hK _ _ (by rintro q rfl;rw[a6];exact a7.trans bg.o.symm) ?_;rw[a6];intro A' av;subst av;refine Stg.stepW (by kernel_rfl) wd rfl ?_;intro K hK;refine zL7 _ _ _ _ rfl w3.heap.size 3 i0 _ 8 underlying36 ck cr di b7 rfl _ xs.length _ rfl aq (.int .i64 r.1) rfl wb.heap.size rfl df (by simp only[maxLen];omega) (by omega) bc ?_;intro v9 w9 ao br dv;have aa:=a7.grown dv (fun e=>zAE aq (by decide) _ e _ _ a7);have fp:=(du.o.mono ah.o.size).trans ((hbd.mono (Zh ah.o.size du.o.size)).trans br);have cn:=e6.o.below ((hbd.mono (Zh ah.o.size du.o.size)).trans br) (Za _);refine hK _ _ (by rintro q rfl;exact aa.trans a7.symm) ?_;intro A' av;simp only[Act.put,Zm,ZA,Zx]at av;subst av
   (iterate 2 (refine Stg.read 2 (by kernel_rfl) wb.drew rfl ?_;intro K hK;go_big_quiet_op;go_big_quiet_on))
   refine Stg.stepW (by kernel_rfl) w9 rfl ?_;intro K hK;refine zG4 _ _ _ _ rfl w3.heap.size 3 i0 _ 1 8 underlying36 ck cr di b7 rfl (by decide) v9 (xs.length+1) _ rfl ao w3.heap.size a.1 ml _ (r.2.2.map (Value.int .i64)) rfl (by rw[Ze,cy.o];omega) cn (by intro u hu;obtain⟨y,_,rfl⟩:=List.mem_map.1 hu;rfl) (by simp only[maxLen];omega) (by omega) (Zh bc br.size) ?_;intro v10 fo az cw dl;have bo:=aa.grown dl (fun e=>zAE ao (by decide) _ e _ _ aa);refine hK _ _ (by rintro q rfl;exact bo.trans aa.symm) ?_;intro A' av;simp only[Act.put,Zm,ZA,Zx]at av;subst av;refine Stg.readW (by kernel_rfl) ?_;intro K hK;go_big_quiet_op;go_big_quiet_on;refine Stg.nil fo rfl ?_;have ei:(xs++[r.1]++r.2.2).length=xs.length+1+ml:=by simp[cy.o];omega
   have aw:fo.ownsRow w3.heap.size 3 1 v10 (xs++[r.1]++r.2.2).length ((xs++[r.1]++r.2.2).map (Value.int .i64)):=by
    rw[ei];simpa using az
   have en:=hy' aw;have ep:=hy' (ah.o.trans (fp.trans cw));have gi:=hy' ei;clear aw az ao aq bo aa a7 dl dv cw br cn fp hbd df a6 ei;go_wp2_with fail
   exact⟨⟨j+1,_,xs++[r.1]++r.2.2,by omega,by go_num,rfl,en.o,fun x hx=>by
    rcases List.mem_append.1 hx with hx|hx
    · rcases List.mem_append.1 hx with hx|hx
      · exact ec.o x hx
      rw[ZE]at hx;subst hx;exact fc.1
    exact fc.2 x hx,by rw[gi.o];omega,ep.o⟩,by simp[intOf];omega⟩
 obtain rfl:n2=j:=by omega
 have jI:¬(n2:Int)<n2:=by omega
 obtain⟨A9,c9,rfl⟩:=zA3 ak;obtain⟨w5,rfl⟩:∃w5:World,w5=wr:=⟨_,rfl⟩;obtain⟨xn,hxn⟩:∃k,xs.length=k:=⟨_,rfl⟩;rw[hxn]at ak ej ⊢;have b6:=hy' hxn;have gj:=hy' (Sl.of_own ak);have dy:=hy' (cz.o.trans (ba.mono cz.o.size));have ag:=hy' ba;have b8:=ej.2;have gq:xn≤1000:=by omega
 clear ak hxb aj ba hxn ej ae hj jI;go_upto_region 10 with (fail)
 go_upto_region 12 with (fail)
 go_loopw [13,14] (fun hk i wr=>∃(k:Nat) (sl:Value) (l:List Int),k≤pn∧k≤ar∧i=.int .i64 k∧hk=sl∧wr.ownsRow w5.heap.size 3 1 sl k (l.map (Value.int .i64))∧l.length=k∧(∀x∈l,C.isC x=true)∧Below w5.heap.size w5 wr) (fun _ i _=>ar-(intOf i).toNat)
 case atStart=>exact⟨0,_,[],Zq _,Zq _,rfl,rfl,ZG _ _ _ _,rfl,fun x hx=>absurd hx Xa,Zd _ _⟩
 obtain⟨k,sl,l,hkp,fm,rfl,rfl,ak,b1,fh,aj⟩:=hrel;have ae:=hy' ak;have dc:=hy' fh;have cm:=hy' b1;have ah:=hy' aj;have c8:=aj.size;have b3:=dy.o.trans (aj.mono dy.o.size);have bk:=eu.o.below b3;have x2:=bk.cell 2 rfl;have x3:=bk.cell 3 rfl;have xl:=bk.lt;have cb:=hy' (gj.o.below aj aj.size);have ed:=hy' (gw.o.below b3 b3.size);have gy:=hy' (fu.o.below b3 b3.size);clear ak fh b1 aj bk
 by_cases hp:k<pn
 rotate_left
 · have kP:¬(k:Int)<pn:=by omega
   obtain⟨ax,a8,rfl⟩:=zA3 ae.o;have ai:=ag.o.trans (ah.o.mono ag.o.size);have aa:=bt.o.below ai;have h5:=ap.o.below ai;have y0:=aa.cell 0 rfl;have y1:=aa.cell 1 rfl;have yl:=aa.lt;have k2:=h5.cell 0 rfl;have k3:=h5.cell 1 rfl;have k4:=h5.frozen 0;have k5:=h5.frozen 1;have kl:=h5.lt;have ey:=hy' (bh.o.below ai);have er:=hy' (dt.o.below ai);have H5:=hy' h5;have bi:=hy' (b2.o.trans (ai.mono b2.o.size));have bl:=hy' (zB0 ae.o (Zh b2.o.size ag.o.size))
   have hne:(Value.slice ax k a8).ownBlock=none∨(Value.slice ax k a8).ownBlock≠some (w.heap.size+1):=by
    cases hg:(Value.slice ax k a8).ownBlock with
    | none=>exact .inl rfl
    | some g =>
      refine .inr fun e=>?_
      obtain rfl:=Z6 e;have h1:=(own_at ae.o hg).1;have h2:=ag.o.size;have h3:=ap.o.lt;omega
   have ee:=hy' hne;have ea:=hy' (fun g (hg:(Value.slice ax k a8).ownBlock=some g)=>(own_at ae.o hg).1);clear ai aa h5 ae hne;go_upto_region 18 with (fail)
   go_region;go_wp2_with fail;have h1:=H5.o.set 0 (.slice A2 n2 c2);have h2:=h1.set 1 (.slice XA2 xn2 xc2);have cc:=(ey.o.setAt H5.o 0 (.slice A2 n2 c2)).setAt h1 1 (.slice XA2 xn2 xc2);have cg:=(er.o.setAt H5.o 0 (.slice A2 n2 c2)).setAt h1 1 (.slice XA2 xn2 xc2)
   have c6:Below w.heap.size w ((wr.setCell ⟨w.heap.size+1,0,none⟩ (.slice A2 n2 c2)).setCell ⟨w.heap.size+1,1,none⟩ (.slice XA2 xn2 xc2)) :=
    (bi.o.setCell (p:=⟨w.heap.size+1,0,none⟩) (ZZ _) _).setCell (p:=⟨w.heap.size+1,1,none⟩) (ZZ _) _
   have ef:wr.grownBy ((wr.setCell ⟨w.heap.size+1,0,none⟩ (.slice A2 n2 c2)).setCell ⟨w.heap.size+1,1,none⟩ (.slice XA2 xn2 xc2)) (some (w.heap.size+1)):=zA0 (Rw.grown_set _ _ _) (Rw.grown_set _ _ _);have au:=J3 bl.o ef ee.o;obtain⟨w6,c7⟩:∃w6,(wr.setCell ⟨w.heap.size+1,0,none⟩ (.slice A2 n2 c2)).setCell ⟨w.heap.size+1,1,none⟩ (.slice XA2 xn2 xc2)=w6:=⟨_,rfl⟩;rw[c7]at h2 cc cg c6 au ⊢;have bw:=ap.o.below ag.o;have cv:=bw.set 0 (.slice A2 n2 c2);have i5:=((bh.o.below ag.o).setAt bw 0 (.slice A2 n2 c2)).setAt cv 1 (.slice XA2 xn2 xc2);have d5:=((dt.o.below ag.o).setAt bw 0 (.slice A2 n2 c2)).setAt cv 1 (.slice XA2 xn2 xc2);have bj:=zM7 (zM7 ah.o ⟨w.heap.size+1,0,none⟩ (.slice A2 n2 c2)) ⟨w.heap.size+1,1,none⟩ (.slice XA2 xn2 xc2);rw[c7]at bj;obtain⟨w7,cu⟩:∃w7,(w5.setCell ⟨w.heap.size+1,0,none⟩ (.slice A2 n2 c2)).setCell ⟨w.heap.size+1,1,none⟩ (.slice XA2 xn2 xc2)=w7:=⟨_,rfl⟩;have ct:w7.heap.size=w5.heap.size:=by rw[←cu,ZP,ZP]
   rw[cu]at i5 d5 bj;refine YD (zJX rfl _ _ (w.heap.size+1) _ _ _ _ rfl (show w6.drew.heap[w.heap.size+1]?=_ from h2) underlying38 rfl (by kernel_rfl)) rfl ?_;have b1:=cm.o;subst b1
   exact⟨_,.agg #[.slice A2 n2 c2,.slice XA2 xn2 xc2],T,E,S,l,ax,a8,rfl,cc.below (Zd _ _).drew,cg.below (Zd _ _).drew,HR.o,zA6 au (Zd _ _).drew (Za _),dc.o,fm,(fun w'' hg=>by
    have cf:Below w7.heap.size w7 w'':=by
     rw[ct];exact bj.trans ((Zd _ _).drew.trans (zAj hg (by have:=bj.size;rw[ct]at this;exact this) fun q hq=>ea.o q hq))
    exact⟨i5.below cf,d5.below cf⟩),c6.drew⟩
 by_cases hm:k<ar
 rotate_left
 · have kP:(k:Int)<pn:=by omega
   have kM:¬(k:Int)<ar:=by omega
   obtain⟨ax,a8,rfl⟩:=zA3 ae.o;have ai:=ag.o.trans (ah.o.mono ag.o.size);have aa:=bt.o.below ai;have h5:=ap.o.below ai;have y0:=aa.cell 0 rfl;have y1:=aa.cell 1 rfl;have yl:=aa.lt;have k2:=h5.cell 0 rfl;have k3:=h5.cell 1 rfl;have k4:=h5.frozen 0;have k5:=h5.frozen 1;have kl:=h5.lt;have ey:=hy' (bh.o.below ai);have er:=hy' (dt.o.below ai);have H5:=hy' h5;have bi:=hy' (b2.o.trans (ai.mono b2.o.size));have bl:=hy' (zB0 ae.o (Zh b2.o.size ag.o.size))
   have hne:(Value.slice ax k a8).ownBlock=none∨(Value.slice ax k a8).ownBlock≠some (w.heap.size+1):=by
    cases hg:(Value.slice ax k a8).ownBlock with
    | none=>exact .inl rfl
    | some g =>
      refine .inr fun e=>?_
      obtain rfl:=Z6 e;have h1:=(own_at ae.o hg).1;have h2:=ag.o.size;have h3:=ap.o.lt;omega
   have ee:=hy' hne;have ea:=hy' (fun g (hg:(Value.slice ax k a8).ownBlock=some g)=>(own_at ae.o hg).1);clear ai aa h5 ae hne;go_upto_region 18 with (fail)
   go_region;go_wp2_with fail;have h1:=H5.o.set 0 (.slice A2 n2 c2);have h2:=h1.set 1 (.slice XA2 xn2 xc2);have cc:=(ey.o.setAt H5.o 0 (.slice A2 n2 c2)).setAt h1 1 (.slice XA2 xn2 xc2);have cg:=(er.o.setAt H5.o 0 (.slice A2 n2 c2)).setAt h1 1 (.slice XA2 xn2 xc2)
   have c6:Below w.heap.size w ((wr.setCell ⟨w.heap.size+1,0,none⟩ (.slice A2 n2 c2)).setCell ⟨w.heap.size+1,1,none⟩ (.slice XA2 xn2 xc2)) :=
    (bi.o.setCell (p:=⟨w.heap.size+1,0,none⟩) (ZZ _) _).setCell (p:=⟨w.heap.size+1,1,none⟩) (ZZ _) _
   have ef:wr.grownBy ((wr.setCell ⟨w.heap.size+1,0,none⟩ (.slice A2 n2 c2)).setCell ⟨w.heap.size+1,1,none⟩ (.slice XA2 xn2 xc2)) (some (w.heap.size+1)):=zA0 (Rw.grown_set _ _ _) (Rw.grown_set _ _ _);have au:=J3 bl.o ef ee.o;obtain⟨w6,c7⟩:∃w6,(wr.setCell ⟨w.heap.size+1,0,none⟩ (.slice A2 n2 c2)).setCell ⟨w.heap.size+1,1,none⟩ (.slice XA2 xn2 xc2)=w6:=⟨_,rfl⟩;rw[c7]at h2 cc cg c6 au ⊢;have bw:=ap.o.below ag.o;have cv:=bw.set 0 (.slice A2 n2 c2);have i5:=((bh.o.below ag.o).setAt bw 0 (.slice A2 n2 c2)).setAt cv 1 (.slice XA2 xn2 xc2);have d5:=((dt.o.below ag.o).setAt bw 0 (.slice A2 n2 c2)).setAt cv 1 (.slice XA2 xn2 xc2);have bj:=zM7 (zM7 ah.o ⟨w.heap.size+1,0,none⟩ (.slice A2 n2 c2)) ⟨w.heap.size+1,1,none⟩ (.slice XA2 xn2 xc2);rw[c7]at bj;obtain⟨w7,cu⟩:∃w7,(w5.setCell ⟨w.heap.size+1,0,none⟩ (.slice A2 n2 c2)).setCell ⟨w.heap.size+1,1,none⟩ (.slice XA2 xn2 xc2)=w7:=⟨_,rfl⟩;have ct:w7.heap.size=w5.heap.size:=by rw[←cu,ZP,ZP]
   rw[cu]at i5 d5 bj;refine YD (zJX rfl _ _ (w.heap.size+1) _ _ _ _ rfl (show w6.drew.heap[w.heap.size+1]?=_ from h2) underlying38 rfl (by kernel_rfl)) rfl ?_;have b1:=cm.o;subst b1
   exact⟨_,.agg #[.slice A2 n2 c2,.slice XA2 xn2 xc2],T,E,S,l,ax,a8,rfl,cc.below (Zd _ _).drew,cg.below (Zd _ _).drew,HR.o,zA6 au (Zd _ _).drew (Za _),dc.o,fm,(fun w'' hg=>by
    have cf:Below w7.heap.size w7 w'':=by
     rw[ct];exact bj.trans ((Zd _ _).drew.trans (zAj hg (by have:=bj.size;rw[ct]at this;exact this) fun q hq=>ea.o q hq))
    exact⟨i5.below cf,d5.below cf⟩),c6.drew⟩
 have kP:(k:Int)<pn:=by omega
 have kM:(k:Int)<ar:=by omega
 have k0:(0:Int)≤k:=by omega
 obtain⟨q,hq⟩:∃q,P[k]?=some q:=⟨_,Zb (by rw[e8.o];exact hp)⟩;obtain⟨h6,po,rfl,gp,fw⟩:=ed.o (by rw[Ze,e8.o];omega);have gb:=fw k (by rw[Ze,e8.o];exact hp);rw[Zt,hq,Zw]at gb;clear fw hq
 by_cases hq0:q<0
 rotate_left
 · obtain⟨jj,bq,ay⟩:=Tx.pick q b8 (show xn≤1000000 by omega);rw[QR (show 0≤q by omega)]at ay;obtain⟨y,hy⟩:∃y,xs[jj]?=some y:=⟨_,Zb (by rw[b6.o];exact bq)⟩;obtain⟨et,mo,rfl,bm,bp⟩:=cb.o (by rw[Ze,b6.o];omega);have b5:=bp jj (by rw[Ze,b6.o];exact bq);rw[Zt,hy,Zw]at b5;have jI:(jj:Int)<xn:=by omega
   have j0:(0:Int)≤jj:=by omega
   have mI:(0:Int)<xn:=by omega
   have m0:(xn:Int)≠0:=by omega
   have bx:=hy' (ec.o y (Zj hy));clear bp hy;go_wp2_with (at_builtin;refine zAg _ rfl _ _ _ rfl w5.heap.size 3 i0 _ 8 underlying36 ck cr di b7 rfl _ k _ rfl ae.o _ rfl rfl (by simp only[maxLen];omega) (by omega) c8 ?_;intro v1 w4 af bf;have bl:=hy' af;have bi:=hy' (ah.o.trans bf);clear af bf);refine⟨⟨k+1,_,l++[y],by omega,by omega,by go_num,rfl,?_,by rw[Zc,cm.o];rfl,?_,bi.o⟩,by simp[intOf];omega⟩
   · rw[ZL];exact bl.o
   intro x hx;rcases List.mem_append.1 hx with hx|hx
   · exact dc.o x hx
   rw[ZE]at hx;subst hx;exact bx.out
 by_cases hm0:0<mn
 rotate_left
 · have fx:mn=0:=by omega
   subst fx;obtain⟨jj,bq,ay⟩:=Tx.pick q b8 (show xn≤1000000 by omega);obtain⟨y,hy⟩:∃y,xs[jj]?=some y:=⟨_,Zb (by rw[b6.o];exact bq)⟩;obtain⟨et,mo,rfl,bm,bp⟩:=cb.o (by rw[Ze,b6.o];omega);have b5:=bp jj (by rw[Ze,b6.o];exact bq);rw[Zt,hy,Zw]at b5;have jI:(jj:Int)<xn:=by omega
   have j0:(0:Int)≤jj:=by omega
   have mI:(0:Int)<xn:=by omega
   have m0:(xn:Int)≠0:=by omega
   have bx:=hy' (ec.o y (Zj hy));clear bp hy;go_wp2_with (at_builtin;refine zAg _ rfl _ _ _ rfl w5.heap.size 3 i0 _ 8 underlying36 ck cr di b7 rfl _ k _ rfl ae.o _ rfl rfl (by simp only[maxLen];omega) (by omega) c8 ?_;intro v1 w4 af bf;have bl:=hy' af;have bi:=hy' (ah.o.trans bf);clear af bf);refine⟨⟨k+1,_,l++[y],by omega,by omega,by go_num,rfl,?_,by rw[Zc,cm.o];rfl,?_,bi.o⟩,by simp[intOf];omega⟩
   · rw[ZL];exact bl.o
   intro x hx;rcases List.mem_append.1 hx with hx|hx
   · exact dc.o x hx
   rw[ZE]at hx;subst hx;exact bx.out
 have mI:(0:Int)<mn:=by omega
 have mN:((mn:Int) == 0)=false:=by simp;omega
 have m0:(mn:Int)≠0:=by omega
 obtain⟨jj,bq,ay⟩:=zPa q hq0 hm0 hmb;obtain⟨y,hy⟩:∃y,M[jj]?=some y:=⟨_,Zb (by rw[e1.o];exact bq)⟩;obtain⟨et,mo,rfl,bm,bp⟩:=fu.o (by rw[Ze,e1.o];omega);have b5:=bp jj (by rw[Ze,e1.o];exact bq);rw[Zt,hy,Zw,←(zAU b3).1 _ _ bm]at b5;have eh:et<w5.heap.size:=Zf bm dy.o.size;have eb:w.heap.size<w5.heap.size:=Zf eu.o.lt dy.o.size;have jI:(jj:Int)<mn:=by omega
 have j0:(0:Int)≤jj:=by omega
 have bx:=zLK y;have gv:=zLL y;have ft:Hy (∀W,Calls prog 34 #[.int .i64 y] W fun e w'=>e=.returned (.int .i32 (zId y))∧W=w'):=hy' fun W=>Ch.char_any y W
 obtain⟨ky,e7⟩:∃ky,zId y=ky:=⟨_,rfl⟩;rw[e7]at bx gv;simp only[e7]at ft;have ek:IntKind.i64.wrap ky=ky:=by rw[Ya];omega
 clear bp hy e7;go_upto_region 16 with (fail)
 refine Stg.wp_region (by kernel_rfl) (Stg.Keep (· < w5.heap.size)) (Stg.Keep.rel _) ?_;have e3:=Stg.Keep.cells (s:=(· < w5.heap.size)) (w:=wr.drew) x3 eb;have em:=Stg.Keep.cells (s:=(· < w5.heap.size)) (w:=wr.drew) b5 eh
 (iterate 2 (refine Stg.readW (by kernel_rfl) ?_;intro K hK;go_big_quiet_op;go_big_quiet_on))
 refine Stg.read 0 (by kernel_rfl) wr.drew rfl ?_;intro K hK;go_big_quiet_op;go_big_quiet_on
 (iterate 2 (refine Stg.readW (by kernel_rfl) ?_;intro K hK;go_big_quiet_op;go_big_quiet_on))
 refine Stg.read 0 (by kernel_rfl) wr.drew rfl ?_;intro K hK;go_big_quiet_op;go_big_quiet_on
 (iterate 3 (refine Stg.readW (by kernel_rfl) ?_;intro K hK;go_big_quiet_op;go_big_quiet_on))
 refine Stg.read 0 (by kernel_rfl) wr.drew rfl ?_;intro K hK;go_big_quiet_op;go_big_quiet_on
 (iterate 3 (refine Stg.readW (by kernel_rfl) ?_;intro K hK;go_big_quiet_op;go_big_quiet_on))
 refine Stg.read 0 (by kernel_rfl) wr.drew rfl ?_;intro K hK;go_big_quiet_op;go_big_quiet_on
 (iterate 3 (refine Stg.readW (by kernel_rfl) ?_;intro K hK;go_big_quiet_op;go_big_quiet_on))
 refine Stg.read 0 (by kernel_rfl) wr.drew rfl ?_;intro K hK;go_big_quiet_op;go_big_quiet_on;refine Stg.call 34 _ _ rfl func34 [.int .i64 y] rfl wr.drew _ (ft.o _) (by kernel_rfl) rfl ?_;rintro e w' ⟨rfl,rfl⟩;refine⟨_,rfl,fun b hb=>rfl,?_⟩;intro A' av;simp only[Act.put,Zm,ZA,Zx]at av;subst av;refine Stg.readW (by kernel_rfl) ?_;intro K hK;go_big_quiet_op;go_big_quiet_on;refine Stg.stepW (by kernel_rfl) wr.drew rfl ?_;intro K hK;go_simp;obtain⟨wd,a6⟩:∃wd,(wr.alloc (.cells #[.int .i64 ky] 3)).drew=wd:=⟨_,rfl⟩;have hbd:Below wr.heap.size wr wd:=by rw[←a6];exact ((Zd _ _).alloc (Za _) _).drew
 have df:wd.cell? ⟨wr.heap.size,0,none⟩=some (.int .i64 ky):=by rw[←a6];exact (Rw.At.new wr 3 [.int .i64 ky]).cell 0 rfl
 have aq:=zA6 ae.o hbd (Za _);have bc:=Zh c8 hbd.size;refine hK _ _ (by rw[a6];exact fun b hb=>Stg.Keep.of_below (s:=(· < w5.heap.size)) (hbd.mono c8) (fun b hb=>hb) b hb) ?_;rw[a6];intro A' av;subst av;refine Stg.stepW (by kernel_rfl) wd rfl ?_;intro K hK;refine zL7 _ _ _ _ rfl w5.heap.size 3 i0 _ 8 underlying36 ck cr di b7 rfl _ k _ rfl aq (.int .i64 ky) rfl wr.heap.size rfl df (by simp only[maxLen];omega) (by omega) bc ?_;intro v9 w9 ao br dv;refine hK _ _ (Stg.Keep.of_below br fun b hb=>hb) ?_;intro A' av;simp only[Act.put,Zm,ZA,Zx]at av;subst av;refine Stg.readW (by kernel_rfl) ?_;intro K hK;go_big_quiet_op;go_big_quiet_on;refine Stg.nil w9 rfl ?_;have bl:=hy' ao;have bi:=hy' (ah.o.trans ((hbd.mono c8).trans br));have e4:=hy' bx;clear ao br dv aq df hbd a6 bx;go_wp2_with fail;refine⟨⟨k+1,_,l++[ky],by omega,by omega,by go_num,rfl,?_,by rw[Zc,cm.o];rfl,?_,bi.o⟩,by simp[intOf];omega⟩
 · rw[ZL];exact bl.o
 intro x hx;rcases List.mem_append.1 hx with hx|hx
 · exact dc.o x hx
 rw[ZE]at hx;subst hx;exact e4.out
structure Tx.In (A XA PA MA:Option Addr) (n c xn xc pn pc mn mc:Nat) (T0:List Rw.Row) (E0 P M:List Int) (w:World):Prop where
 hn:T0.length=n
 hxn:E0.length=xn
 hpn:P.length=pn
 hmn:M.length=mn
 hnb:n≤maxLen
 hxb:xn≤maxLen
 hpb:pn≤maxLen
 hmb:mn≤maxLen
 hbd:∀r∈T0,zEa r
 ht:Rw.SeesI w A T0
 hx:Sl w w.heap.size XA (E0.map (Value.int .i64))
 hp:Sl w w.heap.size PA (P.map (Value.int .i64))
 hm:Sl w w.heap.size MA (M.map (Value.int .i64))
theorem Tx.In.below {A XA PA MA:Option Addr} {n c xn xc pn pc mn mc:Nat} {T0:List Rw.Row} {E0 P M:List Int} {w w':World} (h:Tx.In A XA PA MA n c xn xc pn pc mn mc T0 E0 P M w) (hb:Below w.heap.size w w'):Tx.In A XA PA MA n c xn xc pn pc mn mc T0 E0 P M w' :=
 ⟨h.hn,h.hxn,h.hpn,h.hmn,h.hnb,h.hxb,h.hpb,h.hmb,h.hbd,h.ht.below hb,h.hx.below hb hb.size,h.hp.below hb hb.size,h.hm.below hb hb.size⟩
theorem zHF (A XA PA MA:Option Addr) (n c xn xc pn pc mn mc:Nat) (T0:List Rw.Row) (E0 P M:List Int) (aa:Nat) (w:World) (ae:aa≤1000) (h:Tx.In A XA PA MA n c xn xc pn pc mn mc T0 E0 P M w) (hL:Rw.Laid w) :
 Calls prog 13 #[.agg #[.slice A n c,.slice XA xn xc,.slice PA pn pc,.slice MA mn mc],.int .i64 aa] w (zL2 aa w) :=
 zPb A XA PA MA n c xn xc pn pc mn mc T0 E0 P M aa w h.hn h.hxn h.hpn h.hmn h.hnb h.hxb h.hpb h.hmb ae h.hbd h.ht h.hx h.hp h.hm hL
theorem Tx.isC_i32 {c:Int} (h:C.isC c=true) : -2147483648≤c∧c≤2147483647:=by have:=Ud.isC_bd h;omega
theorem Sl.dropN {w:World} {B:Nat} {b o:Nat} {xs:List Value} (h:Sl w B (some ⟨b,o,none⟩) xs) (k:Nat):Sl w B (some ⟨b,o+k,none⟩) (xs.drop k):=fun h0=>by
 rw[ZH]at h0;obtain⟨b',o',hA,hb,hc⟩:=h (by omega);cases hA
 refine⟨b,o+k,rfl,hb,fun i hi=>?_⟩;rw[ZH]at hi;rw[Yi,hc (k+i) (by omega),XI]
def Or.at0 (f:Int→Int) (l:List Int) (k:Nat):Prop:=k=l.length∨∃x,l[k]?=some x∧f x=0
theorem Or.at0.of {f:Int→Int} {l:List Int} {k:Nat} (h:Or.at0 f l k):Or.of f l=Or.of f (l.take k)++Or.of f (l.drop k):=by
 rcases h with rfl|⟨x,hx,h0⟩
 · rw[Q4,Kf];simp[Or.of,zBx]
 obtain⟨h1,h2⟩:=List.getElem?_eq_some_iff.1 hx;rw[ZJ h1,h2,←zMC (by omega),←h2,←ZJ h1,Zu]
end Go.Proofs.YtdbpjmfflofadaaGreatDoor
