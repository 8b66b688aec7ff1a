/- The layer extract's lines, by walking the text. -/
import Derived.Test.YtbeakahjbkdeiaaGreatDoorAl1
import Derived.Test.YtbeakahjbkdeiaaGreatDoorXtTable
import Derived.Test.YtbeakahjbkdeiaaGreatDoorPgReg
import Derived.BigQuiet
import Derived.Test.YtbeakahjbkdeiaaGreatDoorFiBits
import Derived.Test.YtbeakahjbkdeiaaGreatDoorMdOwn
import Derived.Test.YtbeakahjbkdeiaaGreatDoorRwOpen
import Derived.Test.YtbeakahjbkdeiaaGreatDoorFaCh
import Derived.Test.YtbeakahjbkdeiaaGreatDoorMdFull
set_option linter.unusedVariables false
set_option linter.unusedSimpArgs false
namespace Go.Proofs.YtbeakahjbkdeiaaGreatDoor
open Go.RowKit
set_option linter.unusedSimpArgs false
set_option linter.unusedVariables false
theorem Xt.kept_rel:Stg.Rel Bd.Kept:=⟨fun w t A xs _ _ h=>h,fun h1 h2 t A xs g1 g2 h=>h2 t A xs g1 g2 (h1 t A xs g1 g2 h)⟩
instance (w:World):Nonempty (Stg.Later Bd.Kept w):=⟨⟨w,Xt.kept_rel.refl w⟩⟩
theorem Xt.kept_below {w w':World} (h:Below w.heap.size w w'):Bd.Kept w w':=fun t A xs _ _ hs=>hs.below h
theorem Xt.kept_cell {W:World} {t:TypeId} {b o:Nat} {xs:List Value} (h:Slt W t (some ⟨b,o,none⟩) xs) (h1:t≠98) (h2:t≠5) {i:Nat} {v:Value} (hv:xs[i]?=some v):∀x:Stg.Later Bd.Kept W,x.val.cell? ⟨b,o+i,none⟩=some v:=fun x=>by
 have hi:=(List.getElem?_eq_some_iff.1 hv).1
 obtain⟨b',o',hA,_,hc⟩:=(x.rel t _ xs h1 h2 h).sl (by omega)
 simp only[Zg,YE,YG]at hA
 obtain⟨rfl,rfl⟩:=hA
 rw[hc i hi,hv]
def Xt.sp (j:Nat):List UInt8:=(Xt.spans.take (2*j)).flatMap fun x=>x++[10]
def Xt.mid (k j:Nat):List UInt8:=Rw.txt ((Xt.T.take k).take Xt.A.length)++(Xt.sp j++Rw.txt ((Xt.T.take k).drop Xt.A.length))
def Xt.jk (k:Nat):Nat:=if k≤Xt.A.length then 0 else 3
def Xt.fr (j:Nat):Int:=if j=0 then 44032 else if j=1 then 55296 else 57344
theorem Xt.len:Xt.T.length=121:=rfl
theorem Xt.mid_all:Xt.mid 121 3=Xt.text:=by
 unfold Xt.mid Xt.text
 rw[show Xt.T.take 121=Xt.T from Zj (by rw[Xt.len];exact Zb _)]
 unfold Xt.T
 rw[List.take_left,List.drop_left]
 rfl
theorem Xt.mid_row {k:Nat} {r:Rw.Row} (hr:Xt.T[k]?=some r):Xt.mid (k+1) (Xt.jk (k+1))=Xt.mid k (Xt.jk (k+1))++(Rw.line r++[10]):=by
 have hk:=(List.getElem?_eq_some_iff.1 hr).1
 have ht:Xt.T.take (k+1)=Xt.T.take k++[r]:=by rw[Zr,hr];rfl
 have hl:(Xt.T.take k).length=k:=by rw[Zm];omega
 unfold Xt.mid
 rw[ht]
 obtain⟨P,hP⟩:∃P,Xt.T.take k=P:=⟨_,rfl⟩
 rw[hP]at hl ⊢
 by_cases hka:k+1≤Xt.A.length
 · have e:Xt.jk (k+1)=0:=by unfold Xt.jk;rw[if_pos hka]
   rw[e,Zj (by rw[Zi,hl];exact hka),Yo (by rw[Zi,hl];exact hka),Zj (by rw[hl];omega),Yo (by rw[hl];omega),Rw.txt_app,Rw.txt_one]
   simp[Xt.sp,Rw.txt]
 · rw[List.take_append_of_le_length (by rw[hl];omega),List.drop_append_of_le_length (by rw[hl];omega),Rw.txt_app,Rw.txt_one]
   simp
theorem Xt.mid_sp (k j:Nat) (hk:k=Xt.A.length) (hj:j<3):∃x y,Xt.spans[2*j]?=some x∧Xt.spans[2*j+1]?=some y∧Xt.mid k (j+1)=Xt.mid k j++((x++[10])++(y++[10])):=by
 subst hk
 have hx:2*j+1<Xt.spans.length:=by show 2*j+1<6;omega
 refine⟨Xt.spans[2*j],Xt.spans[2*j+1],Zc _,Zc _,?_⟩
 have e:∀(L:List (List UInt8)) (n:Nat) (h:n+1<L.length),(L.take (n+1+1)).flatMap (fun x=>x++[10])=(L.take n).flatMap (fun x=>x++[10])++((L[n]++[10])++(L[n+1]++[10])):=by
  intro L n h
  have e2:L.take (n+1+1)=L.take n++([L[n]]++[L[n+1]]):=by
   rw[Yz h,Yz (by omega),ZN]
  rw[e2,Y0,Y0]
  simp
 unfold Xt.mid Xt.sp
 rw[Yo (by rw[Zm];exact Nat.min_le_left _ _),show 2*(j+1)=2*j+1+1 by omega,e _ _ hx]
 simp[Rw.txt]
theorem Xt.go_on (k j:Nat) {r:Rw.Row} (hr:Xt.T[k]?=some r) (h1:Xt.jk k≤j) (h2:j≤Xt.jk (k+1)):(j<Xt.jk (k+1)↔j<3∧Xt.fr j<r.1)∧(j<Xt.jk (k+1)→k=Xt.A.length):=by
 have hA:∀i:Fin Xt.A.length,(Xt.T.getD i.val (0,0,[])).1≤44032:=by decide +kernel
 have hB:(Xt.T.getD Xt.A.length (0,0,[])).1=63744:=by decide +kernel
 have hg:Xt.T.getD k (0,0,[])=r:=by rw[List.getD_eq_getElem?_getD,hr];rfl
 unfold Xt.jk at *
 rcases Nat.lt_trichotomy k Xt.A.length with h|h|h
 · have:=hA ⟨k,h⟩
   rw[hg]at this
   rw[Zv (by omega)]at h2
   rw[Zv (by omega)]
   obtain rfl:j=0:=by omega
   unfold Xt.fr
   rw[Zv rfl]
   exact⟨by omega,fun h=>by omega⟩
 · have aa:r.1=63744:=by rw[←hg,h];exact hB
   rw[Zs (by omega)]
   refine⟨⟨fun hj=>⟨hj,?_⟩,fun hj=>hj.1⟩,fun _=>h⟩
   rw[aa]
   unfold Xt.fr
   split
   · omega
   · split <;> omega
 · rw[Zs (by omega)]at h1
   rw[Zs (by omega)]at h2 ⊢
   exact⟨by omega,fun h=>by omega⟩
theorem Xt.sp_line (j:Nat) (hj:j<3):∃(c d:Nat) (nm:List UInt8) (x y:List UInt8),Xt.spCells[j*3]?=some (.int .i32 c)∧Xt.spCells[j*3+1]?=some (.int .i32 d)∧Xt.spCells[j*3+2]?=some (.string ⟨nm.toArray⟩)∧c≤1114111∧d≤1114111∧nm.length≤100∧(c:Int)=Xt.fr j ∧
 Xt.spans[2*j]?=some x∧Xt.spans[2*j+1]?=some y∧Xt.ln c nm [70,105,114,115,116]=x++[10]∧Xt.ln d nm [76,97,115,116]=y++[10]:=by
 match j,hj with
 | 0,_=>exact⟨44032,55203,Xt.n0,Xt.f0,Xt.l0,rfl,rfl,rfl,by decide,by decide,by decide,rfl,rfl,rfl,by decide +kernel,by decide +kernel⟩
 | 1,_=>exact⟨55296,56191,Xt.n1,Xt.f1,Xt.l1,rfl,rfl,rfl,by decide,by decide,by decide,rfl,rfl,rfl,by decide +kernel,by decide +kernel⟩
 | 2,_=>exact⟨57344,63743,Xt.n2,Xt.f2,Xt.l2,rfl,rfl,rfl,by decide,by decide,by decide,rfl,rfl,rfl,by decide +kernel,by decide +kernel⟩
theorem Xt.mid_len (k j:Nat) (hj:j≤3):(Xt.mid k j).length≤1000000:=by
 have hf:∀r∈Xt.T,Rw.right r:=fun r hr=>by
  unfold Xt.T at hr
  rcases List.mem_append.1 hr with h|h
  · exact (Xt.fineA r h).1
  · exact (Xt.fineB' r h).1
 have h1:=Rw.txt_len ((Xt.T.take k).take Xt.A.length) fun r hr=>hf r (Yn (Yn hr))
 have h2:=Rw.txt_len ((Xt.T.take k).drop Xt.A.length) fun r hr=>hf r (Yn (List.mem_of_mem_drop hr))
 have h3:(Xt.sp j).length≤1000:=by
  match j,hj with
  | 0,_=>decide +kernel
  | 1,_=>decide +kernel
  | 2,_=>decide +kernel
  | 3,_=>decide +kernel
 have h4:((Xt.T.take k).take Xt.A.length).length≤121:=by rw[Zm,Zm,Xt.len];omega
 have h5:((Xt.T.take k).drop Xt.A.length).length≤121:=by rw[ZL,Zm,Xt.len];omega
 unfold Xt.mid
 rw[Zi,Zi]
 omega
theorem Xt.tab_below {w w':World} {A:Option Addr} {rs:List Rw.Row} (h:Rw.Tab w A rs) (hb:Below w.heap.size w w'):Rw.Tab w' A rs:=by
 obtain⟨ads,hl,hs,hm⟩:=h
 exact⟨ads,hl,hs.below hb,hm.below hb⟩
theorem Xt.tab_kept {w w':World} {A:Option Addr} {rs:List Rw.Row} (h:Rw.Tab w A rs) (hk:Bd.Kept w w'):Rw.Tab w' A rs:=by
 obtain⟨ads,hl,hs,hm⟩:=h
 exact⟨ads,hl,hk _ _ _ (by decide) (by decide) hs,fun i r a h1 h2=>hk _ _ _ (by decide) (by decide) (hm i r a h1 h2)⟩
theorem Xt.tab_row {w:World} {A:Option Addr} {rs:List Rw.Row} (h:Rw.Tab w A rs) {i:Nat} {r:Rw.Row} (hr:rs[i]?=some r) :
 ∃(b o:Nat) (a:Option Addr × Nat),A=some ⟨b,o,none⟩∧b<w.heap.size∧w.cell? ⟨b,o+i*3,none⟩=some (.int .i32 r.1)∧w.cell? ⟨b,o+i*3+1,none⟩=some (.int .i64 r.2.1)∧w.cell? ⟨b,o+i*3+2,none⟩=some (.slice a.1 r.2.2.length a.2)∧Slt w 21 a.1 (r.2.2.map (Value.int .i32)):=by
 obtain⟨ads,hl,hs,hm⟩:=h
 have hi:=(List.getElem?_eq_some_iff.1 hr).1
 obtain⟨a,ha⟩:∃a,ads[i]?=some a:=⟨_,Zc (by omega)⟩
 obtain⟨b,o,rfl,hb,hc⟩:=hs.sl (by rw[Rw.fl_len _ _ hl];omega)
 obtain⟨g0,g1,g2⟩:=Rw.fl_get rs ads i r a hr ha
 have hlen:=Rw.fl_len rs ads hl
 refine⟨b,o,a,rfl,hb,?_,?_,?_,hm i r a hr ha⟩
 · rw[hc _ (by omega),g0]
 · rw[Yh,hc _ (by omega),g1]
 · rw[Yh,hc _ (by omega),g2]
theorem Xt.at_below {w w':World} {b D:Nat} {bs:List Value} (h:Bd.At w b D bs) (hb:Below w.heap.size w w'):Bd.At w' b D bs:=by
 obtain⟨p,v,h1,h2,h3⟩:=h
 exact⟨p,v,h1,h2.below hb,own_below h3 hb (Zb _)⟩
set_option maxRecDepth 100000 in
set_option maxHeartbeats 4000000 in
theorem Xt.rows_any (w:World) (hL:Rw.Laid w):Calls Tryz.prog 20 #[] w fun e w'=>e=.returned (.string ⟨Xt.text.toArray⟩)∧Below w.heap.size w w':=by
 obtain⟨wa,cq⟩:∃wa,w.alloc (.cells #[.pointer none,.slice none 0 0] 98)=wa:=⟨_,rfl⟩
 have ee:Below w.heap.size w wa:=by rw[←cq];exact (Zd _ _).alloc (Zb _) _
 have eb:Rw.At wa w.heap.size 98 [.pointer none,.slice none 0 0]:=by rw[←cq];exact Rw.At.new w 98 [.pointer none,.slice none 0 0]
 have e5:=Za cq
 have ea:=Za ee
 have fu:=Za eb
 have HL:=Za hL
 clear cq ee eb hL
 go_enter Tryz.func20,Tryz.ntmps20
 go_upto_region 2 with (fail)
 rw[e5.out]
 go_wp2_with fail
 refine (Xt.spans_any wa).mono ?_
 rintro e w1 ⟨rfl,b7,bi⟩
 have dc:Hid (Slt w1 105 (some ⟨wa.heap.size,0,none⟩) Xt.spCells):=Za fun _=>⟨wa.heap.size,0,_,rfl,b7,fun i _=>by simp⟩
 have cr:=Za bi
 clear b7 bi
 go_wp2_with fail
 refine (Xt.table_any w1).mono ?_
 rintro e w2 ⟨A2,c2,rfl,aj,cm⟩
 rw[Xt.len]
 have c7:=Za aj
 have ct:=Za (dc.out.below cm)
 have b2:=Za ((fu.out.below cr.out).below cm)
 have dz:=Za (ea.out.trans ((cr.out.trans (cm.mono cr.out.size)).mono ea.out.size))
 have bo:w.heap.size<w2.heap.size:=b2.out.lt
 clear aj cm
 go_wp2_with fail
 go_loopw [2,8] (fun v2 i wr=>∃(k:Nat) (A':Option Addr) (c':Nat),k≤121∧i=.int .i64 k∧v2=.slice A' (3-Xt.jk k) c'∧3-Xt.jk k≤c'∧(Xt.jk k<3→A'=some ⟨wa.heap.size,Xt.jk k*3,none⟩)∧Bd.At wr w.heap.size w2.heap.size (Lib.byteCells (Xt.mid k (Xt.jk k)))∧Rw.Tab wr A2 Xt.T∧Slt wr 105 (some ⟨wa.heap.size,0,none⟩) Xt.spCells∧Below w.heap.size w2 wr) (fun _ i _=>121-(intOf i).toNat)
 case atStart =>
  refine⟨0,_,3,Zz _,rfl,rfl,by decide,fun _=>rfl,?_,c7.out,ct.out,Zd _ _⟩
  exact⟨_,_,.inl rfl,b2.out,ZG _ _ _ _⟩
 case round =>
  obtain⟨k,A',c',hk,rfl,rfl,bw,af,av,aj,cw,aw⟩:=hrel
  obtain⟨w5,rfl⟩:∃w5:World,w5=wr:=⟨_,rfl⟩
  have ek:w2.heap.size≤w5.heap.size:=aw.size
  by_cases hlt:k<121
  · obtain⟨r,hr⟩:∃r,Xt.T[k]?=some r:=⟨_,Zc (by rw[Xt.len];exact hlt)⟩
    have dy:=fun j=>Xt.go_on k j hr
    have b1:=Xt.mid_row hr
    have fc:Rw.right r:=by
     have hm:=Zk hr
     unfold Xt.T at hm
     rcases List.mem_append.1 hm with h|h
     · exact (Xt.fineA r h).1
     · exact (Xt.fineB' r h).1
    obtain⟨f1,f2,f3,f4,f5,f6⟩:=fc
    obtain⟨b,o,a,er,hb,c0,c1,c2,ed⟩:=Xt.tab_row aj hr
    obtain⟨ml,bp⟩:∃q,r.2.2.length=q:=⟨_,rfl⟩
    rw[bp]at c2 f5
    have kI:(k:Int)<121:=by omega
    have k0:(0:Int)≤k:=by omega
    obtain⟨wb,cg⟩:∃wb,w5.alloc (.cells #[.int .i32 r.1,.int .i64 r.2.1,.slice a.1 ml a.2] 103)=wb:=⟨_,rfl⟩
    have bm:Below w5.heap.size w5 wb:=by rw[←cg];exact (Zd _ _).alloc (Zb _) _
    have dp:Slt wb 103 (some ⟨w5.heap.size,0,none⟩) [.int .i32 r.1,.int .i64 r.2.1,.slice a.1 ml a.2]:=fun _=>⟨w5.heap.size,0,_,rfl,by rw[←cg];exact ZT w5 _,fun i _=>by simp⟩
    have dr:=ed.below bm
    have fq:=Za cg
    have fk:=Za dp
    have e7:=Za dr
    have fp:=Za (Xt.tab_below aj bm)
    have ft:=Za (cw.below bm)
    have cy:=Za (Xt.at_below av bm)
    have e6:=Za (aw.trans (bm.mono (Zh (Z3 bo) ek)))
    have fz:w2.heap.size≤wb.heap.size:=Zh ek bm.size
    have ei:Xt.jk k≤Xt.jk (k+1):=by unfold Xt.jk;split <;> split <;> omega
    have ej:=Za dy
    have ec:=Za b1
    have b8:=Za bp
    have HJ:=Za ei
    have fe:=Za af
    have e9:=Za bw
    subst er
    clear dy b1 cg dp dr aj cw av bm aw ed bp ei hr af bw
    go_upto_region 6 with (fail)
    rw[fq.out]
    clear c0 c1 c2
    go_loopw [2] (fun v2 wi=>∃(j:Nat) (A':Option Addr) (c':Nat),Xt.jk k≤j∧j≤Xt.jk (k+1)∧v2=.slice A' (3-j) c'∧3-j≤c'∧(j<3→A'=some ⟨wa.heap.size,j*3,none⟩)∧Bd.At wi w.heap.size w2.heap.size (Lib.byteCells (Xt.mid k j))∧Rw.Tab wi (some ⟨b,o,none⟩) Xt.T∧Slt wi 105 (some ⟨wa.heap.size,0,none⟩) Xt.spCells ∧
     Slt wi 103 (some ⟨w5.heap.size,0,none⟩) [.int .i32 r.1,.int .i64 r.2.1,.slice a.1 ml a.2]∧Slt wi 21 a.1 (r.2.2.map (Value.int .i32))∧Below w.heap.size w2 wi∧wb.heap.size≤wi.heap.size) (fun v2 _=>match v2 with | .slice _ n _=>n|_=>0)
    case atStart=>exact⟨_,_,_,Zb _,HJ.out,rfl,e9.out,fe.out,cy.out,fp.out,ft.out,fk.out,e7.out,e6.out,Zb _⟩
    case round =>
     obtain⟨j,A',c',eu,et,rfl,bw,af,bt,au,ak,aq,bn,ai,e8⟩:=hrel
     obtain⟨wi,rfl⟩:∃wi:World,wi=wr:=⟨_,rfl⟩
     obtain⟨g1,g2⟩:=ej.out j eu et
     obtain⟨bb,ob,bj,a8,bx⟩:=aq.sl (by simp)
     simp only[Zg,YE,YG]at bj
     obtain⟨rfl,rfl⟩:=bj
     have r0:=bx 0 (by simp)
     have r1:=bx 1 (by simp)
     have r2:=bx 2 (by simp)
     simp only[YM,YB,Z2,YS]at r0 r1 r2
     obtain⟨m3,df⟩:∃m,3-j=m:=⟨_,rfl⟩
     rw[df]at bw ⊢
     have bs:=Za bt
     have a1:=Za au
     have bc:=Za ak
     have dh:=Za aq
     have b9:=Za bn
     have ar:=Za ai
     have bu:=Za (dz.out.trans ai)
     have ap:w2.heap.size≤wi.heap.size:=ai.size
     by_cases hon:j<Xt.jk (k+1)
     · obtain⟨cj,b6⟩:=g1.1 hon
       have di:=g2 hon
       obtain⟨x',y',dt,eg,br⟩:=Xt.mid_sp k j di cj
       obtain⟨c,d,nm,x,y,s0,s1,s2,hc,hd,ch,b4,hx,hy,dx,dn⟩:=Xt.sp_line j cj
       rw[dt]at hx
       rw[eg]at hy
       simp only[Zg]at hx hy
       subst hx;subst hy
       obtain rfl:=af cj
       rw[←dx,←dn]at br
       rw[←b4]at b6
       obtain⟨sb,so,bj,fx,bq⟩:=ak.sl (by decide)
       simp only[Zg,YE,YG]at bj
       obtain⟨rfl,rfl⟩:=bj
       have q0:=bq (j*3) (by show j*3<9;omega)
       have q1:=bq (j*3+1) (by show j*3+1<9;omega)
       have q2:=bq (j*3+2) (by show j*3+2<9;omega)
       rw[s0,Z2]at q0
       rw[s1,Z2]at q1
       rw[s2,Z2]at q2
       have mN:0<m3:=by omega
       have fy:=Za di
       have eo:=Za s0
       have fg:=Za s1
       have fo:=Za s2
       have dk:=Za br
       have en:nm.toArray.size≤100:=by simpa using ch
       clear bt au ak aq bn ai g1 g2 dt eg dx dn b4 bq bx s0 s1 s2 br di ej ec
       go_upto_region 6 with (fail)
       go_quiet (fail)
       go_upto_region 7 with (fail)
       obtain⟨wj,ay⟩:∃wj,wi.drewN nq=wj:=⟨_,rfl⟩
       have aa:Below wi.heap.size wi wj.drew:=by rw[←ay];exact (below_drewN (Zd _ wi) nq).drew
       rw[ay]
       clear ay
       have cv:=Za (bc.out.below aa)
       have c8:=Za (Xt.at_below bs.out aa)
       have bk:=Za (bu.out.trans (aa.mono bu.out.size))
       have e0:=Xt.kept_cell cv.out (by decide) (by decide) eo.out
       have e1:=Xt.kept_cell cv.out (by decide) (by decide) fg.out
       have e2:=Xt.kept_cell cv.out (by decide) (by decide) fo.out
       rw[Z2]at e0 e1 e2
       obtain⟨n1,cp⟩:∃y:ByteArray,⟨nm.toArray⟩=y:=⟨_,rfl⟩
       obtain⟨t1,cf⟩:∃y:ByteArray,⟨(Xt.ln c nm [70,105,114,115,116]).toArray⟩=y:=⟨_,rfl⟩
       obtain⟨t2,cn⟩:∃y:ByteArray,⟨(Xt.ln d nm [76,97,115,116]).toArray⟩=y:=⟨_,rfl⟩
       have ez:Hid (∀W,Below w.heap.size w W→Calls Tryz.prog 70 #[.agg #[.int .i32 c,.int .i32 d,.string n1],.int .i32 c,.string ⟨#[70,105,114,115,116]⟩] W fun e w'=>e=.returned (.string t1)∧Below W.heap.size W w'):=Za fun W hW=>by
        have:=Xt.line_any c d c nm [70,105,114,115,116] W hc ch (by decide) ((HL.out.next hW).1)
        rw[cp,cf]at this
        exact this
       have fj:Hid (∀W,Below w.heap.size w W→Calls Tryz.prog 70 #[.agg #[.int .i32 c,.int .i32 d,.string n1],.int .i32 d,.string ⟨#[76,97,115,116]⟩] W fun e w'=>e=.returned (.string t2)∧Below W.heap.size W w'):=Za fun W hW=>by
        have:=Xt.line_any c d d nm [76,97,115,116] W hd ch (by decide) ((HL.out.next hW).1)
        rw[cp,cn]at this
        exact this
       have fw:t1.size≤300:=by
        rw[←cf,Rw.ba_size]
        have:=Fi.text_le c hc
        unfold Xt.ln
        simp
        omega
       have fh:t2.size≤300:=by
        rw[←cn,Rw.ba_size]
        have:=Fi.text_le d hd
        unfold Xt.ln
        simp
        omega
       have ae:Lib.byteCells (Xt.mid k (j+1))=Lib.byteCells (Xt.mid k j)++Lib.strCells (t1++t2):=by
        rw[dk.out,←cf,←cn,Fi.ba_app]
        unfold Lib.byteCells Lib.strCells
        simp
       have ah:(Lib.byteCells (Xt.mid k j)).length+600≤140737488355328:=by
        have:(Lib.byteCells (Xt.mid k j)).length=(Xt.mid k j).length:=by unfold Lib.byteCells;simp
        have h2:=Xt.mid_len k j (by omega)
        omega
       have cd:=Za ae
       have bf:=Za ah
       have c1:¬9223372036854775807<t1.size+t2.size:=by omega
       rw[cp]at e2
       have ep:w2.heap.size≤wj.drew.heap.size:=Zh ap aa.size
       have a6:=Za aa
       clear cf cn cp ae ah aa
       refine Stg.wp_region Bd.Kept Xt.kept_rel (by kernel_rfl) (by kernel_rfl) (by kernel_rfl) ?_
       iterate 2 (refine Stg.readW (by kernel_rfl) (by kernel_rfl) (by kernel_rfl) ?_;intro K hK;go_big_quiet_op;go_big_quiet_on)
       refine Stg.read 0 (by kernel_rfl) (by kernel_rfl) (by kernel_rfl) wj.drew rfl (by kernel_rfl) ?_;intro K hK;go_big_quiet_op;go_big_quiet_on
       iterate 3 (refine Stg.readW (by kernel_rfl) (by kernel_rfl) (by kernel_rfl) ?_;intro K hK;go_big_quiet_op;go_big_quiet_on)
       refine Stg.read 0 (by kernel_rfl) (by kernel_rfl) (by kernel_rfl) wj.drew rfl (by kernel_rfl) ?_;intro K hK;go_big_quiet_op;go_big_quiet_on
       refine Stg.call 70 _ _ rfl (C.enter Tryz.func70 (by kernel_rfl) rfl) [.agg #[.int .i32 c,.int .i32 d,.string n1],.int .i32 c,.string ⟨#[70,105,114,115,116]⟩] rfl wj.drew _ (ez.out _ bk.out) (by kernel_rfl) rfl (by kernel_rfl) ?_
       rintro e q1 ⟨rfl,hb⟩;refine⟨_,rfl,Xt.kept_below hb,?_⟩;have ao:=Za hb;clear hb;intro A' af;simp only[Act.put,Zq,ZC,ZA]at af;subst af
       iterate 2 (refine Stg.readW (by kernel_rfl) (by kernel_rfl) (by kernel_rfl) ?_;intro K hK;go_big_quiet_op;go_big_quiet_on)
       refine Stg.read 1 (by kernel_rfl) (by kernel_rfl) (by kernel_rfl) wj.drew rfl (by kernel_rfl) ?_;intro K hK;go_big_quiet_op;go_big_quiet_on
       iterate 3 (refine Stg.readW (by kernel_rfl) (by kernel_rfl) (by kernel_rfl) ?_;intro K hK;go_big_quiet_op;go_big_quiet_on)
       refine Stg.read 1 (by kernel_rfl) (by kernel_rfl) (by kernel_rfl) wj.drew rfl (by kernel_rfl) ?_;intro K hK;go_big_quiet_op;go_big_quiet_on
       refine Stg.call 70 _ _ rfl (C.enter Tryz.func70 (by kernel_rfl) rfl) [.agg #[.int .i32 c,.int .i32 d,.string n1],.int .i32 d,.string ⟨#[76,97,115,116]⟩] rfl q1 _ (fj.out _ (bk.out.trans (ao.out.mono bk.out.size))) (by kernel_rfl) rfl (by kernel_rfl) ?_
       rintro e q2 ⟨rfl,hb⟩;refine⟨_,rfl,Xt.kept_below hb,?_⟩;have cb:=Za (ao.out.trans (hb.mono ao.out.size));clear hb;intro A' af;simp only[Act.put,Zq,ZC,ZA]at af;subst af
       refine Stg.readW (by kernel_rfl) (by kernel_rfl) (by kernel_rfl) ?_;intro K hK;go_big_quiet_op;go_big_quiet_on
       have cc:=Xt.at_below c8.out cb.out
       have ax:=Bd.write2 w.heap.size w2.heap.size _ (t1++t2) q2 bo (Zh ep cb.out.size) cc (by rw[ZQ];have:=bf.out;omega)
       rw[←cd.out]at ax
       refine Stg.call 69 _ _ rfl (C.enter Tryz.func69 (by kernel_rfl) rfl) [.pointer (some ⟨w.heap.size,0,none⟩),.string (t1++t2)] rfl q2 _ (ax) (by kernel_rfl) rfl (by kernel_rfl) ?_
       rintro e q3 ⟨rfl,ag,bg,ba⟩;refine⟨_,rfl,bg,?_⟩;intro A' af;simp only[Act.put,Zq,ZC,ZA]at af;subst af
       refine Stg.nil q3 rfl ?_
       have bh:Bd.Kept wi q3:=fun t A xs g1 g2 hs=>bg t A xs g1 g2 ((hs.below a6.out).below cb.out)
       have az:=Za ag
       have a7:=Za bh
       have b3:=Za (ar.out.trans (((a6.out.trans (cb.out.mono a6.out.size)).mono (Zh (Z3 bo) ap)).trans ba))
       have fm:wb.heap.size≤q3.heap.size:=Zh e8 (Zh (a6.out.trans (cb.out.mono a6.out.size)).size ba.size)
       clear ag bg ba bh cc ax e0 e1 e2
       go_wp2_with fail
       refine⟨⟨j+1,_,_,by omega,by omega,by rw[show 3-(j+1)=m3-1 by omega],by omega,fun hh=>?_,az.out,Xt.tab_kept a1.out a7.out,a7.out _ _ _ (by decide) (by decide) bc.out,a7.out _ _ _ (by decide) (by decide) dh.out,a7.out _ _ _ (by decide) (by decide) b9.out,b3.out,fm⟩,?_⟩
       · rw[Zs (by omega),show (j+1)*3=j*3+3 by omega]
       · show m3-1<m3
         omega
     · have bl:Xt.jk (k+1)=j:=by omega
       have b1:=ec.out
       rw[bl]at b1
       obtain⟨tx,ck⟩:∃y:ByteArray,⟨(Rw.line r).toArray⟩=y:=⟨_,rfl⟩
       have du:Hid (∀W,Below w.heap.size w W→Below wi.heap.size wi W→Calls Tryz.prog 71 #[.agg #[.int .i32 r.1,.int .i64 r.2.1,.slice a.1 ml a.2]] W fun e w'=>e=.returned (.string tx)∧Below W.heap.size W w'):=Za fun W hW hV=>by
        have:=Rw.pline_any r.1 r.2.1 a.1 r.2.2 ml a.2 W.heap.size W f1 f2 f3 f4 b8.out f5 f6 (Zb _) ((b9.out.below hV).sl) (HL.out.next hW)
        rw[show (r.1,r.2.1,r.2.2)=r from rfl,ck]at this
        exact this
       have fw:tx.size≤1000:=by
        rw[←ck,Rw.ba_size]
        exact Rw.line_len r ⟨f1,f2,f3,f4,by rw[b8.out];exact f5,f6⟩
       have ae:Lib.byteCells (Xt.mid (k+1) j)=Lib.byteCells (Xt.mid k j)++Lib.strCells (tx++⟨#[10]⟩):=by
        rw[b1,←ck,show (⟨#[10]⟩:ByteArray)=⟨[10].toArray⟩ from rfl,Fi.ba_app]
        unfold Lib.byteCells Lib.strCells
        simp
       have ah:(Lib.byteCells (Xt.mid k j)).length+2000≤140737488355328:=by
        have:(Lib.byteCells (Xt.mid k j)).length=(Xt.mid k j).length:=by unfold Lib.byteCells;simp
        have h2:=Xt.mid_len k j (by have:Xt.jk (k+1)≤3:=by { unfold Xt.jk;split <;> omega };omega)
        omega
       have cd:=Za ae
       have bf:=Za ah
       have eh:=Za bl
       have ew:=Za af
       have ef:=Za bw
       have bz:=Za df
       have s1:(⟨#[10]⟩:ByteArray).size=1:=rfl
       have c1:¬9223372036854775807<tx.size+(⟨#[10]⟩:ByteArray).size:=by omega
       have cj:j≤3:=by
        have:Xt.jk (k+1)≤3:=by { unfold Xt.jk;split <;> omega }
        omega
       have b6:=fun h=>fun h2=>hon (g1.2 ⟨h,h2⟩)
       clear ae ah ck b1 bt au bn ai g1 g2 bw df bl
       by_cases hj:j<3
       · obtain⟨c,d,nm,x,y,s0,_,_,hc,hd,ch,b4,_,_,_,_⟩:=Xt.sp_line j hj
         have e4:=b6 hj
         rw[←b4]at e4
         obtain⟨sb,so,bj,fx,bq⟩:=ak.sl (by decide)
         simp only[Zg,YE,YG]at bj
         obtain⟨rfl,rfl⟩:=bj
         have q0:=bq (j*3) (by show j*3<9;omega)
         rw[s0,Z2]at q0
         obtain rfl:=af hj
         have mN:0<m3:=by have:=bz.out;omega
         clear af b6 ak aq b4 bq s0 bx
         go_upto_region 6 with (fail)
         go_quiet (fail)
         obtain⟨wj,ay⟩:∃wj,wi.drewN nq=wj:=⟨_,rfl⟩
         have aa:Below wi.heap.size wi wj:=by rw[←ay];exact below_drewN (Zd _ wi) nq
         have c6:=((bcell aa).1 _ 0 a8).trans r0
         have cx:=((bcell aa).1 _ 1 a8).trans r1
         have cz:=((bcell aa).1 _ 2 a8).trans r2
         have cu:=Ze a8 aa.size
         have b5:=du.out wj (bu.out.trans (aa.mono bu.out.size)) aa
         have a6:=Za aa
         rw[ay]
         clear ay aa r0 r1 r2 a8
         go_wp2_with fail
         refine b5.mono ?_
         rintro e q1 ⟨rfl,bi⟩
         have ao:=Za (a6.out.trans (bi.mono a6.out.size))
         have ax:=Bd.write2 w.heap.size w2.heap.size _ (tx++⟨#[10]⟩) q1 bo (Zh ap ao.out.size) (Xt.at_below bs.out ao.out) (by rw[ZQ];have:=bf.out;omega)
         rw[←cd.out]at ax
         clear bi b5 c6 cx cz
         go_wp2_with fail
         refine ax.mono ?_
         rintro e q3 ⟨rfl,ag,bg,ba⟩
         have bh:Bd.Kept wi q3:=fun t A xs g1 g2 hs=>bg t A xs g1 g2 (hs.below ao.out)
         have az:=Za ag
         have a7:=Za bh
         have b3:=Za (ar.out.trans ((ao.out.mono (Zh (Z3 bo) ap)).trans ba))
         clear ag bg ba bh ax
         go_wp2_with fail
         have bl:=eh.out
         subst bl
         refine⟨⟨k+1,_,_,by omega,by go_num,by rw[bz.out],by rw[bz.out];exact ef.out,fun _=>rfl,az.out,Xt.tab_kept a1.out a7.out,a7.out _ _ _ (by decide) (by decide) bc.out,b3.out⟩,by simp[intOf];omega⟩
       · have mN:¬0<m3:=by have:=bz.out;omega
         obtain rfl:m3=0:=by omega
         clear af b6 ak aq bx
         go_upto_region 6 with (fail)
         go_quiet (fail)
         obtain⟨wj,ay⟩:∃wj,wi.drewN nq=wj:=⟨_,rfl⟩
         have aa:Below wi.heap.size wi wj:=by rw[←ay];exact below_drewN (Zd _ wi) nq
         have c6:=((bcell aa).1 _ 0 a8).trans r0
         have cx:=((bcell aa).1 _ 1 a8).trans r1
         have cz:=((bcell aa).1 _ 2 a8).trans r2
         have cu:=Ze a8 aa.size
         have b5:=du.out wj (bu.out.trans (aa.mono bu.out.size)) aa
         have a6:=Za aa
         rw[ay]
         clear ay aa r0 r1 r2 a8
         go_wp2_with fail
         refine b5.mono ?_
         rintro e q1 ⟨rfl,bi⟩
         have ao:=Za (a6.out.trans (bi.mono a6.out.size))
         have ax:=Bd.write2 w.heap.size w2.heap.size _ (tx++⟨#[10]⟩) q1 bo (Zh ap ao.out.size) (Xt.at_below bs.out ao.out) (by rw[ZQ];have:=bf.out;omega)
         rw[←cd.out]at ax
         clear bi b5 c6 cx cz
         go_wp2_with fail
         refine ax.mono ?_
         rintro e q3 ⟨rfl,ag,bg,ba⟩
         have bh:Bd.Kept wi q3:=fun t A xs g1 g2 hs=>bg t A xs g1 g2 (hs.below ao.out)
         have az:=Za ag
         have a7:=Za bh
         have b3:=Za (ar.out.trans ((ao.out.mono (Zh (Z3 bo) ap)).trans ba))
         clear ag bg ba bh ax
         go_wp2_with fail
         have bl:=eh.out
         subst bl
         refine⟨⟨k+1,_,_,by omega,by go_num,by rw[bz.out],by rw[bz.out];exact ef.out,ew.out,az.out,Xt.tab_kept a1.out a7.out,a7.out _ _ _ (by decide) (by decide) bc.out,b3.out⟩,by simp[intOf];omega⟩
  · obtain rfl:k=121:=by omega
    have kI:¬((121:Nat):Int)<121:=by omega
    have hj:Xt.jk 121=3:=rfl
    rw[hj,Xt.mid_all]at av
    have dw:Lib.IsBuilder 98 5 w.heap.size w.heap.size (Lib.byteCells Xt.text) w5:=by
     obtain⟨p,v,h1,h2,h3⟩:=av
     have h4:Lib.BuilderAt 98 5 w.heap.size w.heap.size p (Lib.byteCells Xt.text) w5:=⟨Zb _,v,h2,R.own_base h3 (by omega),Rw.own_ne h3 _ (by omega)⟩
     rcases h1 with rfl|rfl
     · exact .inl h4
     · exact .inr h4
    have dm:=Tryz.Builder_String_any w.heap.size w.heap.size Xt.text w5 dw (by omega)
    have HB:=Za (dz.out.trans aw)
    clear av cw aw dw aj af
    obtain⟨TX,dl⟩:∃y,Xt.text=y:=⟨_,rfl⟩
    rw[dl]at dm
    have e3:=Za dl
    clear dl
    go_wp2_with fail
    refine dm.mono ?_
    rintro e w4 ⟨rfl,dv⟩
    have ey:=Za (HB.out.trans dv)
    clear dv dm
    go_wp2_with fail
    go_ret
    rw[e3.out]
    exact⟨rfl,ey.out⟩
def Xt.S10:List Int:=[2392,2394,10972,10973,64285,64286,64287,64288,119134,119135]
theorem Xt.sl_ok:C.ok Xt.S10:=⟨by unfold C.srt Xt.S10;decide,by unfold Xt.S10;decide,by decide⟩
theorem Xt.sl_all:C.all1 (C.rngs Xt.S10)=Xt.X:=by decide +kernel
theorem Xt.s_eq:Xt.S=Xt.S10:=by
 have h:=C.chars_again Xt.sl_ok fun d hd=>by
  have h1:C.inR (C.rngs Xt.S10) d=true:=by rw[C.rngs_mem Xt.S10 Xt.sl_ok d];exact hd
  have h2:=(C.all1_mem _ d).2 h1
  rw[Xt.sl_all]at h2
  exact Xt.xC d h2
 rw[Xt.sl_all]at h
 exact h
set_option maxRecDepth 100000 in
theorem Xt.excl_any (w:World) (hL:Rw.Laid w):Calls Tryz.prog 23 #[] w fun e w'=>e=.returned (.string ⟨(Ex.btxt Xt.X).toArray⟩)∧Below w.heap.size w w':=by
 obtain⟨wa,ae⟩:∃wa,w.alloc (.cells #[.int .i32 2392,.int .i32 2393,.int .i32 10972,.int .i32 64285,.int .i32 64287,.int .i32 119134] 21)=wa:=⟨_,rfl⟩
 have aj:Below w.heap.size w wa:=by rw[←ae];exact (Zd _ _).alloc (Zb _) _
 have ah:Sl wa wa.heap.size (some ⟨w.heap.size,0,none⟩) (Xt.X.map (Value.int .i32)):=Sl.lit rfl 21 (0,0) (by rw[←ae];exact ZT w _)
 have hC:=C.chars_any (some ⟨w.heap.size,0,none⟩) 6 6 wa.heap.size Xt.X wa rfl (by decide) (Zb _) ah
 have ak:C.chars Xt.X=Xt.S10:=Xt.s_eq
 rw[ak]at hC
 have aq:=Za ae
 have ao:=Za aj
 have HL:=Za hL
 clear ae aj ah ak hL
 go_enter Tryz.func23,Tryz.ntmps23
 go_upto_region 1 with (fail)
 go_wp2_with (first|(go_at_call 75;rw[aq.out];refine hC.mono ?_;rintro e w1 ⟨A1,c1,rfl,aa,ai⟩;have HO:=Za (Slt.of_own aa);have af:=Za (ao.out.trans (ai.mono ao.out.size));clear aa ai)|(go_at_call 74;refine (Ex.text_any _ _ 10 Xt.S10 Xt.X _ rfl (by decide) Xt.sl_ok Xt.sl_all Xt.xC (by decide) HO.out (HL.out.next af.out).1).mono ?_;rintro e w2 ⟨rfl,ag⟩;have ap:=Za (af.out.trans (ag.mono af.out.size));clear ag)|fail)
 go_ret
 exact⟨rfl,ap.out⟩
theorem Xt.nilIs (v:Value) (w:World):(binOp .eql 35 .nilIface (.iface 160 v)).run Tryz.prog w=.ok (.bool false) w:=run_eql_iface_nil_left (P:=Tryz.prog) w 160 v Tryz.underlying35
set_option maxRecDepth 100000 in
theorem Xt.is_nil (b:Nat) (w:World):Calls Tryz.prog 58 #[.nilIface,.iface 160 (.pointer (some ⟨b,0,none⟩))] w fun e w'=>e=.returned (.bool false)∧w=w':=by
 have hn:=Xt.nilIs (.pointer (some ⟨b,0,none⟩))
 go_enter Tryz.func58,Tryz.ntmps58
 go_wp2_with fail
 go_ret
 exact⟨rfl,rfl⟩
set_option maxRecDepth 100000 in
set_option maxHeartbeats 2000000 in
theorem Xt.data_any (w:World) (hL:Rw.Laid w):Calls Tryz.prog 16 #[] w fun e w'=>∃p,e=.returned p∧Ud.Is w' p Xt.T Xt.S∧Below w.heap.size w w':=by
 have ar:=Za (Xt.rows_any w hL)
 have aq:=Za (fun W (hW:Below w.heap.size w W)=>Xt.excl_any W (hL.next hW))
 have ao:Hid (∀W,Below w.heap.size w W→Calls Tryz.prog 24 #[.string ⟨Xt.text.toArray⟩,.string ⟨(Ex.btxt Xt.X).toArray⟩] W (Ud.RetOf Xt.T Xt.S W)):=Za fun W hW =>
  Ud.load_any _ _ (by rw[Rw.ba_size];have:=Xt.text_len;omega) (by rw[Rw.ba_size];have:=Ex.btxt_len Xt.X (fun c hc=>Ud.isC_bd (Xt.xC c hc));have h2:Xt.X.length=6:=rfl;omega) Xt.T Xt.X Xt.parse Xt.parseX Xt.ok Xt.bd W (hL.next hW)
 obtain⟨s1,ae⟩:∃y:ByteArray,⟨Xt.text.toArray⟩=y:=⟨_,rfl⟩
 obtain⟨s2,ai⟩:∃y:ByteArray,⟨(Ex.btxt Xt.X).toArray⟩=y:=⟨_,rfl⟩
 rw[ae]at ar
 simp only[ai]at aq
 simp only[ae,ai]at ao
 clear ae ai hL
 go_enter Tryz.func16,Tryz.ntmps16
 go_wp2_with fail
 refine ar.out.mono ?_
 rintro e w1 ⟨rfl,ak⟩
 have ag:=Za ak
 clear ak
 go_wp2_with fail
 refine (aq.out w1 ag.out).mono ?_
 rintro e w2 ⟨rfl,aj⟩
 have af:=Za (ag.out.trans (aj.mono ag.out.size))
 clear aj
 go_wp2_with fail
 refine (ao.out w2 af.out).mono ?_
 rintro e w3 ⟨p,rfl,av,ap⟩
 have ay:=Za av
 have au:=Za (af.out.trans (ap.mono af.out.size))
 clear av ap
 go_wp2_with fail
 refine (F.of_any 8 w3).mono ?_
 rintro e w4 ⟨q,v,rfl,hq,ax,aa⟩
 rw[Zs (by decide)]at hq
 obtain⟨⟨b,c,n,s⟩,q',rfl⟩:∃x q',q=x::q':=by
  cases q with
  | nil=>simp[F.lk]at hq
  | cons x q'=>exact⟨x,q',rfl⟩
 obtain⟨rfl,_⟩:=ax
 have ah:=Za (ay.out.below aa)
 have aw:=Za (au.out.trans (aa.mono au.out.size))
 clear aa hq
 go_wp2_with fail
 refine (Xt.is_nil _ w4).mono ?_
 rintro e w5 ⟨rfl,rfl⟩
 go_wp2_with fail
 go_ret
 exact⟨_,rfl,ah.out,aw.out⟩
end Go.Proofs.YtbeakahjbkdeiaaGreatDoor
namespace Go.Proofs.YtbeakahjbkdeiaaGreatDoor
set_option linter.unusedSimpArgs false
set_option linter.unusedVariables false
def Ss.so (f:Int→Int) (l:List Int):Prop:=l.Pairwise fun x y=>f x≤f y
def Ss.eqv (f:Int→Int) (l l':List Int):Prop:=∀k,l'.filter (fun x=>decide (f x=k))=l.filter (fun x=>decide (f x=k))
theorem Ss.eqv.refl (f:Int→Int) (l:List Int):Ss.eqv f l l:=fun _=>rfl
theorem Ss.eqv.trans {f:Int→Int} {a b c:List Int} (h1:Ss.eqv f a b) (h2:Ss.eqv f b c):Ss.eqv f a c:=fun k=>(h2 k).trans (h1 k)
theorem Ss.eqv.symm {f:Int→Int} {a b:List Int} (h1:Ss.eqv f a b):Ss.eqv f b a:=fun k=>(h1 k).symm
theorem Ss.eqv.app {f:Int→Int} {a b a' b':List Int} (h1:Ss.eqv f a a') (h2:Ss.eqv f b b'):Ss.eqv f (a++b) (a'++b'):=fun k=>by
 rw[Z7,Z7,h1 k,h2 k]
theorem Ss.eqv.flip {f:Int→Int} {a b:List Int} (h:∀x∈a,∀y∈b,f x≠f y):Ss.eqv f (a++b) (b++a):=fun k=>by
 rw[Z7,Z7]
 by_cases ha:a.filter (fun x=>decide (f x=k))=[]
 · rw[ha,Yk,ZZ]
 · have hb:b.filter (fun x=>decide (f x=k))=[]:=by
    rw[List.filter_eq_nil_iff]
    intro y hy hk
    obtain⟨x,hx⟩:=List.exists_mem_of_ne_nil _ ha
    rw[List.mem_filter]at hx
    simp only[Zp]at hk hx
    exact h x hx.1 y hy (hx.2.trans hk.symm)
   rw[hb,Yk,ZZ]
theorem Ss.eqv.mem {f:Int→Int} {a b:List Int} (h:Ss.eqv f a b) (x:Int):x∈b↔x∈a:=by
 have:∀l:List Int,x∈l↔x∈l.filter (fun y=>decide (f y=f x)):=fun l=>by rw[List.mem_filter];simp
 rw[this a,this b,h (f x)]
theorem Ss.eqv.perm {f:Int→Int} {a b:List Int} (h:Ss.eqv f a b):b.Perm a:=by
 rw[List.perm_iff_count]
 intro x
 have hc:∀l:List Int,List.count x l=List.count x (l.filter (fun y=>decide (f y=f x))):=fun l=>(List.count_filter (by simp)).symm
 rw[hc a,hc b,h (f x)]
theorem Ss.eqv.length {f:Int→Int} {a b:List Int} (h:Ss.eqv f a b):b.length=a.length:=h.perm.length_eq
theorem Ss.so.app {f:Int→Int} {a b:List Int} (h1:Ss.so f a) (h2:Ss.so f b) (h:∀x∈a,∀y∈b,f x≤f y):Ss.so f (a++b):=List.pairwise_append.2 ⟨h1,h2,h⟩
theorem Ss.so.left {f:Int→Int} {a b:List Int} (h:Ss.so f (a++b)):Ss.so f a:=(List.pairwise_append.1 h).1
theorem Ss.so.right {f:Int→Int} {a b:List Int} (h:Ss.so f (a++b)):Ss.so f b:=(List.pairwise_append.1 h).2.1
theorem Ss.so.cross {f:Int→Int} {a b:List Int} (h:Ss.so f (a++b)):∀x∈a,∀y∈b,f x≤f y:=(List.pairwise_append.1 h).2.2
theorem Ss.unique {f:Int→Int}:∀{a b:List Int},Ss.so f a→Ss.so f b→Ss.eqv f a b→b=a
 | [],b,_,_,h=>ZI (by rw[h.length];rfl)
 | x::a,[],_,_,h=>by
   have:=h.length
   simp at this
 | x::a,y::b,ha,hb,h=>by
   unfold Ss.so at ha hb
   rw[Xk]at ha hb
   have hx:x∈y::b:=(h.mem x).2 Zw
   have hy:y∈x::a:=(h.mem y).1 Zw
   have h1:f y≤f x:=by
    rcases List.mem_cons.1 hx with e|e
    · rw[e];exact YL _
    · exact hb.1 x e
   have h2:f x≤f y:=by
    rcases List.mem_cons.1 hy with e|e
    · rw[e];exact YL _
    · exact ha.1 y e
   have hk:f x=f y:=by omega
   have h3:=h (f x)
   rw[Yj,Yj,Zv (by simp[hk]),Zv (by simp)]at h3
   have aa:y=x:=(List.cons.inj h3).1
   subst aa
   rw[Ss.unique ha.2 hb.2 fun k=>?_]
   have h4:=h k
   rw[Yj,Yj]at h4
   split at h4
   · exact (List.cons.inj h4).2
   · exact h4
theorem Ss.insert {f:Int→Int} {s g:List Int} {x:Int} (hs:Ss.so f (s++g)) (h1:∀y∈s,f y≤f x) (h2:∀y∈g,f x<f y):Ss.so f (s++x::g)∧Ss.eqv f (s++g++[x]) (s++x::g):=by
 refine⟨?_,?_⟩
 · refine hs.left.app ?_ ?_
   · exact List.pairwise_cons.2 ⟨fun y hy=>Int.le_of_lt (h2 y hy),hs.right⟩
   · intro y hy z hz
     rcases List.mem_cons.1 hz with rfl|hz
     · exact h1 y hy
     · exact hs.cross y hy z hz
 · rw[ZN]
   refine (Ss.eqv.refl f s).app ?_
   exact Ss.eqv.flip (a:=g) (b:=[x]) fun y hy z hz=>by
    rw[Zy]at hz
    have:=h2 y hy
    rw[hz]
    omega
theorem Ss.halves {f:Int→Int} {a1 a2 b1 b2 c1 c2:List Int} (ha:Ss.so f (a1++a2)) (hb:Ss.so f (b1++b2)) (h1:∀x∈b1,∀y∈a2,f x<f y) (h2:∀x∈a1,∀y∈b2,f x≤f y)
 (s1:Ss.so f c1) (e1:Ss.eqv f (a1++b1) c1) (s2:Ss.so f c2) (e2:Ss.eqv f (a2++b2) c2):Ss.so f (c1++c2)∧Ss.eqv f ((a1++a2)++(b1++b2)) (c1++c2):=by
 refine⟨s1.app s2 fun x hx y hy=>?_,?_⟩
 · rcases List.mem_append.1 ((e1.mem x).1 hx) with hx|hx <;> rcases List.mem_append.1 ((e2.mem y).1 hy) with hy|hy
   · exact ha.cross x hx y hy
   · exact h2 x hx y hy
   · exact Int.le_of_lt (h1 x hx y hy)
   · exact hb.cross x hx y hy
 · have g1:Ss.eqv f ((a1++a2)++(b1++b2)) ((a1++b1)++(a2++b2)):=by
    rw[ZN,ZN]
    refine (Ss.eqv.refl f a1).app ?_
    rw[←ZN,←ZN]
    refine Ss.eqv.app ?_ (Ss.eqv.refl f b2)
    exact Ss.eqv.flip fun x hx y hy=>by have:=h1 y hy x hx;omega
   exact g1.trans (e1.app e2)
theorem Ss.merge_left {f:Int→Int} {x:Int} {b1 b2:List Int} (hb:Ss.so f (b1++b2)) (h1:∀y∈b1,f y<f x) (h2:∀y∈b2,f x≤f y):Ss.so f (b1++x::b2)∧Ss.eqv f (x::(b1++b2)) (b1++x::b2):=by
 refine⟨?_,?_⟩
 · refine hb.left.app (List.pairwise_cons.2 ⟨h2,hb.right⟩) ?_
   intro y hy z hz
   rcases List.mem_cons.1 hz with rfl|hz
   · exact Int.le_of_lt (h1 y hy)
   · exact hb.cross y hy z hz
 · have:Ss.eqv f ([x]++b1) (b1++[x]):=Ss.eqv.flip fun y hy z hz=>by
    rw[Zy]at hy
    have:=h1 z hz
    rw[hy]
    omega
   have h:=this.app (Ss.eqv.refl f b2)
   simpa using h
theorem Ss.so.get {f:Int→Int} {l:List Int} (h:Ss.so f l) {i j:Nat} {x y:Int} (hi:l[i]?=some x) (hj:l[j]?=some y) (hij:i≤j):f x≤f y:=by
 obtain⟨a1,b1⟩:=List.getElem?_eq_some_iff.1 hi
 obtain⟨a2,b2⟩:=List.getElem?_eq_some_iff.1 hj
 rcases ZY i j with hl|hl
 · have:=List.pairwise_iff_getElem.1 h i j a1 a2 hl
   rw[b1,b2]at this
   exact this
 · have:i=j:=by omega
   subst this
   rw[hi]at hj
   cases hj
   exact YL _
theorem Ss.mem_take {l:List Int} {n:Nat} {x:Int} (h:x∈l.take n):∃i,i<n∧l[i]?=some x:=by
 obtain⟨i,hi⟩:=List.mem_iff_getElem?.1 h
 rw[Ys]at hi
 split at hi
 · rename_i h1;exact⟨i,h1,hi⟩
 · cases hi
theorem Ss.mem_drop {l:List Int} {n:Nat} {x:Int} (h:x∈l.drop n):∃i,n≤i∧l[i]?=some x:=by
 obtain⟨i,hi⟩:=List.mem_iff_getElem?.1 h
 rw[Xm]at hi
 exact⟨n+i,by omega,hi⟩
theorem Ss.sym {f:Int→Int} {A B:List Int} {s j:Nat} (hs:s≤A.length) (hj:j≤B.length) (hA:Ss.so f A) (hB:Ss.so f B) (P1:∀x y,A[s]?=some x→0<j→B[j-1]?=some y→f y<f x) (P2:∀x y,0<s→A[s-1]?=some x→B[j]?=some y→f x≤f y) :
 (∀x∈B.take j,∀y∈A.drop s,f x<f y)∧(∀x∈A.take s,∀y∈B.drop j,f x≤f y):=by
 refine⟨fun x hx y hy=>?_,fun x hx y hy=>?_⟩
 · obtain⟨i,hi,aa⟩:=Ss.mem_take hx
   obtain⟨k,hk,ae⟩:=Ss.mem_drop hy
   have af:=(List.getElem?_eq_some_iff.1 ae).1
   have ag:=(List.getElem?_eq_some_iff.1 aa).1
   obtain⟨u,hu⟩:∃u,A[s]?=some u:=⟨_,Zc (by omega)⟩
   obtain⟨v,hv⟩:∃v,B[j-1]?=some v:=⟨_,Zc (by omega)⟩
   have h1:=P1 u v hu (by omega) hv
   have h2:=hA.get hu ae hk
   have h3:=hB.get aa hv (by omega)
   omega
 · obtain⟨i,hi,aa⟩:=Ss.mem_take hx
   obtain⟨k,hk,ae⟩:=Ss.mem_drop hy
   have af:=(List.getElem?_eq_some_iff.1 ae).1
   have ag:=(List.getElem?_eq_some_iff.1 aa).1
   obtain⟨v,hv⟩:∃v,B[j]?=some v:=⟨_,Zc (by omega)⟩
   obtain⟨u,hu⟩:∃u,A[s-1]?=some u:=⟨_,Zc (by omega)⟩
   have h1:=P2 u v (by omega) hu hv
   have h2:=hA.get aa hu (by omega)
   have h3:=hB.get hv ae hk
   omega
theorem Ss.swap2 (P M Q:List Int) (x y:Int):((P++x::(M++y::Q)).set P.length y).set (P.length+1+M.length) x=P++y::(M++x::Q):=by
 rw[Yx _ _ (Zb _),Yu,ZA,Yx _ _ (by omega),show P.length+1+M.length-P.length=M.length+1 by omega,ZC,Yx _ _ (Zb _),Yu,ZA]
theorem Ss.swap2' (P M Q:List Int) (x y:Int):((P++x::(M++y::Q)).set (P.length+1+M.length) x).set P.length y=P++y::(M++x::Q):=by
 rw[List.set_comm _ _ (by omega),Ss.swap2]
theorem Ss.get_first (P R:List Int) (x:Int):(P++x::R)[P.length]?=some x:=by simp
theorem Ss.get_second (P M Q:List Int) (x y:Int):(P++x::(M++y::Q))[P.length+1+M.length]?=some y:=by
 rw[ZF (by omega),show P.length+1+M.length-P.length=M.length+1 by omega,YB,ZF (Zb _),Yu]
 rfl
def Ss.mid (P X M Y Q:List Int) (t:Nat):List Int:=P++((Y.take t++X.drop t)++(M++((X.take t++Y.drop t)++Q)))
theorem Ss.mid_zero (P X M Y Q:List Int):Ss.mid P X M Y Q 0=P++(X++(M++(Y++Q))):=by unfold Ss.mid;simp
theorem Ss.mid_all {P X M Y Q:List Int} {n:Nat} (hX:X.length=n) (hY:Y.length=n):Ss.mid P X M Y Q n=P++(Y++(M++(X++Q))):=by
 unfold Ss.mid
 rw[Zj (by omega),Zj (by omega),Yo (by omega),Yo (by omega)]
 simp
theorem Ss.mid_step {P X M Y Q:List Int} {t:Nat} {x y:Int} (hx:X[t]?=some x) (hy:Y[t]?=some y) :
 Ss.mid P X M Y Q t=(P++Y.take t)++x::((X.drop (t+1)++(M++X.take t))++y::(Y.drop (t+1)++Q))∧Ss.mid P X M Y Q (t+1)=(P++Y.take t)++y::((X.drop (t+1)++(M++X.take t))++x::(Y.drop (t+1)++Q)):=by
 obtain⟨a1,b1⟩:=List.getElem?_eq_some_iff.1 hx
 obtain⟨a2,b2⟩:=List.getElem?_eq_some_iff.1 hy
 have e1:X.drop t=x::X.drop (t+1):=by rw[ZS a1,b1]
 have e2:Y.drop t=y::Y.drop (t+1):=by rw[ZS a2,b2]
 have e3:X.take (t+1)=X.take t++[x]:=by rw[Zr,hx];rfl
 have e4:Y.take (t+1)=Y.take t++[y]:=by rw[Zr,hy];rfl
 unfold Ss.mid
 rw[e1,e2,e3,e4]
 simp
theorem Ss.mid_len {X M Y:List Int} {P:List Int} {t n:Nat} (hX:X.length=n) (hY:Y.length=n) (ht:t<n):(P++Y.take t).length=P.length+t∧(P++Y.take t).length+1+(X.drop (t+1)++(M++X.take t)).length=P.length+n+M.length+t:=by
 simp
 omega
def Ss.chk (f:Int→Int) (bs:Nat) (l:List Int):Prop:=∀i,Ss.so f ((l.drop (i*bs)).take bs)
theorem Ss.chk_nil (f:Int→Int) (bs:Nat):Ss.chk f bs []:=fun i=>by simp[Ss.so]
theorem Ss.chk_snoc {f:Int→Int} {bs k:Nat} {l c:List Int} (hl:l.length=k*bs) (h:Ss.chk f bs l) (hc:Ss.so f c) (aa:c.length≤bs):Ss.chk f bs (l++c):=by
 intro i
 rcases Nat.lt_trichotomy i k with hi|hi|hi
 · have h1:(i+1)*bs≤k*bs:=Nat.mul_le_mul_right _ hi
   rw[Nat.add_mul,Nat.one_mul]at h1
   rw[List.drop_append_of_le_length (by omega),List.take_append_of_le_length (by rw[ZL];omega)]
   exact h i
 · subst hi
   rw[←hl,List.drop_left,Zj aa]
   exact hc
 · have h1:(k+1)*bs≤i*bs:=Nat.mul_le_mul_right _ hi
   rw[Nat.add_mul,Nat.one_mul]at h1
   rw[Yo (by rw[Zi];omega)]
   simp[Ss.so]
theorem Ss.chk_all {f:Int→Int} {bs:Nat} {l:List Int} (h:Ss.chk f bs l) (hl:l.length≤bs):Ss.so f l:=by
 have:=h 0
 rw[Nat.zero_mul,List.drop_zero,Zj hl]at this
 exact this
theorem Ss.so_nil (f:Int→Int):Ss.so f []:=List.Pairwise.nil
theorem Ss.so_one (f:Int→Int) (x:Int):Ss.so f [x]:=by simp[Ss.so]
inductive Or.R (f:Int→Int):List Int→List Int→Prop
 | run {a b:List Int}:(∀x∈a,0<f x)→Ss.so f b→Ss.eqv f a b→Or.R f a b
 | cons {a b l m:List Int} {c:Int}:(∀x∈a,0<f x)→Ss.so f b→Ss.eqv f a b→¬0<f c→Or.R f l m→Or.R f (a++c::l) (b++c::m)
theorem Or.split {f:Int→Int}:∀{a a':List Int} {l l':List Int} {c c':Int},(∀x∈a,0<f x)→(∀x∈a',0<f x)→¬0<f c→¬0<f c'→a++c::l=a'++c'::l'→a=a'∧c=c'∧l=l'
 | [],[],l,l',c,c',_,_,_,_,h=>by
   simp at h
   exact⟨rfl,h.1,h.2⟩
 | [],y::a',l,l',c,c',_,h2,h3,_,h=>by
   simp at h
   exact absurd (h.1▸h2 y Zw) h3
 | x::a,[],l,l',c,c',h1,_,_,h4,h=>by
   simp at h
   exact absurd (h.1▸h1 x Zw) h4
 | x::a,y::a',l,l',c,c',h1,h2,h3,h4,h=>by
   simp only[ZP,Yc]at h
   obtain⟨rfl,h5⟩:=h
   obtain⟨g1,g2,g3⟩:=Or.split (fun z hz=>h1 z (ZB _ hz)) (fun z hz=>h2 z (ZB _ hz)) h3 h4 h5
   exact⟨by rw[g1],g2,g3⟩
theorem Or.R.unique {f:Int→Int} {l m:List Int} (h:Or.R f l m):∀{m':List Int},Or.R f l m'→m'=m:=by
 induction h with
 | @run a b h1 h2 h3 =>
   intro m' h'
   generalize he:a=a0 at h'
   cases h' with
   | run g1 g2 g3=>subst he;exact Ss.unique h2 g2 (h3.symm.trans g3)
   | @cons a' b' l' m'' c' g1 g2 g3 g4 g5 =>
     exact absurd (h1 c' (by rw[he];simp)) g4
 | @cons a b l m c h1 h2 h3 h4 h5 ih =>
   intro m' h'
   generalize he:a++c::l=a0 at h'
   cases h' with
   | run g1 g2 g3=>exact absurd (g1 c (by rw[←he];simp)) h4
   | @cons a' b' l' m'' c' g1 g2 g3 g4 g5 =>
     obtain⟨rfl,rfl,rfl⟩:=Or.split h1 g1 h4 g4 he
     rw[ih g5,Ss.unique h2 g2 (h3.symm.trans g3)]
inductive Or.Pre (f:Int→Int):List Int→List Int→Prop
 | nil:Or.Pre f [] []
 | snoc {p q a b:List Int} {c:Int}:Or.Pre f p q→(∀x∈a,0<f x)→Ss.so f b→Ss.eqv f a b→¬0<f c→Or.Pre f (p++(a++[c])) (q++(b++[c]))
theorem Or.Pre.app {f:Int→Int} {p q:List Int} (h:Or.Pre f p q):∀{l m:List Int},Or.R f l m→Or.R f (p++l) (q++m):=by
 induction h with
 | nil=>intro l m hr;exact hr
 | @snoc p q a b c h1 h2 h3 h4 h5 ih =>
   intro l m hr
   have:=ih (Or.R.cons h2 h3 h4 h5 hr)
   simpa using this
theorem Or.Pre.length {f:Int→Int} {p q:List Int} (h:Or.Pre f p q):q.length=p.length:=by
 induction h with
 | nil=>rfl
 | snoc h1 h2 h3 h4 h5 ih=>simp[ih,h4.length]
theorem Or.R.length {f:Int→Int} {l m:List Int} (h:Or.R f l m):m.length=l.length:=by
 induction h with
 | run h1 h2 h3=>exact h3.length
 | cons h1 h2 h3 h4 h5 ih=>simp[ih,h3.length]
theorem Or.R.mem {f:Int→Int} {l m:List Int} (h:Or.R f l m) (x:Int):x∈m↔x∈l:=by
 induction h with
 | run h1 h2 h3=>exact h3.mem x
 | cons h1 h2 h3 h4 h5 ih=>simp[ih,h3.mem x]
def Or.go (f:Int→Int):Int→List Int→List Int
 | x,[]=>[x]
 | x,y::l=>if 0<f y∧f y<f x then y::Or.go f x l else x::Or.go f y l
def Or.pass (f:Int→Int):List Int→List Int
 | []=>[]
 | x::l=>Or.go f x l
def Or.iter (f:Int→Int):Nat→List Int→List Int
 | 0,l=>l
 | n+1,l=>Or.iter f n (Or.pass f l)
theorem Or.go_zero {f:Int→Int} {c:Int} (hc:¬0<f c):∀(l:List Int),Or.go f c l=c::Or.pass f l
 | []=>rfl
 | y::l=>by
   unfold Or.go Or.pass
   rw[Zs (by omega)]
theorem Or.go_stop {f:Int→Int} {c:Int} (hc:¬0<f c):∀(a:List Int) (x:Int) (l:List Int),Or.go f x (a++c::l)=Or.go f x a++c::Or.pass f l
 | [],x,l=>by
   rw[ZZ]
   show (if 0<f c∧f c<f x then _ else x::Or.go f c l)=_
   rw[Zs (fun h=>hc h.1),Or.go_zero hc]
   rfl
 | y::a,x,l=>by
   rw[ZP]
   show (if 0<f y∧f y<f x then y::Or.go f x (a++c::l) else x::Or.go f y (a++c::l))=(if 0<f y∧f y<f x then y::Or.go f x a else x::Or.go f y a)++c::Or.pass f l
   rw[Or.go_stop hc a x l,Or.go_stop hc a y l]
   split <;> rfl
theorem Or.pass_stop {f:Int→Int} {c:Int} (hc:¬0<f c) (a l:List Int):Or.pass f (a++c::l)=Or.pass f a++c::Or.pass f l:=by
 cases a with
 | nil=>exact Or.go_zero hc l
 | cons x a=>exact Or.go_stop hc a x l
theorem Or.iter_stop {f:Int→Int} {c:Int} (hc:¬0<f c):∀(n:Nat) (a l:List Int),Or.iter f n (a++c::l)=Or.iter f n a++c::Or.iter f n l
 | 0,a,l=>rfl
 | n+1,a,l=>by
   unfold Or.iter
   rw[Or.pass_stop hc,Or.iter_stop hc n]
theorem Or.go_len (f:Int→Int):∀(l:List Int) (x:Int),(Or.go f x l).length=l.length+1
 | [],x=>rfl
 | y::l,x=>by
   unfold Or.go
   split
   · simp[Or.go_len f l x]
   · simp[Or.go_len f l y]
theorem Or.go_eqv (f:Int→Int):∀(l:List Int) (x:Int),Ss.eqv f (x::l) (Or.go f x l)
 | [],x=>Ss.eqv.refl _ _
 | y::l,x=>by
   unfold Or.go
   split
   · rename_i h
     have h1:Ss.eqv f ([x]++[y]) ([y]++[x]):=Ss.eqv.flip fun a ha b hb=>by
      rw[Zy]at ha hb
      rw[ha,hb]
      omega
     have h2:=h1.app (Ss.eqv.refl f l)
     have h3:=(Ss.eqv.refl f [y]).app (Or.go_eqv f l x)
     exact Ss.eqv.trans (by simpa using h2) (by simpa using h3)
   · have h3:=(Ss.eqv.refl f [x]).app (Or.go_eqv f l y)
     simpa using h3
theorem Or.pass_eqv (f:Int→Int) (l:List Int):Ss.eqv f l (Or.pass f l):=by
 cases l with
 | nil=>exact Ss.eqv.refl _ _
 | cons x l=>exact Or.go_eqv f l x
theorem Or.iter_eqv (f:Int→Int):∀(n:Nat) (l:List Int),Ss.eqv f l (Or.iter f n l)
 | 0,l=>Ss.eqv.refl _ _
 | n+1,l=>(Or.pass_eqv f l).trans (Or.iter_eqv f n _)
theorem Or.go_last {f:Int→Int}:∀(l:List Int) (x:Int),(∀y∈x::l,0<f y)→∃k m,Or.go f x l=k++[m]∧∀y∈x::l,f y≤f m
 | [],x,h=>⟨[],x,rfl,fun y hy=>by rw[Zy]at hy;rw[hy];exact YL _⟩
 | y::l,x,h=>by
   unfold Or.go
   split
   · rename_i hc
     obtain⟨k,m,h1,h2⟩:=Or.go_last l x (fun z hz=>h z (by rcases List.mem_cons.1 hz with rfl|hz;exact Zw;exact ZB _ (ZB _ hz)))
     refine⟨y::k,m,by rw[h1];rfl,fun z hz=>?_⟩
     rcases List.mem_cons.1 hz with rfl|hz
     · exact h2 z Zw
     · rcases List.mem_cons.1 hz with rfl|hz
       · have:=h2 x Zw
         omega
       · exact h2 z (ZB _ hz)
   · rename_i hc
     obtain⟨k,m,h1,h2⟩:=Or.go_last l y (fun z hz=>h z (ZB _ hz))
     refine⟨x::k,m,by rw[h1];rfl,fun z hz=>?_⟩
     rcases List.mem_cons.1 hz with rfl|hz
     · have h3:=h2 y Zw
       have h4:=h y (ZB _ Zw)
       omega
     · exact h2 z hz
theorem Or.go_snoc {f:Int→Int} {m:Int}:∀(k:List Int) (x:Int),(∀y∈x::k,f y≤f m)→Or.go f x (k++[m])=Or.go f x k++[m]
 | [],x,h=>by
   show (if 0<f m∧f m<f x then _ else _)=_
   rw[Zs (by have:=h x Zw;omega)]
   rfl
 | y::k,x,h=>by
   rw[ZP]
   unfold Or.go
   rw[Or.go_snoc k x (fun z hz=>h z (by rcases List.mem_cons.1 hz with rfl|hz;exact Zw;exact ZB _ (ZB _ hz))),Or.go_snoc k y (fun z hz=>h z (ZB _ hz))]
   split <;> rfl
theorem Or.pass_snoc {f:Int→Int} {m:Int} (k:List Int) (h:∀y∈k,f y≤f m):Or.pass f (k++[m])=Or.pass f k++[m]:=by
 cases k with
 | nil=>rfl
 | cons x k=>exact Or.go_snoc k x h
theorem Or.iter_snoc {f:Int→Int} {m:Int}:∀(n:Nat) (k:List Int),(∀y∈k,f y≤f m)→Or.iter f n (k++[m])=Or.iter f n k++[m]
 | 0,k,h=>rfl
 | n+1,k,h=>by
   unfold Or.iter
   rw[Or.pass_snoc k h,Or.iter_snoc n _ fun y hy=>h y (((Or.pass_eqv f k).mem y).1 hy)]
theorem Or.iter_so {f:Int→Int}:∀(n:Nat) (l:List Int),l.length≤n→(∀x∈l,0<f x)→Ss.so f (Or.iter f n l)
 | 0,l,hl,_=>by
   obtain rfl:l=[]:=ZI (by omega)
   exact Ss.so_nil f
 | n+1,[],_,_=>by
   have:∀n,Or.iter f n []=[]:=by
    intro n
    induction n with
    | zero=>rfl
    | succ n ih=>exact ih
   rw[this]
   exact Ss.so_nil f
 | n+1,x::l,hl,h=>by
   show Ss.so f (Or.iter f n (Or.go f x l))
   obtain⟨k,m,h1,h2⟩:=Or.go_last l x h
   have hq:=Or.go_eqv f l x
   rw[h1]at hq ⊢
   have hk:∀y∈k,y∈x::l:=fun y hy=>(hq.mem y).1 (by simp[hy])
   have hlen:=hq.length
   rw[Or.iter_snoc n k fun y hy=>h2 y (hk y hy)]
   refine (Or.iter_so n k (by simp at hlen hl;omega) fun y hy=>h y (hk y hy)).app (Ss.so_one f m) fun a ha b hb=>?_
   rw[Zy]at hb
   rw[hb]
   exact h2 a (hk a (((Or.iter_eqv f n k).mem a).1 ha))
theorem Or.iter_R {f:Int→Int} (n:Nat):∀(j:Nat) (l:List Int),l.length≤j→j≤n→Or.R f l (Or.iter f n l)
 | 0,l,hl,hn=>by
   obtain rfl:l=[]:=ZI (by omega)
   refine .run (fun x hx=>by simp at hx) (Or.iter_so n [] (by simp) (fun x hx=>by simp at hx)) (Or.iter_eqv f n [])
 | j+1,l,hl,hn=>by
   by_cases h:∀x∈l,0<f x
   · exact .run h (Or.iter_so n l (by omega) h) (Or.iter_eqv f n l)
   · have he:=List.takeWhile_append_dropWhile (p:=fun x=>decide (0<f x)) (l:=l)
     have ht:∀x∈l.takeWhile (fun x=>decide (0<f x)),0<f x:=fun x hx=>by simpa using List.all_eq_true.1 (List.all_takeWhile (l:=l) (p:=fun x=>decide (0<f x))) x hx
     cases hd:l.dropWhile (fun x=>decide (0<f x)) with
     | nil =>
       rw[hd,Yk]at he
       exact absurd (fun x hx=>ht x (by rw[he];exact hx)) h
     | cons c r =>
       have hc:¬0<f c:=by
        have:=List.head?_dropWhile_not (fun x=>decide (0<f x)) l
        rw[hd]at this
        simpa using this
       rw[hd]at he
       have hlen:=Z5 List.length he
       simp at hlen
       rw[←he,Or.iter_stop hc]
       exact .cons ht (Or.iter_so n _ (by omega) ht) (Or.iter_eqv f n _) hc (Or.iter_R n j r (by omega) (by omega))
theorem Or.ref_R (f:Int→Int) (l:List Int):Or.R f l (Or.iter f l.length l):=Or.iter_R l.length l.length l (Zb _) (Zb _)
def Or.of (f:Int→Int) (l:List Int):List Int:=Or.iter f l.length l
theorem Or.of_R (f:Int→Int) (l:List Int):Or.R f l (Or.of f l):=Or.ref_R f l
theorem Or.of_len (f:Int→Int) (l:List Int):(Or.of f l).length=l.length:=(Or.of_R f l).length
end Go.Proofs.YtbeakahjbkdeiaaGreatDoor
