/- The layer extract's lines, by walking the text. -/
import Derived.Test.YtikiplbhlohmdaaGreatDoorXtTable
set_option linter.unusedVariables false
set_option linter.unusedSimpArgs false
namespace Go.Proofs.YtikiplbhlohmdaaGreatDoor
open Go.RowKit
theorem Xt.kept_rel:Stg.Rel Bd.Kept:=⟨fun w t A xs _ _ h=>h,fun h1 h2 t A xs g1 g2 h=>h2 t A xs g1 g2 (h1 t A xs g1 g2 h)⟩
instance (w:World):Nonempty (Stg.Later Bd.Kept w):=⟨⟨w,Xt.kept_rel.refl w⟩⟩
theorem Xt.kept_below {w w':World} (h:Below w.heap.size w w'):Bd.Kept w w':=fun t A xs _ _ hs=>hs.below h
theorem Xt.kept_cell {W:World} {t:TypeId} {b o:Nat} {xs:List Value} (h:Slt W t (some ⟨b,o,none⟩) xs) (h1:t≠108) (h2:t≠5) {i:Nat} {v:Value} (hv:xs[i]?=some v):∀x:Stg.Later Bd.Kept W,x.val.cell? ⟨b,o+i,none⟩=some v:=fun x=>by
 have hi:=(List.getElem?_eq_some_iff.1 hv).1
 obtain⟨b',o',hA,_,hc⟩:=(x.rel t _ xs h1 h2 h).sl (by omega)
 simp only[Zi,YO,YH]at hA
 obtain⟨rfl,rfl⟩:=hA
 rw[hc i hi,hv]
def Xt.sp (j:Nat):List UInt8:=(Xt.spans.take (2*j)).flatMap fun x=>x++[10]
def Xt.mid (k j:Nat):List UInt8:=Rw.txt ((Xt.T.take k).take Xt.A.length)++(Xt.sp j++Rw.txt ((Xt.T.take k).drop Xt.A.length))
def Xt.jk (k:Nat):Nat:=if k≤Xt.A.length then 0 else 3
def Xt.fr (j:Nat):Int:=if j=0 then 44032 else if j=1 then 55296 else 57344
theorem Xt.len:Xt.T.length=121:=rfl
theorem Xt.mid_all:Xt.mid 121 3=Xt.text:=by
 unfold Xt.mid Xt.text
 rw[show Xt.T.take 121=Xt.T from Zj (by rw[Xt.len];exact Zb _)]
 unfold Xt.T
 rw[List.take_left,List.drop_left]
 rfl
theorem Xt.mid_row {k:Nat} {r:Rw.Row} (hr:Xt.T[k]?=some r):Xt.mid (k+1) (Xt.jk (k+1))=Xt.mid k (Xt.jk (k+1))++(Rw.line r++[10]):=by
 have hk:=(List.getElem?_eq_some_iff.1 hr).1
 have ht:Xt.T.take (k+1)=Xt.T.take k++[r]:=by rw[Zw,hr];rfl
 have hl:(Xt.T.take k).length=k:=by rw[Zq];omega
 unfold Xt.mid
 rw[ht]
 obtain⟨P,hP⟩:∃P,Xt.T.take k=P:=⟨_,rfl⟩
 rw[hP]at hl ⊢
 by_cases hka:k+1≤Xt.A.length
 · have e:Xt.jk (k+1)=0:=by unfold Xt.jk;rw[if_pos hka]
   rw[e,Zj (by rw[Ze,hl];exact hka),Yp (by rw[Ze,hl];exact hka),Zj (by rw[hl];omega),Yp (by rw[hl];omega),Rw.txt_app,Rw.txt_one]
   simp[Xt.sp,Rw.txt]
 · rw[List.take_append_of_le_length (by rw[hl];omega),List.drop_append_of_le_length (by rw[hl];omega),Rw.txt_app,Rw.txt_one]
   simp
theorem Xt.mid_sp (k j:Nat) (hk:k=Xt.A.length) (hj:j<3):∃x y,Xt.spans[2*j]?=some x∧Xt.spans[2*j+1]?=some y∧Xt.mid k (j+1)=Xt.mid k j++((x++[10])++(y++[10])):=by
 subst hk
 have hx:2*j+1<Xt.spans.length:=by show 2*j+1<6;omega
 refine⟨Xt.spans[2*j],Xt.spans[2*j+1],Zc _,Zc _,?_⟩
 have e:∀(L:List (List UInt8)) (n:Nat) (h:n+1<L.length),(L.take (n+1+1)).flatMap (fun x=>x++[10])=(L.take n).flatMap (fun x=>x++[10])++((L[n]++[10])++(L[n+1]++[10])):=by
  intro L n h
  have e2:L.take (n+1+1)=L.take n++([L[n]]++[L[n+1]]):=by
   rw[YE h,YE (by omega),Zz]
  rw[e2,Y3,Y3]
  simp
 unfold Xt.mid Xt.sp
 rw[Yp (by rw[Zq];exact Nat.min_le_left _ _),show 2*(j+1)=2*j+1+1 by omega,e _ _ hx]
 simp[Rw.txt]
theorem Xt.go_on (k j:Nat) {r:Rw.Row} (hr:Xt.T[k]?=some r) (h1:Xt.jk k≤j) (h2:j≤Xt.jk (k+1)):(j<Xt.jk (k+1)↔j<3∧Xt.fr j<r.1)∧(j<Xt.jk (k+1)→k=Xt.A.length):=by
 have hA:∀i:Fin Xt.A.length,(Xt.T.getD i.val (0,0,[])).1≤44032:=by decide +kernel
 have hB:(Xt.T.getD Xt.A.length (0,0,[])).1=63744:=by decide +kernel
 have hg:Xt.T.getD k (0,0,[])=r:=by rw[Xi,hr];rfl
 unfold Xt.jk at *
 rcases Nat.lt_trichotomy k Xt.A.length with h|h|h
 · have:=hA ⟨k,h⟩
   rw[hg]at this
   rw[Zp (by omega)]at h2
   rw[Zp (by omega)]
   obtain rfl:j=0:=by omega
   unfold Xt.fr
   rw[Zp rfl]
   exact⟨by omega,fun h=>by omega⟩
 · have aa:r.1=63744:=by rw[←hg,h];exact hB
   rw[Zl (by omega)]
   refine⟨⟨fun hj=>⟨hj,?_⟩,fun hj=>hj.1⟩,fun _=>h⟩
   rw[aa]
   unfold Xt.fr
   split
   · omega
   · split <;> omega
 · rw[Zl (by omega)]at h1
   rw[Zl (by omega)]at h2 ⊢
   exact⟨by omega,fun h=>by omega⟩
theorem Xt.sp_line (j:Nat) (hj:j<3):∃(c d:Nat) (nm:List UInt8) (x y:List UInt8),Xt.spCells[j*3]?=some (.int .i32 c)∧Xt.spCells[j*3+1]?=some (.int .i32 d)∧Xt.spCells[j*3+2]?=some (.string ⟨nm.toArray⟩)∧c≤1114111∧d≤1114111∧nm.length≤100∧(c:Int)=Xt.fr j ∧
 Xt.spans[2*j]?=some x∧Xt.spans[2*j+1]?=some y∧Xt.ln c nm [70,105,114,115,116]=x++[10]∧Xt.ln d nm [76,97,115,116]=y++[10]:=by
 match j,hj with
 | 0,_=>exact⟨44032,55203,Xt.n0,Xt.f0,Xt.l0,rfl,rfl,rfl,by decide,by decide,by decide,rfl,rfl,rfl,by decide +kernel,by decide +kernel⟩
 | 1,_=>exact⟨55296,56191,Xt.n1,Xt.f1,Xt.l1,rfl,rfl,rfl,by decide,by decide,by decide,rfl,rfl,rfl,by decide +kernel,by decide +kernel⟩
 | 2,_=>exact⟨57344,63743,Xt.n2,Xt.f2,Xt.l2,rfl,rfl,rfl,by decide,by decide,by decide,rfl,rfl,rfl,by decide +kernel,by decide +kernel⟩
theorem Xt.mid_len (k j:Nat) (hj:j≤3):(Xt.mid k j).length≤1000000:=by
 have hf:∀r∈Xt.T,Rw.right r:=fun r hr=>by
  unfold Xt.T at hr
  rcases List.mem_append.1 hr with h|h
  · exact (Xt.fineA r h).1
  · exact (Xt.fineB' r h).1
 have h1:=Rw.txt_len ((Xt.T.take k).take Xt.A.length) fun r hr=>hf r (Yf (Yf hr))
 have h2:=Rw.txt_len ((Xt.T.take k).drop Xt.A.length) fun r hr=>hf r (Yf (List.mem_of_mem_drop hr))
 have h3:(Xt.sp j).length≤1000:=by
  match j,hj with
  | 0,_=>decide +kernel
  | 1,_=>decide +kernel
  | 2,_=>decide +kernel
  | 3,_=>decide +kernel
 have h4:((Xt.T.take k).take Xt.A.length).length≤121:=by rw[Zq,Zq,Xt.len];omega
 have h5:((Xt.T.take k).drop Xt.A.length).length≤121:=by rw[ZK,Zq,Xt.len];omega
 unfold Xt.mid
 rw[Ze,Ze]
 omega
theorem Xt.tab_below {w w':World} {A:Option Addr} {rs:List Rw.Row} (h:Rw.Tab w A rs) (hb:Below w.heap.size w w'):Rw.Tab w' A rs:=by
 obtain⟨ads,hl,hs,hm⟩:=h
 exact⟨ads,hl,hs.below hb,hm.below hb⟩
theorem Xt.tab_kept {w w':World} {A:Option Addr} {rs:List Rw.Row} (h:Rw.Tab w A rs) (hk:Bd.Kept w w'):Rw.Tab w' A rs:=by
 obtain⟨ads,hl,hs,hm⟩:=h
 exact⟨ads,hl,hk _ _ _ (by decide) (by decide) hs,fun i r a h1 h2=>hk _ _ _ (by decide) (by decide) (hm i r a h1 h2)⟩
theorem Xt.tab_row {w:World} {A:Option Addr} {rs:List Rw.Row} (h:Rw.Tab w A rs) {i:Nat} {r:Rw.Row} (hr:rs[i]?=some r) :
 ∃(b o:Nat) (a:Option Addr × Nat),A=some ⟨b,o,none⟩∧b<w.heap.size∧w.cell? ⟨b,o+i*3,none⟩=some (.int .i32 r.1)∧w.cell? ⟨b,o+i*3+1,none⟩=some (.int .i64 r.2.1)∧w.cell? ⟨b,o+i*3+2,none⟩=some (.slice a.1 r.2.2.length a.2)∧Slt w 21 a.1 (r.2.2.map (Value.int .i32)):=by
 obtain⟨ads,hl,hs,hm⟩:=h
 have hi:=(List.getElem?_eq_some_iff.1 hr).1
 obtain⟨a,ha⟩:∃a,ads[i]?=some a:=⟨_,Zc (by omega)⟩
 obtain⟨b,o,rfl,hb,hc⟩:=hs.sl (by rw[Rw.fl_len _ _ hl];omega)
 obtain⟨g0,g1,g2⟩:=Rw.fl_get rs ads i r a hr ha
 have hlen:=Rw.fl_len rs ads hl
 refine⟨b,o,a,rfl,hb,?_,?_,?_,hm i r a hr ha⟩
 · rw[hc _ (by omega),g0]
 · rw[Yi,hc _ (by omega),g1]
 · rw[Yi,hc _ (by omega),g2]
theorem Xt.at_below {w w':World} {b D:Nat} {bs:List Value} (h:Bd.At w b D bs) (hb:Below w.heap.size w w'):Bd.At w' b D bs:=by
 obtain⟨p,v,h1,h2,h3⟩:=h
 exact⟨p,v,h1,h2.below hb,own_below h3 hb (Zb _)⟩
set_option maxRecDepth 100000 in
set_option maxHeartbeats 4000000 in
theorem Xt.rows_any (w:World) (hL:Rw.Laid w):Calls Tryz.prog 35 #[] w fun e w'=>e=.returned (.string ⟨Xt.text.toArray⟩)∧Below w.heap.size w w':=by
 obtain⟨wa,ck⟩:∃wa,w.alloc (.cells #[.pointer none,.slice none 0 0] 108)=wa:=⟨_,rfl⟩
 have dt:Below w.heap.size w wa:=by rw[←ck];exact (Zd _ _).alloc (Zb _) _
 have ek:Rw.At wa w.heap.size 108 [.pointer none,.slice none 0 0]:=by rw[←ck];exact Rw.At.new w 108 [.pointer none,.slice none 0 0]
 have fk:=Za ck
 have du:=Za dt
 have e3:=Za ek
 have HL:=Za hL
 clear ck dt ek hL
 go_enter Tryz.func35,Tryz.ntmps35
 go_upto_region 2 with (fail)
 rw[fk.out]
 go_wp2_with fail
 refine (Xt.spans_any wa).mono ?_
 rintro e w1 ⟨rfl,b6,bj⟩
 have cw:Hid (Slt w1 115 (some ⟨wa.heap.size,0,none⟩) Xt.spCells):=Za fun _=>⟨wa.heap.size,0,_,rfl,b6,fun i _=>by simp⟩
 have c7:=Za bj
 clear b6 bj
 go_wp2_with fail
 refine (Xt.table_any w1).mono ?_
 rintro e w2 ⟨A2,c2,rfl,aj,cj⟩
 rw[Xt.len]
 have dh:=Za aj
 have cz:=Za (cw.out.below cj)
 have b2:=Za ((e3.out.below c7.out).below cj)
 have dw:=Za (du.out.trans ((c7.out.trans (cj.mono c7.out.size)).mono du.out.size))
 have bl:w.heap.size<w2.heap.size:=b2.out.lt
 clear aj cj
 go_wp2_with fail
 go_loopw [2,8] (fun v2 i wr=>∃(k:Nat) (A':Option Addr) (c':Nat),k≤121∧i=.int .i64 k∧v2=.slice A' (3-Xt.jk k) c'∧3-Xt.jk k≤c'∧(Xt.jk k<3→A'=some ⟨wa.heap.size,Xt.jk k*3,none⟩)∧Bd.At wr w.heap.size w2.heap.size (Lib.byteCells (Xt.mid k (Xt.jk k)))∧Rw.Tab wr A2 Xt.T∧Slt wr 115 (some ⟨wa.heap.size,0,none⟩) Xt.spCells∧Below w.heap.size w2 wr) (fun _ i _=>121-(intOf i).toNat)
 case atStart =>
  refine⟨0,_,3,ZE _,rfl,rfl,by decide,fun _=>rfl,?_,dh.out,cz.out,Zd _ _⟩
  exact⟨_,_,.inl rfl,b2.out,ZC _ _ _ _⟩
 case round =>
  obtain⟨k,A',c',hk,rfl,rfl,bz,af,aq,aj,cu,aw⟩:=hrel
  obtain⟨w5,rfl⟩:∃w5:World,w5=wr:=⟨_,rfl⟩
  have ee:w2.heap.size≤w5.heap.size:=aw.size
  by_cases hlt:k<121
  · obtain⟨r,hr⟩:∃r,Xt.T[k]?=some r:=⟨_,Zc (by rw[Xt.len];exact hlt)⟩
    have dv:=fun j=>Xt.go_on k j hr
    have bu:=Xt.mid_row hr
    have fe:Rw.right r:=by
     have hm:=Zk hr
     unfold Xt.T at hm
     rcases List.mem_append.1 hm with h|h
     · exact (Xt.fineA r h).1
     · exact (Xt.fineB' r h).1
    obtain⟨f1,f2,f3,f4,f5,f6⟩:=fe
    obtain⟨b,o,a,e7,hb,c0,c1,c2,dz⟩:=Xt.tab_row aj hr
    obtain⟨ml,br⟩:∃q,r.2.2.length=q:=⟨_,rfl⟩
    rw[br]at c2 f5
    have kI:(k:Int)<121:=by omega
    have k0:(0:Int)≤k:=by omega
    obtain⟨wb,cd⟩:∃wb,w5.alloc (.cells #[.int .i32 r.1,.int .i64 r.2.1,.slice a.1 ml a.2] 113)=wb:=⟨_,rfl⟩
    have bn:Below w5.heap.size w5 wb:=by rw[←cd];exact (Zd _ _).alloc (Zb _) _
    have ei:Slt wb 113 (some ⟨w5.heap.size,0,none⟩) [.int .i32 r.1,.int .i64 r.2.1,.slice a.1 ml a.2]:=fun _=>⟨w5.heap.size,0,_,rfl,by rw[←cd];exact ZP w5 _,fun i _=>by simp⟩
    have eg:=dz.below bn
    have fo:=Za cd
    have fh:=Za ei
    have eu:=Za eg
    have e9:=Za (Xt.tab_below aj bn)
    have e4:=Za (cu.below bn)
    have c6:=Za (Xt.at_below aq bn)
    have ep:=Za (aw.trans (bn.mono (Zh (Ya bl) ee)))
    have fz:w2.heap.size≤wb.heap.size:=Zh ee bn.size
    have ej:Xt.jk k≤Xt.jk (k+1):=by unfold Xt.jk;split <;> split <;> omega
    have dy:=Za dv
    have ec:=Za bu
    have b4:=Za br
    have HJ:=Za ej
    have ft:=Za af
    have fm:=Za bz
    subst e7
    clear dv bu cd ei eg aj cu aq bn aw dz br ej hr af bz
    go_upto_region 6 with (fail)
    rw[fo.out]
    clear c0 c1 c2
    go_loopw [2] (fun v2 wi=>∃(j:Nat) (A':Option Addr) (c':Nat),Xt.jk k≤j∧j≤Xt.jk (k+1)∧v2=.slice A' (3-j) c'∧3-j≤c'∧(j<3→A'=some ⟨wa.heap.size,j*3,none⟩)∧Bd.At wi w.heap.size w2.heap.size (Lib.byteCells (Xt.mid k j))∧Rw.Tab wi (some ⟨b,o,none⟩) Xt.T∧Slt wi 115 (some ⟨wa.heap.size,0,none⟩) Xt.spCells ∧
     Slt wi 113 (some ⟨w5.heap.size,0,none⟩) [.int .i32 r.1,.int .i64 r.2.1,.slice a.1 ml a.2]∧Slt wi 21 a.1 (r.2.2.map (Value.int .i32))∧Below w.heap.size w2 wi∧wb.heap.size≤wi.heap.size) (fun v2 _=>match v2 with | .slice _ n _=>n|_=>0)
    case atStart=>exact⟨_,_,_,Zb _,HJ.out,rfl,fm.out,ft.out,c6.out,e9.out,e4.out,fh.out,eu.out,ep.out,Zb _⟩
    case round =>
     obtain⟨j,A',c',fc,fx,rfl,bz,af,bm,ay,ao,az,bo,ai,ey⟩:=hrel
     obtain⟨wi,rfl⟩:∃wi:World,wi=wr:=⟨_,rfl⟩
     obtain⟨g1,g2⟩:=dy.out j fc fx
     obtain⟨bb,ob,bi,a7,b1⟩:=az.sl (by simp)
     simp only[Zi,YO,YH]at bi
     obtain⟨rfl,rfl⟩:=bi
     have r0:=b1 0 (by simp)
     have r1:=b1 1 (by simp)
     have r2:=b1 2 (by simp)
     simp only[Y7,YR,Z1,YW]at r0 r1 r2
     obtain⟨m3,dm⟩:∃m,3-j=m:=⟨_,rfl⟩
     rw[dm]at bz ⊢
     have bp:=Za bm
     have ax:=Za ay
     have bg:=Za ao
     have df:=Za az
     have cb:=Za bo
     have av:=Za ai
     have bx:=Za (dw.out.trans ai)
     have ak:w2.heap.size≤wi.heap.size:=ai.size
     by_cases hon:j<Xt.jk (k+1)
     · obtain⟨ch,b7⟩:=g1.1 hon
       have cx:=g2 hon
       obtain⟨x',y',dn,dp,bk⟩:=Xt.mid_sp k j cx ch
       obtain⟨c,d,nm,x,y,s0,s1,s2,hc,hd,cg,b8,hx,hy,eb,ef⟩:=Xt.sp_line j ch
       rw[dn]at hx
       rw[dp]at hy
       simp only[Zi]at hx hy
       subst hx;subst hy
       obtain rfl:=af ch
       rw[←eb,←ef]at bk
       rw[←b8]at b7
       obtain⟨sb,so,bi,er,bt⟩:=ao.sl (by decide)
       simp only[Zi,YO,YH]at bi
       obtain⟨rfl,rfl⟩:=bi
       have q0:=bt (j*3) (by show j*3<9;omega)
       have q1:=bt (j*3+1) (by show j*3+1<9;omega)
       have q2:=bt (j*3+2) (by show j*3+2<9;omega)
       rw[s0,Z1]at q0
       rw[s1,Z1]at q1
       rw[s2,Z1]at q2
       have mN:0<m3:=by omega
       have fy:=Za cx
       have eo:=Za s0
       have fp:=Za s1
       have fw:=Za s2
       have dk:=Za bk
       have en:nm.toArray.size≤100:=by simpa using cg
       clear bm ay ao az bo ai g1 g2 dn dp eb ef b8 bt b1 s0 s1 s2 bk cx dy ec
       go_upto_region 6 with (fail)
       go_quiet (fail)
       go_upto_region 7 with (fail)
       obtain⟨wj,a6⟩:∃wj,wi.drewN nq=wj:=⟨_,rfl⟩
       have aa:Below wi.heap.size wi wj.drew:=by rw[←a6];exact (below_drewN (Zd _ wi) nq).drew
       rw[a6]
       clear a6
       have cr:=Za (bg.out.below aa)
       have cv:=Za (Xt.at_below bp.out aa)
       have bq:=Za (bx.out.trans (aa.mono bx.out.size))
       have e0:=Xt.kept_cell cr.out (by decide) (by decide) eo.out
       have e1:=Xt.kept_cell cr.out (by decide) (by decide) fp.out
       have e2:=Xt.kept_cell cr.out (by decide) (by decide) fw.out
       rw[Z1]at e0 e1 e2
       obtain⟨n1,cq⟩:∃y:ByteArray,⟨nm.toArray⟩=y:=⟨_,rfl⟩
       obtain⟨t1,cf⟩:∃y:ByteArray,⟨(Xt.ln c nm [70,105,114,115,116]).toArray⟩=y:=⟨_,rfl⟩
       obtain⟨t2,cn⟩:∃y:ByteArray,⟨(Xt.ln d nm [76,97,115,116]).toArray⟩=y:=⟨_,rfl⟩
       have e6:Hid (∀W,Below w.heap.size w W→Calls Tryz.prog 62 #[.agg #[.int .i32 c,.int .i32 d,.string n1],.int .i32 c,.string ⟨#[70,105,114,115,116]⟩] W fun e w'=>e=.returned (.string t1)∧Below W.heap.size W w'):=Za fun W hW=>by
        have:=Xt.line_any c d c nm [70,105,114,115,116] W hc cg (by decide) ((HL.out.next hW).1)
        rw[cq,cf]at this
        exact this
       have ew:Hid (∀W,Below w.heap.size w W→Calls Tryz.prog 62 #[.agg #[.int .i32 c,.int .i32 d,.string n1],.int .i32 d,.string ⟨#[76,97,115,116]⟩] W fun e w'=>e=.returned (.string t2)∧Below W.heap.size W w'):=Za fun W hW=>by
        have:=Xt.line_any c d d nm [76,97,115,116] W hd cg (by decide) ((HL.out.next hW).1)
        rw[cq,cn]at this
        exact this
       have fg:t1.size≤300:=by
        rw[←cf,Rw.ba_size]
        have:=Fi.text_le c hc
        unfold Xt.ln
        simp
        omega
       have ez:t2.size≤300:=by
        rw[←cn,Rw.ba_size]
        have:=Fi.text_le d hd
        unfold Xt.ln
        simp
        omega
       have ae:Lib.byteCells (Xt.mid k (j+1))=Lib.byteCells (Xt.mid k j)++Lib.strCells (t1++t2):=by
        rw[dk.out,←cf,←cn,Fi.ba_app]
        unfold Lib.byteCells Lib.strCells
        simp
       have ag:(Lib.byteCells (Xt.mid k j)).length+600≤140737488355328:=by
        have:(Lib.byteCells (Xt.mid k j)).length=(Xt.mid k j).length:=by unfold Lib.byteCells;simp
        have h2:=Xt.mid_len k j (by omega)
        omega
       have cp:=Za ae
       have bc:=Za ag
       have c1:¬9223372036854775807<t1.size+t2.size:=by omega
       rw[cq]at e2
       have fq:w2.heap.size≤wj.drew.heap.size:=Zh ak aa.size
       have a1:=Za aa
       clear cf cn cq ae ag aa
       refine Stg.wp_region Bd.Kept Xt.kept_rel (by kernel_rfl) (by kernel_rfl) (by kernel_rfl) ?_
       iterate 2 (refine Stg.readW (by kernel_rfl) (by kernel_rfl) (by kernel_rfl) ?_;intro K hK;go_big_quiet_op;go_big_quiet_on)
       refine Stg.read 0 (by kernel_rfl) (by kernel_rfl) (by kernel_rfl) wj.drew rfl (by kernel_rfl) ?_;intro K hK;go_big_quiet_op;go_big_quiet_on
       iterate 3 (refine Stg.readW (by kernel_rfl) (by kernel_rfl) (by kernel_rfl) ?_;intro K hK;go_big_quiet_op;go_big_quiet_on)
       refine Stg.read 0 (by kernel_rfl) (by kernel_rfl) (by kernel_rfl) wj.drew rfl (by kernel_rfl) ?_;intro K hK;go_big_quiet_op;go_big_quiet_on
       refine Stg.call 62 _ _ rfl (C.enter Tryz.func62 (by kernel_rfl) rfl) [.agg #[.int .i32 c,.int .i32 d,.string n1],.int .i32 c,.string ⟨#[70,105,114,115,116]⟩] rfl wj.drew _ (e6.out _ bq.out) (by kernel_rfl) rfl (by kernel_rfl) ?_
       rintro e q1 ⟨rfl,hb⟩;refine⟨_,rfl,Xt.kept_below hb,?_⟩;have ap:=Za hb;clear hb;intro A' af;simp only[Act.put,Zs,ZF,ZD]at af;subst af
       iterate 2 (refine Stg.readW (by kernel_rfl) (by kernel_rfl) (by kernel_rfl) ?_;intro K hK;go_big_quiet_op;go_big_quiet_on)
       refine Stg.read 1 (by kernel_rfl) (by kernel_rfl) (by kernel_rfl) wj.drew rfl (by kernel_rfl) ?_;intro K hK;go_big_quiet_op;go_big_quiet_on
       iterate 3 (refine Stg.readW (by kernel_rfl) (by kernel_rfl) (by kernel_rfl) ?_;intro K hK;go_big_quiet_op;go_big_quiet_on)
       refine Stg.read 1 (by kernel_rfl) (by kernel_rfl) (by kernel_rfl) wj.drew rfl (by kernel_rfl) ?_;intro K hK;go_big_quiet_op;go_big_quiet_on
       refine Stg.call 62 _ _ rfl (C.enter Tryz.func62 (by kernel_rfl) rfl) [.agg #[.int .i32 c,.int .i32 d,.string n1],.int .i32 d,.string ⟨#[76,97,115,116]⟩] rfl q1 _ (ew.out _ (bq.out.trans (ap.out.mono bq.out.size))) (by kernel_rfl) rfl (by kernel_rfl) ?_
       rintro e q2 ⟨rfl,hb⟩;refine⟨_,rfl,Xt.kept_below hb,?_⟩;have b5:=Za (ap.out.trans (hb.mono ap.out.size));clear hb;intro A' af;simp only[Act.put,Zs,ZF,ZD]at af;subst af
       refine Stg.readW (by kernel_rfl) (by kernel_rfl) (by kernel_rfl) ?_;intro K hK;go_big_quiet_op;go_big_quiet_on
       have cc:=Xt.at_below cv.out b5.out
       have au:=Bd.write2 w.heap.size w2.heap.size _ (t1++t2) q2 bl (Zh fq b5.out.size) cc (by rw[ZR];have:=bc.out;omega)
       rw[←cp.out]at au
       refine Stg.call 61 _ _ rfl (C.enter Tryz.func61 (by kernel_rfl) rfl) [.pointer (some ⟨w.heap.size,0,none⟩),.string (t1++t2)] rfl q2 _ (au) (by kernel_rfl) rfl (by kernel_rfl) ?_
       rintro e q3 ⟨rfl,ah,bf,ba⟩;refine⟨_,rfl,bf,?_⟩;intro A' af;simp only[Act.put,Zs,ZF,ZD]at af;subst af
       refine Stg.nil q3 rfl ?_
       have bh:Bd.Kept wi q3:=fun t A xs g1 g2 hs=>bf t A xs g1 g2 ((hs.below a1.out).below b5.out)
       have ar:=Za ah
       have a8:=Za bh
       have b9:=Za (av.out.trans (((a1.out.trans (b5.out.mono a1.out.size)).mono (Zh (Ya bl) ak)).trans ba))
       have e8:wb.heap.size≤q3.heap.size:=Zh ey (Zh (a1.out.trans (b5.out.mono a1.out.size)).size ba.size)
       clear ah bf ba bh cc au e0 e1 e2
       go_wp2_with fail
       refine⟨⟨j+1,_,_,by omega,by omega,by rw[show 3-(j+1)=m3-1 by omega],by omega,fun hh=>?_,ar.out,Xt.tab_kept ax.out a8.out,a8.out _ _ _ (by decide) (by decide) bg.out,a8.out _ _ _ (by decide) (by decide) df.out,a8.out _ _ _ (by decide) (by decide) cb.out,b9.out,e8⟩,?_⟩
       · rw[Zl (by omega),show (j+1)*3=j*3+3 by omega]
       · show m3-1<m3
         omega
     · have bs:Xt.jk (k+1)=j:=by omega
       have bu:=ec.out
       rw[bs]at bu
       obtain⟨tx,cm⟩:∃y:ByteArray,⟨(Rw.line r).toArray⟩=y:=⟨_,rfl⟩
       have eh:Hid (∀W,Below w.heap.size w W→Below wi.heap.size wi W→Calls Tryz.prog 63 #[.agg #[.int .i32 r.1,.int .i64 r.2.1,.slice a.1 ml a.2]] W fun e w'=>e=.returned (.string tx)∧Below W.heap.size W w'):=Za fun W hW hV=>by
        have:=Rw.pline_any r.1 r.2.1 a.1 r.2.2 ml a.2 W.heap.size W f1 f2 f3 f4 b4.out f5 f6 (Zb _) ((cb.out.below hV).sl) (HL.out.next hW)
        rw[show (r.1,r.2.1,r.2.2)=r from rfl,cm]at this
        exact this
       have fg:tx.size≤1000:=by
        rw[←cm,Rw.ba_size]
        exact Rw.line_len r ⟨f1,f2,f3,f4,by rw[b4.out];exact f5,f6⟩
       have ae:Lib.byteCells (Xt.mid (k+1) j)=Lib.byteCells (Xt.mid k j)++Lib.strCells (tx++⟨#[10]⟩):=by
        rw[bu,←cm,show (⟨#[10]⟩:ByteArray)=⟨[10].toArray⟩ from rfl,Fi.ba_app]
        unfold Lib.byteCells Lib.strCells
        simp
       have ag:(Lib.byteCells (Xt.mid k j)).length+2000≤140737488355328:=by
        have:(Lib.byteCells (Xt.mid k j)).length=(Xt.mid k j).length:=by unfold Lib.byteCells;simp
        have h2:=Xt.mid_len k j (by have:Xt.jk (k+1)≤3:=by { unfold Xt.jk;split <;> omega };omega)
        omega
       have cp:=Za ae
       have bc:=Za ag
       have ed:=Za bs
       have fj:=Za af
       have ea:=Za bz
       have bw:=Za dm
       have s1:(⟨#[10]⟩:ByteArray).size=1:=rfl
       have c1:¬9223372036854775807<tx.size+(⟨#[10]⟩:ByteArray).size:=by omega
       have ch:j≤3:=by
        have:Xt.jk (k+1)≤3:=by { unfold Xt.jk;split <;> omega }
        omega
       have b7:=fun h=>fun h2=>hon (g1.2 ⟨h,h2⟩)
       clear ae ag cm bu bm ay bo ai g1 g2 bz dm bs
       by_cases hj:j<3
       · obtain⟨c,d,nm,x,y,s0,_,_,hc,hd,cg,b8,_,_,_,_⟩:=Xt.sp_line j hj
         have et:=b7 hj
         rw[←b8]at et
         obtain⟨sb,so,bi,er,bt⟩:=ao.sl (by decide)
         simp only[Zi,YO,YH]at bi
         obtain⟨rfl,rfl⟩:=bi
         have q0:=bt (j*3) (by show j*3<9;omega)
         rw[s0,Z1]at q0
         obtain rfl:=af hj
         have mN:0<m3:=by have:=bw.out;omega
         clear af b7 ao az b8 bt s0 b1
         go_upto_region 6 with (fail)
         go_quiet (fail)
         obtain⟨wj,a6⟩:∃wj,wi.drewN nq=wj:=⟨_,rfl⟩
         have aa:Below wi.heap.size wi wj:=by rw[←a6];exact below_drewN (Zd _ wi) nq
         have di:=((bcell aa).1 _ 0 a7).trans r0
         have c8:=((bcell aa).1 _ 1 a7).trans r1
         have dc:=((bcell aa).1 _ 2 a7).trans r2
         have cy:=Zf a7 aa.size
         have b3:=eh.out wj (bx.out.trans (aa.mono bx.out.size)) aa
         have a1:=Za aa
         rw[a6]
         clear a6 aa r0 r1 r2 a7
         go_wp2_with fail
         refine b3.mono ?_
         rintro e q1 ⟨rfl,bj⟩
         have ap:=Za (a1.out.trans (bj.mono a1.out.size))
         have au:=Bd.write2 w.heap.size w2.heap.size _ (tx++⟨#[10]⟩) q1 bl (Zh ak ap.out.size) (Xt.at_below bp.out ap.out) (by rw[ZR];have:=bc.out;omega)
         rw[←cp.out]at au
         clear bj b3 di c8 dc
         go_wp2_with fail
         refine au.mono ?_
         rintro e q3 ⟨rfl,ah,bf,ba⟩
         have bh:Bd.Kept wi q3:=fun t A xs g1 g2 hs=>bf t A xs g1 g2 (hs.below ap.out)
         have ar:=Za ah
         have a8:=Za bh
         have b9:=Za (av.out.trans ((ap.out.mono (Zh (Ya bl) ak)).trans ba))
         clear ah bf ba bh au
         go_wp2_with fail
         have bs:=ed.out
         subst bs
         refine⟨⟨k+1,_,_,by omega,by go_num,by rw[bw.out],by rw[bw.out];exact ea.out,fun _=>rfl,ar.out,Xt.tab_kept ax.out a8.out,a8.out _ _ _ (by decide) (by decide) bg.out,b9.out⟩,by simp[intOf];omega⟩
       · have mN:¬0<m3:=by have:=bw.out;omega
         obtain rfl:m3=0:=by omega
         clear af b7 ao az b1
         go_upto_region 6 with (fail)
         go_quiet (fail)
         obtain⟨wj,a6⟩:∃wj,wi.drewN nq=wj:=⟨_,rfl⟩
         have aa:Below wi.heap.size wi wj:=by rw[←a6];exact below_drewN (Zd _ wi) nq
         have di:=((bcell aa).1 _ 0 a7).trans r0
         have c8:=((bcell aa).1 _ 1 a7).trans r1
         have dc:=((bcell aa).1 _ 2 a7).trans r2
         have cy:=Zf a7 aa.size
         have b3:=eh.out wj (bx.out.trans (aa.mono bx.out.size)) aa
         have a1:=Za aa
         rw[a6]
         clear a6 aa r0 r1 r2 a7
         go_wp2_with fail
         refine b3.mono ?_
         rintro e q1 ⟨rfl,bj⟩
         have ap:=Za (a1.out.trans (bj.mono a1.out.size))
         have au:=Bd.write2 w.heap.size w2.heap.size _ (tx++⟨#[10]⟩) q1 bl (Zh ak ap.out.size) (Xt.at_below bp.out ap.out) (by rw[ZR];have:=bc.out;omega)
         rw[←cp.out]at au
         clear bj b3 di c8 dc
         go_wp2_with fail
         refine au.mono ?_
         rintro e q3 ⟨rfl,ah,bf,ba⟩
         have bh:Bd.Kept wi q3:=fun t A xs g1 g2 hs=>bf t A xs g1 g2 (hs.below ap.out)
         have ar:=Za ah
         have a8:=Za bh
         have b9:=Za (av.out.trans ((ap.out.mono (Zh (Ya bl) ak)).trans ba))
         clear ah bf ba bh au
         go_wp2_with fail
         have bs:=ed.out
         subst bs
         refine⟨⟨k+1,_,_,by omega,by go_num,by rw[bw.out],by rw[bw.out];exact ea.out,fj.out,ar.out,Xt.tab_kept ax.out a8.out,a8.out _ _ _ (by decide) (by decide) bg.out,b9.out⟩,by simp[intOf];omega⟩
  · obtain rfl:k=121:=by omega
    have kI:¬((121:Nat):Int)<121:=by omega
    have hj:Xt.jk 121=3:=rfl
    rw[hj,Xt.mid_all]at aq
    have dr:Lib.IsBuilder 108 5 w.heap.size w.heap.size (Lib.byteCells Xt.text) w5:=by
     obtain⟨p,v,h1,h2,h3⟩:=aq
     have h4:Lib.BuilderAt 108 5 w.heap.size w.heap.size p (Lib.byteCells Xt.text) w5:=⟨Zb _,v,h2,R.own_base h3 (by omega),Rw.own_ne h3 _ (by omega)⟩
     rcases h1 with rfl|rfl
     · exact .inl h4
     · exact .inr h4
    have ct:=Tryz.Builder_String_any w.heap.size w.heap.size Xt.text w5 dr (by omega)
    have HB:=Za (dw.out.trans aw)
    clear aq cu aw dr aj af
    obtain⟨TX,dl⟩:∃y,Xt.text=y:=⟨_,rfl⟩
    rw[dl]at ct
    have e5:=Za dl
    clear dl
    go_wp2_with fail
    refine ct.mono ?_
    rintro e w4 ⟨rfl,dx⟩
    have fu:=Za (HB.out.trans dx)
    clear dx ct
    go_wp2_with fail
    go_ret
    rw[e5.out]
    exact⟨rfl,fu.out⟩
def Xt.S10:List Int:=[2392,2394,10972,10973,64285,64286,64287,64288,119134,119135]
theorem Xt.sl_ok:C.ok Xt.S10:=⟨by unfold C.srt Xt.S10;decide,by unfold Xt.S10;decide,by decide⟩
theorem Xt.sl_all:C.all1 (C.rngs Xt.S10)=Xt.X:=by decide +kernel
theorem Xt.s_eq:Xt.S=Xt.S10:=by
 have h:=C.chars_again Xt.sl_ok fun d hd=>by
  have h1:C.inR (C.rngs Xt.S10) d=true:=by rw[C.rngs_mem Xt.S10 Xt.sl_ok d];exact hd
  have h2:=(C.all1_mem _ d).2 h1
  rw[Xt.sl_all]at h2
  exact Xt.xC d h2
 rw[Xt.sl_all]at h
 exact h
set_option maxRecDepth 100000 in
theorem Xt.excl_any (w:World) (hL:Rw.Laid w):Calls Tryz.prog 36 #[] w fun e w'=>e=.returned (.string ⟨(Ex.btxt Xt.X).toArray⟩)∧Below w.heap.size w w':=by
 obtain⟨wa,ae⟩:∃wa,w.alloc (.cells #[.int .i32 2392,.int .i32 2393,.int .i32 10972,.int .i32 64285,.int .i32 64287,.int .i32 119134] 21)=wa:=⟨_,rfl⟩
 have ao:Below w.heap.size w wa:=by rw[←ae];exact (Zd _ _).alloc (Zb _) _
 have ah:Sl wa wa.heap.size (some ⟨w.heap.size,0,none⟩) (Xt.X.map (Value.int .i32)):=Sl.lit rfl 21 (0,0) (by rw[←ae];exact ZP w _)
 have hC:=C.chars_any (some ⟨w.heap.size,0,none⟩) 6 6 wa.heap.size Xt.X wa rfl (by decide) (Zb _) ah
 have ag:C.chars Xt.X=Xt.S10:=Xt.s_eq
 rw[ag]at hC
 have aq:=Za ae
 have ak:=Za ao
 have HL:=Za hL
 clear ae ao ah ag hL
 go_enter Tryz.func36,Tryz.ntmps36
 go_upto_region 1 with (fail)
 go_wp2_with (first|(go_at_call 66;rw[aq.out];refine hC.mono ?_;rintro e w1 ⟨A1,c1,rfl,aa,aj⟩;have HO:=Za (Slt.of_own aa);have af:=Za (ak.out.trans (aj.mono ak.out.size));clear aa aj)|(go_at_call 65;refine (Ex.text_any _ _ 10 Xt.S10 Xt.X _ rfl (by decide) Xt.sl_ok Xt.sl_all Xt.xC (by decide) HO.out (HL.out.next af.out).1).mono ?_;rintro e w2 ⟨rfl,ai⟩;have ap:=Za (af.out.trans (ai.mono af.out.size));clear ai)|fail)
 go_ret
 exact⟨rfl,ap.out⟩
theorem Xt.nilIs (v:Value) (w:World):(binOp .eql 70 .nilIface (.iface 157 v)).run Tryz.prog w=.ok (.bool false) w:=run_eql_iface_nil_left (P:=Tryz.prog) w 157 v Tryz.underlying70
set_option maxRecDepth 100000 in
theorem Xt.is_nil (b:Nat) (w:World):Calls Tryz.prog 37 #[.nilIface,.iface 157 (.pointer (some ⟨b,0,none⟩))] w fun e w'=>e=.returned (.bool false)∧w=w':=by
 have hn:=Xt.nilIs (.pointer (some ⟨b,0,none⟩))
 go_enter Tryz.func37,Tryz.ntmps37
 go_wp2_with fail
 go_ret
 exact⟨rfl,rfl⟩
set_option maxRecDepth 100000 in
set_option maxHeartbeats 2000000 in
theorem Xt.data_any (w:World) (hL:Rw.Laid w):Calls Tryz.prog 18 #[] w fun e w'=>∃p,e=.returned p∧Ud.Is w' p Xt.T Xt.S∧Below w.heap.size w w':=by
 have au:=Za (Xt.rows_any w hL)
 have ao:=Za (fun W (hW:Below w.heap.size w W)=>Xt.excl_any W (hL.next hW))
 have av:Hid (∀W,Below w.heap.size w W→Calls Tryz.prog 34 #[.string ⟨Xt.text.toArray⟩,.string ⟨(Ex.btxt Xt.X).toArray⟩] W (Ud.RetOf Xt.T Xt.S W)):=Za fun W hW =>
  Ud.load_any _ _ (by rw[Rw.ba_size];have:=Xt.text_len;omega) (by rw[Rw.ba_size];have:=Ex.btxt_len Xt.X (fun c hc=>Ud.isC_bd (Xt.xC c hc));have h2:Xt.X.length=6:=rfl;omega) Xt.T Xt.X Xt.parse Xt.parseX Xt.ok Xt.bd W (hL.next hW)
 obtain⟨s1,ai⟩:∃y:ByteArray,⟨Xt.text.toArray⟩=y:=⟨_,rfl⟩
 obtain⟨s2,ae⟩:∃y:ByteArray,⟨(Ex.btxt Xt.X).toArray⟩=y:=⟨_,rfl⟩
 rw[ai]at au
 simp only[ae]at ao
 simp only[ai,ae]at av
 clear ai ae hL
 go_enter Tryz.func18,Tryz.ntmps18
 go_wp2_with fail
 refine au.out.mono ?_
 rintro e w1 ⟨rfl,ak⟩
 have ag:=Za ak
 clear ak
 go_wp2_with fail
 refine (ao.out w1 ag.out).mono ?_
 rintro e w2 ⟨rfl,aj⟩
 have aa:=Za (ag.out.trans (aj.mono ag.out.size))
 clear aj
 go_wp2_with fail
 refine (av.out w2 aa.out).mono ?_
 rintro e w3 ⟨p,rfl,ap,ar⟩
 have ay:=Za ap
 have aq:=Za (aa.out.trans (ar.mono aa.out.size))
 clear ap ar
 go_wp2_with fail
 refine (F.of_any 8 w3).mono ?_
 rintro e w4 ⟨q,v,rfl,hq,aw,ah⟩
 rw[Zl (by decide)]at hq
 obtain⟨⟨b,c,n,s⟩,q',rfl⟩:∃x q',q=x::q':=by
  cases q with
  | nil=>simp[F.lk]at hq
  | cons x q'=>exact⟨x,q',rfl⟩
 obtain⟨rfl,_⟩:=aw
 have af:=Za (ay.out.below ah)
 have ax:=Za (aq.out.trans (ah.mono aq.out.size))
 clear ah hq
 go_wp2_with fail
 refine (Xt.is_nil _ w4).mono ?_
 rintro e w5 ⟨rfl,rfl⟩
 go_wp2_with fail
 go_ret
 exact⟨_,rfl,af.out,ax.out⟩
end Go.Proofs.YtikiplbhlohmdaaGreatDoor
namespace Go.Proofs.YtikiplbhlohmdaaGreatDoor
inductive Or.Q (f:Int→Int):List Int→List Int→Prop
 | run {a b:List Int}:(∀x∈a,0<f x)→Ss.eqv f a b→Or.Q f a b
 | cons {a b l m:List Int} {c:Int}:(∀x∈a,0<f x)→Ss.eqv f a b→¬0<f c→Or.Q f l m→Or.Q f (a++c::l) (b++c::m)
theorem Ss.eqv.pos {f:Int→Int} {a b:List Int} (h:Ss.eqv f a b) (ha:∀x∈a,0<f x):∀x∈b,0<f x:=fun x hx=>ha x ((h.mem x).1 hx)
theorem Or.R.toQ {f:Int→Int} {l m:List Int} (h:Or.R f l m):Or.Q f l m:=by
 induction h with
 | run h1 h2 h3=>exact .run h1 h3
 | cons h1 h2 h3 h4 h5 ih=>exact .cons h1 h3 h4 ih
theorem Or.Q.symm {f:Int→Int} {l m:List Int} (h:Or.Q f l m):Or.Q f m l:=by
 induction h with
 | run h1 h2=>exact .run (h2.pos h1) h2.symm
 | cons h1 h2 h3 h4 ih=>exact .cons (h2.pos h1) h2.symm h3 ih
theorem Or.Q.R {f:Int→Int} {l m:List Int} (h:Or.Q f l m):∀{r:List Int},Or.R f l r→Or.R f m r:=by
 induction h with
 | @run a b h1 h2 =>
   intro r h'
   generalize he:a=a0 at h'
   cases h' with
   | run g1 g2 g3=>subst he;exact .run (h2.pos h1) g2 (h2.symm.trans g3)
   | @cons a' b' l' m'' c' g1 g2 g3 g4 g5=>exact absurd (h1 c' (by rw[he];simp)) g4
 | @cons a b l m c h1 h2 h3 h4 ih =>
   intro r h'
   generalize he:a++c::l=a0 at h'
   cases h' with
   | run g1 g2 g3=>exact absurd (g1 c (by rw[←he];simp)) h3
   | @cons a' b' l' m'' c' g1 g2 g3 g4 g5 =>
     obtain⟨rfl,rfl,rfl⟩:=Or.split h1 g1 h3 g4 he
     exact .cons (h2.pos h1) g2 (h2.symm.trans g3) h3 (ih g5)
theorem Or.Q.of {f:Int→Int} {l m:List Int} (h:Or.Q f l m):Or.of f l=Or.of f m:=(h.R (Or.of_R f l)).unique (Or.of_R f m) |>.symm
theorem Or.Q_of (f:Int→Int) (l:List Int):Or.Q f l (Or.of f l):=(Or.of_R f l).toQ
theorem Or.Q.trans {f:Int→Int} {l m r:List Int} (h:Or.Q f l m) (h':Or.Q f m r):Or.Q f l r:=by
 have h1:=h'.R (h.R (Or.of_R f l))
 have:∀{x y},Or.R f x y→∀{z},Or.R f z y→Or.Q f x z:=by
  intro x y aa
  induction aa with
  | @run a b g1 g2 g3 =>
    intro z hz
    generalize he:b=b0 at hz
    cases hz with
    | run k1 k2 k3=>subst he;exact .run g1 (g3.trans k3.symm)
    | @cons a' b' l' m'' c' k1 k2 k3 k4 k5=>exact absurd (g3.pos g1 c' (by rw[he];simp)) k4
  | @cons a b l m c g1 g2 g3 g4 g5 ih =>
    intro z hz
    generalize he:b++c::m=b0 at hz
    cases hz with
    | run k1 k2 k3=>exact absurd (k3.pos k1 c (by rw[←he];simp)) g4
    | @cons a' b' l' m'' c' k1 k2 k3 k4 k5 =>
      obtain⟨rfl,rfl,rfl⟩:=Or.split (g3.pos g1) (k3.pos k1) g4 k4 he
      exact .cons g1 (g3.trans k3.symm) g4 (ih k5)
 exact this (Or.of_R f l) h1
theorem Or.Q_iff {f:Int→Int} {l m:List Int}:Or.Q f l m↔Or.of f l=Or.of f m :=
 ⟨fun h=>h.of,fun h=>(Or.Q_of f l).trans (h▸(Or.Q_of f m).symm)⟩
theorem Or.Q.app {f:Int→Int} {l m p q:List Int} (h:Or.Q f l m) (h':Or.Q f p q):Or.Q f (l++p) (m++q):=by
 induction h with
 | @run a b h1 h2 =>
   cases h' with
   | run g1 g2=>exact .run (fun x hx=>by rcases List.mem_append.1 hx with h|h;exact h1 x h;exact g1 x h) (h2.app g2)
   | @cons a' b' l' m' c g1 g2 g3 g4 =>
     rw[←Zz,←Zz]
     exact .cons (fun x hx=>by rcases List.mem_append.1 hx with h|h;exact h1 x h;exact g1 x h) (h2.app g2) g3 g4
 | @cons a b l m c h1 h2 h3 h4 ih =>
   rw[Zz,Zz,ZQ,ZQ]
   exact .cons h1 h2 h3 ih
theorem Or.of_of (f:Int→Int) (l:List Int):Or.of f (Or.of f l)=Or.of f l:=(Or.Q_of f l).of.symm
theorem Or.of_mem (f:Int→Int) (l:List Int) (x:Int):x∈Or.of f l↔x∈l:=(Or.of_R f l).mem x
def Or.inB (f:Int→Int):Int→List Int→Bool
 | _,[]=>true
 | last,c::l=>if 0<f c∧f c<last then false else Or.inB f (f c) l
theorem Or.inB_pos {f:Int→Int}:∀(a:List Int) (last:Int),(∀x∈a,0<f x)→(Or.inB f last a=true↔(∀x∈a,last≤f x)∧Ss.so f a)
 | [],last,_=>by simp[Or.inB,Ss.so]
 | c::a,last,h=>by
   have hc:=h c Zv
   have ih:=Or.inB_pos a (f c) fun x hx=>h x (Zx _ hx)
   unfold Or.inB Ss.so
   rw[Xx]
   by_cases h1:f c<last
   · rw[Zp ⟨hc,h1⟩]
     simp only[ZJ,false_iff,not_and]
     intro h2
     have:=h2 c Zv
     omega
   · rw[Zl (fun h=>h1 h.2),ih]
     constructor
     · rintro⟨h2,h3⟩
       exact⟨fun x hx=>by rcases List.mem_cons.1 hx with rfl|hx;omega;have:=h2 x hx;omega,h2,h3⟩
     · rintro⟨h2,h3,h4⟩
       exact⟨h3,h4⟩
theorem Or.inB_cut {f:Int→Int} {c:Int} (hc:¬0<f c) (m:List Int):∀(a:List Int) (last:Int),Or.inB f last (a++c::m)=(Or.inB f last a&&Or.inB f (f c) m)
 | [],last=>by
   rw[Z2]
   conv=>lhs;unfold Or.inB
   rw[Zl (fun h=>hc h.1)]
   rfl
 | y::a,last=>by
   have ih:=Or.inB_cut hc m a (f y)
   rw[ZQ]
   show (if 0<f y∧f y<last then false else Or.inB f (f y) (a++c::m))=((if 0<f y∧f y<last then false else Or.inB f (f y) a)&&Or.inB f (f c) m)
   split
   · rfl
   · exact ih
theorem Or.R.inB {f:Int→Int} (h0:∀x,0≤f x) {l m:List Int} (h:Or.R f l m):Or.inB f 0 m=true:=by
 induction h with
 | @run a b h1 h2 h3=>exact (Or.inB_pos b 0 (h3.pos h1)).2 ⟨fun x _=>h0 x,h2⟩
 | @cons a b l m c h1 h2 h3 h4 h5 ih =>
   have aa:f c=0:=by have:=h0 c;omega
   rw[Or.inB_cut h4,aa,ih,(Or.inB_pos b 0 (h3.pos h1)).2 ⟨fun x _=>h0 x,h2⟩]
   rfl
theorem Or.in_of {f:Int→Int} (h0:∀x,0≤f x) (l:List Int):Or.inB f 0 (Or.of f l)=true:=(Or.of_R f l).inB h0
end Go.Proofs.YtikiplbhlohmdaaGreatDoor
namespace Go.Proofs.YtikiplbhlohmdaaGreatDoor
open Go.RowKit
theorem Or.inB_take {f:Int→Int}:∀(l:List Int) (t:Int) (k:Nat) {x:Int},l[k]?=some x→Or.inB f t (l.take k)=true→Or.inB f t l=Or.inB f ((l.take k).foldl (fun _ y=>f y) t) (l.drop k)
 | [],t,k,x,h,_=>by simp at h
 | y::l,t,0,x,h,_=>rfl
 | y::l,t,k+1,x,h,hi=>by
   rw[Xb]at hi ⊢
   unfold Or.inB at hi
   split at hi
   · cases hi
   · rename_i hh
     rw[List.foldl_cons,List.drop_succ_cons,←Or.inB_take l (f y) k (by simpa using h) hi]
     conv=>lhs;unfold Or.inB
     rw[Zl hh]
set_option maxRecDepth 100000 in
set_option maxHeartbeats 4000000 in
theorem Or.in_any (v:Value) (T:List Rw.Row) (S:List Int) (A:Option Addr) (n c:Nat) (l:List Int) (w:World) (ok:Ud.Ok T S) (h:Ud.Is w v T S) (hn:l.length=n) (bf:n≤1000000) (hA:Sl w w.heap.size A (l.map (Value.int .i32))) :
 Calls Tryz.prog 26 #[v,.slice A n c] w fun e w'=>e=.returned (.bool (Or.inB (Md.cls T) 0 l))∧Below w.heap.size w w':=by
 have a8:Hid (∀x W,Below w.heap.size w W→Calls Tryz.prog 46 #[v,.int .i32 x] W fun e w'=>e=.returned (.int .i64 (Md.cls T x))∧Below W.heap.size W w'):=Za fun x W hW=>Ud.class_any v T S x W ok (h.below hW)
 obtain⟨pv,rfl,_⟩:=h.form
 have HN:=Za hn
 have HA:=Za hA
 obtain⟨r,hr⟩:∃r,Or.inB (Md.cls T) 0 l=r:=⟨_,rfl⟩
 rw[hr]
 have HR:=Za hr
 obtain⟨f,hf⟩:∃f,Md.cls T=f:=⟨_,rfl⟩
 rw[hf]at HR
 simp only[hf]at a8
 clear hn hA h ok hr hf
 go_enter Tryz.func26,Tryz.ntmps26
 go_wp2_with fail
 go_loopw [5,7,8,11] (fun t _ _ i wr=>∃(k:Nat),k≤n∧i=.int .i64 k∧t=.int .i64 ((l.take k).foldl (fun _ y=>f y) 0)∧Or.inB f 0 (l.take k)=true∧Below w.heap.size w wr) (fun _ _ _ i _=>n-(intOf i).toNat)
 case atStart=>exact⟨0,ZE _,rfl,rfl,rfl,Zd _ _⟩
 case round =>
  obtain⟨k,hk,rfl,rfl,ah,aa⟩:=hrel
  have ap:=aa.size
  by_cases hlt:k<n
  · obtain⟨x,hx⟩:∃x,l[k]?=some x:=⟨_,Zc (by rw[HN.out];exact hlt)⟩
    obtain⟨ab,ao,hA2,bc,az⟩:=HA.out (by rw[Zg,HN.out];omega)
    have hc:=az k (by rw[Zg,HN.out];exact hlt)
    rw[Zu,hx,Zt,←(bcell aa).1 _ _ (by omega)]at hc
    have hit:=Or.inB_take l 0 k hx ah
    obtain⟨aq,a1⟩:=List.getElem?_eq_some_iff.1 hx
    have hdr:l.drop k=x::l.drop (k+1):=by rw[←a1];exact ZV aq
    have ak:l.take (k+1)=l.take k++[x]:=by rw[Zw,hx];rfl
    have av:(l.take (k+1)).foldl (fun _ y=>f y) 0=f x:=by rw[ak,Y8];rfl
    obtain⟨t,ht⟩:∃t,(l.take k).foldl (fun _ y=>f y) 0=t:=⟨_,rfl⟩
    obtain⟨q,hq⟩:∃q,f x=q:=⟨_,rfl⟩
    have ay:=a8.out x wr aa
    rw[hq]at ay
    rw[ht,hdr]at hit
    rw[show Or.inB f t (x::l.drop (k+1))=if 0<f x∧f x<t then false else Or.inB f (f x) (l.drop (k+1)) from rfl,hq]at hit
    have aj:¬(0<q∧q<t)→Or.inB f 0 (l.take (k+1))=true:=fun hh=>by
     have h2:=Or.inB_take (f:=f) (l.take (k+1)) 0 k (x:=x) (by rw[ak];rw[ZL (by simp;omega)];simp[XT (Ya aq)]) (by rw[XZ,XT (ZZ k)];exact ah)
     rw[h2,XZ,XT (ZZ k),ht,ak,List.drop_append_of_le_length (by simp;omega),Yp (by rw[Zq];omega),Z2]
     unfold Or.inB
     rw[hq,Zl hh]
     rfl
    rw[ht]
    rw[hq]at av
    have af:=Za aj
    have au:=Za av
    have ar:=Za hit
    have ag:=Za aa
    have aw:=Za ay
    have kI:(k:Int)<n:=by omega
    have k0:(0:Int)≤k:=by omega
    subst hA2
    clear hx az ah hit aq a1 hdr ak av ht hq ay aj aa
    rcases hb:decide (0<q∧q<t) with _|_
    · have a7:=af.out (XC hb)
      have a6:=Za a7
      have bb:¬0<q∨(0<q∧¬q<t):=by have:=XC hb;omega
      clear a7 af ar hb
      rcases bb with h1|⟨h1,h2⟩
      · go_wp2_with (go_at_call 46;refine aw.out.mono ?_;rintro e w1 ⟨rfl,ae⟩;have ai:=Za (ag.out.trans (ae.mono ap));clear ae)
        exact⟨⟨k+1,by omega,by first|rfl|go_num,by rw[au.out],a6.out,ai.out⟩,by simp[intOf];omega⟩
      · go_wp2_with (go_at_call 46;refine aw.out.mono ?_;rintro e w1 ⟨rfl,ae⟩;have ai:=Za (ag.out.trans (ae.mono ap));clear ae)
        exact⟨⟨k+1,by omega,by first|rfl|go_num,by rw[au.out],a6.out,ai.out⟩,by simp[intOf];omega⟩
    · have hh:=Yg hb
      have ax:=ar.out
      rw[Zp hh,HR.out]at ax
      have ba:=Za ax
      obtain⟨h1,h2⟩:=hh
      clear ax af ar hb au
      go_wp2_with (go_at_call 46;refine aw.out.mono ?_;rintro e w1 ⟨rfl,ae⟩;have ai:=Za (ag.out.trans (ae.mono ap));clear ae)
      go_ret
      rw[ba.out]
      exact⟨rfl,ai.out⟩
  · obtain rfl:k=n:=by omega
    rw[Zj (by rw[HN.out];exact Zb _),HR.out]at ah
    have kI:¬(k:Int)<k:=by omega
    have HI:=Za ah
    have HB:=Za aa
    clear ah aa
    go_wp2_with fail
    go_ret
    rw[HI.out]
    exact⟨rfl,HB.out⟩
theorem Tx.sym (aa:FuncId) (cd:Option Addr) (k:Int→Int) (N:Nat) (h:∀(args:Array Value) (w:World),(callFunc aa args).run Tryz.prog w=.ok (.enter aa args) w):Ss.SymOk aa cd k N:=Ss.sym_all aa cd k h N
end Go.Proofs.YtikiplbhlohmdaaGreatDoor
