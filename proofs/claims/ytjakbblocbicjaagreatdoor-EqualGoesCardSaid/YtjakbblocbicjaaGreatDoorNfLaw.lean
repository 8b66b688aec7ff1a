/- The layer extract's lines, by walking the text. -/
import Derived.Test.YtjakbblocbicjaaGreatDoorStC
import Derived.Test.YtjakbblocbicjaaGreatDoorXtTable
set_option maxRecDepth 100000
set_option maxHeartbeats 4000000
set_option linter.unusedVariables false
set_option linter.unusedSimpArgs false
namespace Go.Proofs.YtjakbblocbicjaaGreatDoor
open Go.Proofs.Tryz
open Go.RowKit
theorem zJl:Stg.Rel Bd.Kept:=⟨fun w t A xs _ _ h=>h,fun h1 h2 t A xs g1 g2 h=>h2 t A xs g1 g2 (h1 t A xs g1 g2 h)⟩
instance (w:World):Nonempty (Stg.Later Bd.Kept w):=⟨⟨w,zJl.refl w⟩⟩
theorem zGC {w w':World} (h:Below w.heap.size w w'):Bd.Kept w w':=fun t A xs _ _ hs=>hs.below h
theorem zF3 {W:World} {t:TypeId} {b o:Nat} {xs:List Value} (h:Slt W t (some ⟨b,o,none⟩) xs) (h1:t≠150) (h2:t≠5) {i:Nat} {v:Value} (hv:xs[i]?=some v):∀x:Stg.Later Bd.Kept W,x.val.cell? ⟨b,o+i,none⟩=some v:=fun x=>by
 have hi:=(List.getElem?_eq_some_iff.1 hv).1;obtain⟨b',o',hA,_,hc⟩:=(x.rel t _ xs h1 h2 h).sl (by omega);simp only[Zg,YZ,YQ]at hA;obtain⟨rfl,rfl⟩:=hA;rw[hc i hi,hv]
def zRG (j:Nat):List UInt8:=(zBD.take (2*j)).flatMap fun x=>x++[10]
def Xt.mid (k j:Nat):List UInt8:=zB2 ((Xt.T.take k).take Xt.A.length)++(zRG j++zB2 ((Xt.T.take k).drop Xt.A.length))
def zCw (k:Nat):Nat:=if k≤Xt.A.length then 0 else 3
def zRH (j:Nat):Int:=if j=0 then 44032 else if j=1 then 55296 else 57344
theorem Xt.len:Xt.T.length=121:=rfl
theorem Xt.mid_all:Xt.mid 121 3=Xt.text:=by
 unfold Xt.mid Xt.text;rw[show Xt.T.take 121=Xt.T from Zi (by rw[Xt.len];exact Za _)];unfold Xt.T;rw[Kj,X8];rfl
theorem zPO {k:Nat} {r:Rw.Row} (hr:Xt.T[k]?=some r):Xt.mid (k+1) (zCw (k+1))=Xt.mid k (zCw (k+1))++(Rw.line r++[10]):=by
 have hk:=(List.getElem?_eq_some_iff.1 hr).1;have ht:Xt.T.take (k+1)=Xt.T.take k++[r]:=by rw[ZA,hr];rfl
 have hl:(Xt.T.take k).length=k:=by rw[Zr];omega
 unfold Xt.mid;rw[ht];obtain⟨P,hP⟩:∃P,Xt.T.take k=P:=⟨_,rfl⟩;rw[hP]at hl ⊢
 by_cases hka:k+1≤Xt.A.length
 · have e:zCw (k+1)=0:=by unfold zCw;rw[if_pos hka]
   rw[e,Zi (by rw[Zd,hl];exact hka),Yh (by rw[Zd,hl];exact hka),Zi (by rw[hl];omega),Yh (by rw[hl];omega),zFn,zFo];simp[zRG,zB2]
 rw[Xw (by rw[hl];omega),Qs (by rw[hl];omega),zFn,zFo];simp
theorem zR3 (k j:Nat) (hk:k=Xt.A.length) (hj:j<3):∃x y,zBD[2*j]?=some x∧zBD[2*j+1]?=some y∧Xt.mid k (j+1)=Xt.mid k j++((x++[10])++(y++[10])):=by
 subst hk;have hx:2*j+1<zBD.length:=by show 2*j+1<6;omega
 refine⟨zBD[2*j],zBD[2*j+1],Zb _,Zb _,?_⟩
 have e:∀(L:List (List UInt8)) (n:Nat) (h:n+1<L.length),(L.take (n+1+1)).flatMap (fun x=>x++[10])=(L.take n).flatMap (fun x=>x++[10])++((L[n]++[10])++(L[n+1]++[10])):=by
  intro L n h
  have e2:L.take (n+1+1)=L.take n++([L[n]]++[L[n+1]]):=by
   rw[YL h,YL (by omega),ZD]
  rw[e2,YK,YK];simp
 unfold Xt.mid zRG;rw[Yh (by rw[Zr];exact Nat.min_le_left _ _),show 2*(j+1)=2*j+1+1 by omega,e _ _ hx];simp[zB2]
theorem zRI (k j:Nat) {r:Rw.Row} (hr:Xt.T[k]?=some r) (h1:zCw k≤j) (h2:j≤zCw (k+1)):(j<zCw (k+1)↔j<3∧zRH j<r.1)∧(j<zCw (k+1)→k=Xt.A.length):=by
 have hA:∀i:Fin Xt.A.length,(Xt.T.getD i.val (0,0,[])).1≤44032:=by decide +kernel
 have hB:(Xt.T.getD Xt.A.length (0,0,[])).1=63744:=by decide +kernel
 have hg:Xt.T.getD k (0,0,[])=r:=by rw[Yi,hr];rfl
 unfold zCw at *;rcases XI k Xt.A.length with h|h|h
 · have:=hA ⟨k,h⟩;rw[hg]at this;rw[Zm (by omega)]at h2;rw[Zm (by omega)];obtain rfl:j=0:=by omega
   unfold zRH;rw[Zm rfl];exact⟨by omega,fun h=>by omega⟩
 · have aa:r.1=63744:=by rw[←hg,h];exact hB
   rw[Zk (by omega)];refine⟨⟨fun hj=>⟨hj,?_⟩,fun hj=>hj.1⟩,fun _=>h⟩;rw[aa];unfold zRH;split
   · omega
   split <;> omega
 rw[Zk (by omega)]at h1;rw[Zk (by omega)]at h2 ⊢;exact⟨by omega,fun h=>by omega⟩
theorem zKq (j:Nat) (hj:j<3):∃(c d:Nat) (nm:List UInt8) (x y:List UInt8),zC4[j*3]?=some (.int .i32 c)∧zC4[j*3+1]?=some (.int .i32 d)∧zC4[j*3+2]?=some (.string ⟨nm.toArray⟩)∧c≤1114111∧d≤1114111∧nm.length≤100∧(c:Int)=zRH j ∧
 zBD[2*j]?=some x∧zBD[2*j+1]?=some y∧Xt.ln c nm [70,105,114,115,116]=x++[10]∧Xt.ln d nm [76,97,115,116]=y++[10]:=by
 match j,hj with
 | 0,_=>exact⟨44032,55203,zSO,zSe,zSf,rfl,rfl,rfl,by decide,by decide,by decide,rfl,rfl,rfl,by decide +kernel,by decide +kernel⟩
 | 1,_=>exact⟨55296,56191,Xt.n1,Xt.f1,zSg,rfl,rfl,rfl,by decide,by decide,by decide,rfl,rfl,rfl,by decide +kernel,by decide +kernel⟩
 | 2,_=>exact⟨57344,63743,zSQ,Xt.f2,zSh,rfl,rfl,rfl,by decide,by decide,by decide,rfl,rfl,rfl,by decide +kernel,by decide +kernel⟩
theorem Xt.mid_len (k j:Nat) (hj:j≤3):(Xt.mid k j).length≤1000000:=by
 have hf:∀r∈Xt.T,Rw.right r:=fun r hr=>by
  unfold Xt.T at hr;rcases List.mem_append.1 hr with h|h
  · exact (zGB r h).1
  exact (zF0 r h).1
 have h1:=zCl ((Xt.T.take k).take Xt.A.length) fun r hr=>hf r (Z8 (Z8 hr))
 have h2:=zCl ((Xt.T.take k).drop Xt.A.length) fun r hr=>hf r (Z8 (JA hr))
 have h3:(zRG j).length≤1000:=by
  match j,hj with
  | 0,_=>decide +kernel
  | 1,_=>decide +kernel
  | 2,_=>decide +kernel
  | 3,_=>decide +kernel
 have h4:((Xt.T.take k).take Xt.A.length).length≤121:=by rw[Zr,Zr,Xt.len];omega
 have h5:((Xt.T.take k).drop Xt.A.length).length≤121:=by rw[ZN,Zr,Xt.len];omega
 unfold Xt.mid;rw[Zd,Zd];omega
theorem zMP {w w':World} {A:Option Addr} {rs:List Rw.Row} (h:Rw.Tab w A rs) (hb:Below w.heap.size w w'):Rw.Tab w' A rs:=by
 obtain⟨ads,hl,hs,hm⟩:=h;exact⟨ads,hl,hs.below hb,hm.below hb⟩
theorem zG8 {w w':World} {A:Option Addr} {rs:List Rw.Row} (h:Rw.Tab w A rs) (hk:Bd.Kept w w'):Rw.Tab w' A rs:=by
 obtain⟨ads,hl,hs,hm⟩:=h;exact⟨ads,hl,hk _ _ _ (by decide) (by decide) hs,fun i r a h1 h2=>hk _ _ _ (by decide) (by decide) (hm i r a h1 h2)⟩
theorem zPP {w:World} {A:Option Addr} {rs:List Rw.Row} (h:Rw.Tab w A rs) {i:Nat} {r:Rw.Row} (hr:rs[i]?=some r) :
 ∃(b o:Nat) (a:Option Addr × Nat),A=some ⟨b,o,none⟩∧b<w.heap.size∧w.cell? ⟨b,o+i*3,none⟩=some (.int .i32 r.1)∧w.cell? ⟨b,o+i*3+1,none⟩=some (.int .i64 r.2.1)∧w.cell? ⟨b,o+i*3+2,none⟩=some (.slice a.1 r.2.2.length a.2)∧Slt w 21 a.1 (r.2.2.map (Value.int .i32)):=by
 obtain⟨ads,hl,hs,hm⟩:=h;have hi:=(List.getElem?_eq_some_iff.1 hr).1;obtain⟨a,ha⟩:∃a,ads[i]?=some a:=⟨_,Zb (by omega)⟩;obtain⟨b,o,rfl,hb,hc⟩:=hs.sl (by rw[Rw.fl_len _ _ hl];omega);obtain⟨g0,g1,g2⟩:=Rw.fl_get rs ads i r a hr ha;have hlen:=Rw.fl_len rs ads hl;refine⟨b,o,a,rfl,hb,?_,?_,?_,hm i r a hr ha⟩
 · rw[hc _ (by omega),g0]
 · rw[Yn,hc _ (by omega),g1]
 rw[Yn,hc _ (by omega),g2]
theorem zDb {w w':World} {b D:Nat} {bs:List Value} (h:Bd.At w b D bs) (hb:Below w.heap.size w w'):Bd.At w' b D bs:=by
 obtain⟨p,v,h1,h2,h3⟩:=h;exact⟨p,v,h1,h2.below hb,zA4 h3 hb (Za _)⟩
theorem zOh (w:World) (hL:Rw.Laid w):Calls prog 69 #[] w fun e w'=>e=.returned (.string ⟨Xt.text.toArray⟩)∧Below w.heap.size w w':=by
 obtain⟨wa,cn⟩:∃wa,w.alloc (.cells #[.pointer none,.slice none 0 0] 150)=wa:=⟨_,rfl⟩;have dx:Below w.heap.size w wa:=by rw[←cn];exact (Zc _ _).alloc (Za _) _
 have du:Rw.At wa w.heap.size 150 [.pointer none,.slice none 0 0]:=by rw[←cn];exact Rw.At.new w 150 [.pointer none,.slice none 0 0]
 have en:=hy' cn;have dt:=hy' dx;have fu:=hy' du;have HL:=hy' hL;clear cn dx du hL;go_enter func69,ntmps69;go_upto_region 2 with (fail)
 rw[en.o];go_wp2_with fail;refine (zMN wa).mono ?_;rintro e w1 ⟨rfl,b5,bj⟩;have cv:Hy (Slt w1 157 (some ⟨wa.heap.size,0,none⟩) zC4):=hy' fun _=>⟨wa.heap.size,0,_,rfl,b5,fun i _=>by simp⟩
 have dc:=hy' bj;clear b5 bj;go_wp2_with fail;refine (zMO w1).mono ?_;rintro e w2 ⟨A2,c2,rfl,aj,cg⟩;rw[Xt.len];have dl:=hy' aj;have di:=hy' (cv.o.below cg);have b7:=hy' ((fu.o.below dc.o).below cg);have ef:=hy' (dt.o.trans ((dc.o.trans (cg.mono dc.o.size)).mono dt.o.size));have bn:w.heap.size<w2.heap.size:=b7.o.lt;clear aj cg;go_wp2_with fail;go_loopw [2,8] (fun v2 i wr=>∃(k:Nat) (A':Option Addr) (c':Nat),k≤121∧i=.int .i64 k∧v2=.slice A' (3-zCw k) c'∧3-zCw k≤c'∧(zCw k<3→A'=some ⟨wa.heap.size,zCw k*3,none⟩)∧Bd.At wr w.heap.size w2.heap.size (Lib.byteCells (Xt.mid k (zCw k)))∧Rw.Tab wr A2 Xt.T∧Slt wr 157 (some ⟨wa.heap.size,0,none⟩) zC4∧Below w.heap.size w2 wr) (fun _ i _=>121-(intOf i).toNat)
 case atStart =>
  refine⟨0,_,3,ZF _,rfl,rfl,by decide,fun _=>rfl,?_,dl.o,di.o,Zc _ _⟩;exact⟨_,_,.inl rfl,b7.o,ZE _ _ _ _⟩
 obtain⟨k,A',c',hk,rfl,rfl,bw,af,av,aj,cr,ar⟩:=hrel;obtain⟨w5,rfl⟩:∃w5:World,w5=wr:=⟨_,rfl⟩;have ed:w2.heap.size≤w5.heap.size:=ar.size
 by_cases hlt:k<121
 rotate_left
 · obtain rfl:k=121:=by omega
   have kI:¬((121:Nat):Int)<121:=by omega
   have hj:zCw 121=3:=rfl;rw[hj,Xt.mid_all]at av
   have eb:Lib.IsBuilder 150 5 w.heap.size w.heap.size (Lib.byteCells Xt.text) w5:=by
    obtain⟨p,v,h1,h2,h3⟩:=av;have h4:Lib.BuilderAt 150 5 w.heap.size w.heap.size p (Lib.byteCells Xt.text) w5:=⟨Za _,v,h2,zFq h3 (by omega),zBl h3 _ (by omega)⟩;rcases h1 with rfl|rfl
    · exact .inl h4
    exact .inr h4
   have cx:=Tryz.Builder_String_any w.heap.size w.heap.size Xt.text w5 eb (by omega);have HB:=hy' (ef.o.trans ar);clear av cr ar eb aj af;obtain⟨TX,cy⟩:∃y,Xt.text=y:=⟨_,rfl⟩;rw[cy]at cx;have fc:=hy' cy;clear cy;go_wp2_with fail;refine cx.mono ?_;rintro e w4 ⟨rfl,dv⟩;have e3:=hy' (HB.o.trans dv);clear dv cx;go_wp2_with fail;go_ret;rw[fc.o];exact⟨rfl,e3.o⟩
 obtain⟨r,hr⟩:∃r,Xt.T[k]?=some r:=⟨_,Zb (by rw[Xt.len];exact hlt)⟩;have dp:=fun j=>zRI k j hr
 have bu:=zPO hr
 have fj:Rw.right r:=by
  have hm:=Zj hr;unfold Xt.T at hm;rcases List.mem_append.1 hm with h|h
  · exact (zGB r h).1
  exact (zF0 r h).1
 obtain⟨f1,f2,f3,f4,f5,f6⟩:=fj;obtain⟨b,o,a,ez,hb,c0,c1,c2,ej⟩:=zPP aj hr;obtain⟨ml,bs⟩:∃q,r.2.2.length=q:=⟨_,rfl⟩;rw[bs]at c2 f5;have kI:(k:Int)<121:=by omega
 have k0:(0:Int)≤k:=by omega
 obtain⟨wb,cq⟩:∃wb,w5.alloc (.cells #[.int .i32 r.1,.int .i64 r.2.1,.slice a.1 ml a.2] 155)=wb:=⟨_,rfl⟩;have bk:Below w5.heap.size w5 wb:=by rw[←cq];exact (Zc _ _).alloc (Za _) _
 have dy:Slt wb 155 (some ⟨w5.heap.size,0,none⟩) [.int .i32 r.1,.int .i64 r.2.1,.slice a.1 ml a.2]:=fun _=>⟨w5.heap.size,0,_,rfl,by rw[←cq];exact ZT w5 _,fun i _=>by simp⟩
 have ea:=ej.below bk;have fg:=hy' cq;have e7:=hy' dy;have fx:=hy' ea;have eu:=hy' (zMP aj bk);have fo:=hy' (cr.below bk);have df:=hy' (zDb av bk);have fe:=hy' (ar.trans (bk.mono (Zh (Z5 bn) ed)));have fy:w2.heap.size≤wb.heap.size:=Zh ed bk.size;have dw:zCw k≤zCw (k+1):=by unfold zCw;split <;> split <;> omega
 have ee:=hy' dp;have eh:=hy' bu;have cc:=hy' bs;have HJ:=hy' dw;have ey:=hy' af;have ft:=hy' bw;subst ez;clear dp bu cq dy ea aj cr av bk ar ej bs dw hr af bw;go_upto_region 6 with (fail)
 rw[fg.o];clear c0 c1 c2
 go_loopw [2] (fun v2 wi=>∃(j:Nat) (A':Option Addr) (c':Nat),zCw k≤j∧j≤zCw (k+1)∧v2=.slice A' (3-j) c'∧3-j≤c'∧(j<3→A'=some ⟨wa.heap.size,j*3,none⟩)∧Bd.At wi w.heap.size w2.heap.size (Lib.byteCells (Xt.mid k j))∧Rw.Tab wi (some ⟨b,o,none⟩) Xt.T∧Slt wi 157 (some ⟨wa.heap.size,0,none⟩) zC4 ∧
  Slt wi 155 (some ⟨w5.heap.size,0,none⟩) [.int .i32 r.1,.int .i64 r.2.1,.slice a.1 ml a.2]∧Slt wi 21 a.1 (r.2.2.map (Value.int .i32))∧Below w.heap.size w2 wi∧wb.heap.size≤wi.heap.size) (fun v2 _=>match v2 with | .slice _ n _=>n|_=>0)
 case atStart=>exact⟨_,_,_,Za _,HJ.o,rfl,ft.o,ey.o,df.o,eu.o,fo.o,e7.o,fx.o,fe.o,Za _⟩
 obtain⟨j,A',c',ek,e5,rfl,bw,af,bt,a1,ak,au,bp,ai,fw⟩:=hrel;obtain⟨wi,rfl⟩:∃wi:World,wi=wr:=⟨_,rfl⟩;obtain⟨g1,g2⟩:=ee.o j ek e5;obtain⟨bb,ob,bh,a8,bx⟩:=au.sl (by simp);simp only[Zg,YZ,YQ]at bh;obtain⟨rfl,rfl⟩:=bh;have r0:=bx 0 (by simp);have r1:=bx 1 (by simp);have r2:=bx 2 (by simp);simp only[Y4,YN,Z1,YI]at r0 r1 r2;obtain⟨m3,cw⟩:∃m,3-j=m:=⟨_,rfl⟩;rw[cw]at bw ⊢;have br:=hy' bt;have ay:=hy' a1;have ba:=hy' ak;have cz:=hy' au;have b9:=hy' bp;have ax:=hy' ai;have b1:=hy' (ef.o.trans ai);have ao:w2.heap.size≤wi.heap.size:=ai.size
 by_cases hon:j<zCw (k+1)
 · obtain⟨cm,b8⟩:=g1.1 hon;have dh:=g2 hon;obtain⟨x',y',ec,hyq,bq⟩:=zR3 k j dh cm;obtain⟨c,d,nm,x,y,s0,s1,s2,hc,hd,ck,b2,hx,hy,dr,dz⟩:=zKq j cm;rw[ec]at hx;rw[hyq]at hy;simp only[Zg]at hx hy;subst hx;subst hy;obtain rfl:=af cm;rw[←dr,←dz]at bq;rw[←b2]at b8;obtain⟨sb,so,bh,et,bm⟩:=ak.sl (by decide);simp only[Zg,YZ,YQ]at bh;obtain⟨rfl,rfl⟩:=bh;have q0:=bm (j*3) (by show j*3<9;omega);have q1:=bm (j*3+1) (by show j*3+1<9;omega);have q2:=bm (j*3+2) (by show j*3+2<9;omega);rw[s0,Z1]at q0;rw[s1,Z1]at q1;rw[s2,Z1]at q2;have mN:0<m3:=by omega
   have fz:=hy' dh;have fm:=hy' s0;have e6:=hy' s1;have fp:=hy' s2;have dm:=hy' bq;have fh:nm.toArray.size≤100:=by simpa using ck
   clear bt a1 ak au bp ai g1 g2 ec hyq dr dz b2 bm bx s0 s1 s2 bq dh ee eh;go_upto_region 6 with (fail)
   go_quiet (fail);go_upto_region 7 with (fail)
   obtain⟨wj,a6⟩:∃wj,wi.drewN nq=wj:=⟨_,rfl⟩;have aa:Below wi.heap.size wi wj.drew:=by rw[←a6];exact (below_drewN (Zc _ wi) nq).drew
   rw[a6];clear a6;have dk:=hy' (ba.o.below aa);have c8:=hy' (zDb br.o aa);have bl:=hy' (b1.o.trans (aa.mono b1.o.size));have e0:=zF3 dk.o (by decide) (by decide) fm.o;have e1:=zF3 dk.o (by decide) (by decide) e6.o;have e2:=zF3 dk.o (by decide) (by decide) fp.o;rw[Z1]at e0 e1 e2;obtain⟨n1,cj⟩:∃y:ByteArray,⟨nm.toArray⟩=y:=⟨_,rfl⟩;obtain⟨t1,cp⟩:∃y:ByteArray,⟨(Xt.ln c nm [70,105,114,115,116]).toArray⟩=y:=⟨_,rfl⟩;obtain⟨t2,cf⟩:∃y:ByteArray,⟨(Xt.ln d nm [76,97,115,116]).toArray⟩=y:=⟨_,rfl⟩
   have fk:Hy (∀W,Below w.heap.size w W→Calls prog 99 #[.agg #[.int .i32 c,.int .i32 d,.string n1],.int .i32 c,.string ⟨#[70,105,114,115,116]⟩] W fun e w'=>e=.returned (.string t1)∧Below W.heap.size W w'):=hy' fun W hW=>by
    have:=Xt.line_any c d c nm [70,105,114,115,116] W hc ck (by decide) ((HL.o.next hW).1);rw[cj,cp]at this;exact this
   have e9:Hy (∀W,Below w.heap.size w W→Calls prog 99 #[.agg #[.int .i32 c,.int .i32 d,.string n1],.int .i32 d,.string ⟨#[76,97,115,116]⟩] W fun e w'=>e=.returned (.string t2)∧Below W.heap.size W w'):=hy' fun W hW=>by
    have:=Xt.line_any c d d nm [76,97,115,116] W hd ck (by decide) ((HL.o.next hW).1);rw[cj,cf]at this;exact this
   have e4:t1.size≤300:=by
    rw[←cp,zAx];have:=zAE c hc;unfold Xt.ln;simp;omega
   have ew:t2.size≤300:=by
    rw[←cf,zAx];have:=zAE d hd;unfold Xt.ln;simp;omega
   have ae:Lib.byteCells (Xt.mid k (j+1))=Lib.byteCells (Xt.mid k j)++Lib.strCells (t1++t2):=by
    rw[dm.o,←cp,←cf,zAJ];unfold Lib.byteCells Lib.strCells;simp
   have ah:(Lib.byteCells (Xt.mid k j)).length+600≤140737488355328:=by
    have:(Lib.byteCells (Xt.mid k j)).length=(Xt.mid k j).length:=by unfold Lib.byteCells;simp
    have h2:=Xt.mid_len k j (by omega);omega
   have ch:=hy' ae;have bf:=hy' ah;have c1:¬9223372036854775807<t1.size+t2.size:=by omega
   rw[cj]at e2;have ep:w2.heap.size≤wj.drew.heap.size:=Zh ao aa.size;have aq:=hy' aa;clear cp cf cj ae ah aa;refine Stg.wp_region (by kernel_rfl) Bd.Kept zJl ?_;(iterate 2 (refine Stg.readW (by kernel_rfl) ?_;intro K hK;go_big_quiet_op;go_big_quiet_on));refine Stg.read 0 (by kernel_rfl) wj.drew rfl ?_;intro K hK;go_big_quiet_op;go_big_quiet_on;(iterate 3 (refine Stg.readW (by kernel_rfl) ?_;intro K hK;go_big_quiet_op;go_big_quiet_on));refine Stg.read 0 (by kernel_rfl) wj.drew rfl ?_;intro K hK;go_big_quiet_op;go_big_quiet_on;refine Stg.cl 99 _ _ rfl func99 [.agg #[.int .i32 c,.int .i32 d,.string n1],.int .i32 c,.string ⟨#[70,105,114,115,116]⟩] rfl wj.drew _ (fk.out _ bl.o) (by kernel_rfl) rfl ?_;rintro e q1 ⟨rfl,hb⟩;refine⟨_,rfl,zGC hb,?_⟩;have ap:=hy' hb;clear hb;intro A' af;simp only[Act.put,Zl,Zv,Zs]at af;subst af
   (iterate 2 (refine Stg.readW (by kernel_rfl) ?_;intro K hK;go_big_quiet_op;go_big_quiet_on));refine Stg.read 1 (by kernel_rfl) wj.drew rfl ?_;intro K hK;go_big_quiet_op;go_big_quiet_on;(iterate 3 (refine Stg.readW (by kernel_rfl) ?_;intro K hK;go_big_quiet_op;go_big_quiet_on));refine Stg.read 1 (by kernel_rfl) wj.drew rfl ?_;intro K hK;go_big_quiet_op;go_big_quiet_on;refine Stg.cl 99 _ _ rfl func99 [.agg #[.int .i32 c,.int .i32 d,.string n1],.int .i32 d,.string ⟨#[76,97,115,116]⟩] rfl q1 _ (e9.out _ (bl.o.trans (ap.o.mono bl.o.size))) (by kernel_rfl) rfl ?_;rintro e q2 ⟨rfl,hb⟩;refine⟨_,rfl,zGC hb,?_⟩;have b3:=hy' (ap.o.trans (hb.mono ap.o.size));clear hb;intro A' af;simp only[Act.put,Zl,Zv,Zs]at af;subst af;refine Stg.readW (by kernel_rfl) ?_;intro K hK;go_big_quiet_op;go_big_quiet_on;have cb:=zDb c8.o b3.o;have aw:=zGx w.heap.size w2.heap.size _ (t1++t2) q2 bn (Zh ep b3.o.size) cb (by rw[ZU];have:=bf.o;omega);rw[←ch.o]at aw;refine Stg.cl 98 _ _ rfl func98 [.pointer (some ⟨w.heap.size,0,none⟩),.string (t1++t2)] rfl q2 _ (aw) (by kernel_rfl) rfl ?_;rintro e q3 ⟨rfl,ag,bc,bg⟩;refine⟨_,rfl,bc,?_⟩;intro A' af;simp only[Act.put,Zl,Zv,Zs]at af;subst af;refine Stg.nil q3 rfl ?_;have bi:Bd.Kept wi q3:=fun t A xs g1 g2 hs=>bc t A xs g1 g2 ((hs.below aq.o).below b3.o)
   have az:=hy' ag;have a7:=hy' bi;have b4:=hy' (ax.o.trans (((aq.o.trans (b3.o.mono aq.o.size)).mono (Zh (Z5 bn) ao)).trans bg));have fq:wb.heap.size≤q3.heap.size:=Zh fw (Zh (aq.o.trans (b3.o.mono aq.o.size)).size bg.size);clear ag bc bg bi cb aw e0 e1 e2;go_wp2_with fail;refine⟨⟨j+1,_,_,by omega,by omega,by rw[show 3-(j+1)=m3-1 by omega],by omega,fun hh=>?_,az.o,zG8 ay.o a7.o,a7.o _ _ _ (by decide) (by decide) ba.o,a7.o _ _ _ (by decide) (by decide) cz.o,a7.o _ _ _ (by decide) (by decide) b9.o,b4.o,fq⟩,?_⟩
   · rw[Zk (by omega),show (j+1)*3=j*3+3 by omega]
   show m3-1<m3;omega
 have bo:zCw (k+1)=j:=by omega
 have bu:=eh.o;rw[bo]at bu;obtain⟨tx,cd⟩:∃y:ByteArray,⟨(Rw.line r).toArray⟩=y:=⟨_,rfl⟩
 have eg:Hy (∀W,Below w.heap.size w W→Below wi.heap.size wi W→Calls prog 100 #[.agg #[.int .i32 r.1,.int .i64 r.2.1,.slice a.1 ml a.2]] W fun e w'=>e=.returned (.string tx)∧Below W.heap.size W w'):=hy' fun W hW hV=>by
  have:=zMM r.1 r.2.1 a.1 r.2.2 ml a.2 W.heap.size W f1 f2 f3 f4 cc.o f5 f6 (Za _) ((b9.o.below hV).sl) (HL.o.next hW);rw[show (r.1,r.2.1,r.2.2)=r from rfl,cd]at this;exact this
 have e4:tx.size≤1000:=by
  rw[←cd,zAx];exact zG1 r ⟨f1,f2,f3,f4,by rw[cc.o];exact f5,f6⟩
 have ae:Lib.byteCells (Xt.mid (k+1) j)=Lib.byteCells (Xt.mid k j)++Lib.strCells (tx++⟨#[10]⟩):=by
  rw[bu,←cd,show (⟨#[10]⟩:ByteArray)=⟨[10].toArray⟩ from rfl,zAJ];unfold Lib.byteCells Lib.strCells;simp
 have ah:(Lib.byteCells (Xt.mid k j)).length+2000≤140737488355328:=by
  have:(Lib.byteCells (Xt.mid k j)).length=(Xt.mid k j).length:=by unfold Lib.byteCells;simp
  have h2:=Xt.mid_len k j (by have:zCw (k+1)≤3:=by { unfold zCw;split <;> omega };omega);omega
 have ch:=hy' ae;have bf:=hy' ah;have ei:=hy' bo;have eo:=hy' af;have dn:=hy' bw;have bz:=hy' cw;have s1:(⟨#[10]⟩:ByteArray).size=1:=rfl;have c1:¬9223372036854775807<tx.size+(⟨#[10]⟩:ByteArray).size:=by omega
 have cm:j≤3:=by
  have:zCw (k+1)≤3:=by { unfold zCw;split <;> omega }
  omega
 have b8:=fun h=>fun h2=>hon (g1.2 ⟨h,h2⟩)
 clear ae ah cd bu bt a1 bp ai g1 g2 bw cw bo
 by_cases hj:j<3
 · obtain⟨c,d,nm,x,y,s0,_,_,hc,hd,ck,b2,_,_,_,_⟩:=zKq j hj;have e8:=b8 hj;rw[←b2]at e8;obtain⟨sb,so,bh,et,bm⟩:=ak.sl (by decide);simp only[Zg,YZ,YQ]at bh;obtain⟨rfl,rfl⟩:=bh;have q0:=bm (j*3) (by show j*3<9;omega);rw[s0,Z1]at q0;obtain rfl:=af hj;have mN:0<m3:=by have:=bz.o;omega
   clear af b8 ak au b2 bm s0 bx;go_upto_region 6 with (fail)
   go_quiet (fail);obtain⟨wj,a6⟩:∃wj,wi.drewN nq=wj:=⟨_,rfl⟩;have aa:Below wi.heap.size wi wj:=by rw[←a6];exact below_drewN (Zc _ wi) nq
   have ct:=((zAQ aa).1 _ 0 a8).trans r0;have cu:=((zAQ aa).1 _ 1 a8).trans r1;have c6:=((zAQ aa).1 _ 2 a8).trans r2;have c7:=Zf a8 aa.size;have b6:=eg.out wj (b1.o.trans (aa.mono b1.o.size)) aa;have aq:=hy' aa;rw[a6];clear a6 aa r0 r1 r2 a8;go_wp2_with fail;refine b6.mono ?_;rintro e q1 ⟨rfl,bj⟩;have ap:=hy' (aq.o.trans (bj.mono aq.o.size));have aw:=zGx w.heap.size w2.heap.size _ (tx++⟨#[10]⟩) q1 bn (Zh ao ap.o.size) (zDb br.o ap.o) (by rw[ZU];have:=bf.o;omega);rw[←ch.o]at aw;clear bj b6 ct cu c6;go_wp2_with fail;refine aw.mono ?_;rintro e q3 ⟨rfl,ag,bc,bg⟩;have bi:Bd.Kept wi q3:=fun t A xs g1 g2 hs=>bc t A xs g1 g2 (hs.below ap.o)
   have az:=hy' ag;have a7:=hy' bi;have b4:=hy' (ax.o.trans ((ap.o.mono (Zh (Z5 bn) ao)).trans bg));clear ag bc bg bi aw;go_wp2_with fail;have bo:=ei.o;subst bo;refine⟨⟨k+1,_,_,by omega,by go_num,by rw[bz.o],by rw[bz.o];exact dn.o,fun _=>rfl,az.o,zG8 ay.o a7.o,a7.o _ _ _ (by decide) (by decide) ba.o,b4.o⟩,by simp[intOf];omega⟩
 have mN:¬0<m3:=by have:=bz.o;omega
 obtain rfl:m3=0:=by omega
 clear af b8 ak au bx;go_upto_region 6 with (fail)
 go_quiet (fail);obtain⟨wj,a6⟩:∃wj,wi.drewN nq=wj:=⟨_,rfl⟩;have aa:Below wi.heap.size wi wj:=by rw[←a6];exact below_drewN (Zc _ wi) nq
 have ct:=((zAQ aa).1 _ 0 a8).trans r0;have cu:=((zAQ aa).1 _ 1 a8).trans r1;have c6:=((zAQ aa).1 _ 2 a8).trans r2;have c7:=Zf a8 aa.size;have b6:=eg.out wj (b1.o.trans (aa.mono b1.o.size)) aa;have aq:=hy' aa;rw[a6];clear a6 aa r0 r1 r2 a8;go_wp2_with fail;refine b6.mono ?_;rintro e q1 ⟨rfl,bj⟩;have ap:=hy' (aq.o.trans (bj.mono aq.o.size));have aw:=zGx w.heap.size w2.heap.size _ (tx++⟨#[10]⟩) q1 bn (Zh ao ap.o.size) (zDb br.o ap.o) (by rw[ZU];have:=bf.o;omega);rw[←ch.o]at aw;clear bj b6 ct cu c6;go_wp2_with fail;refine aw.mono ?_;rintro e q3 ⟨rfl,ag,bc,bg⟩;have bi:Bd.Kept wi q3:=fun t A xs g1 g2 hs=>bc t A xs g1 g2 (hs.below ap.o)
 have az:=hy' ag;have a7:=hy' bi;have b4:=hy' (ax.o.trans ((ap.o.mono (Zh (Z5 bn) ao)).trans bg));clear ag bc bg bi aw;go_wp2_with fail;have bo:=ei.o;subst bo;refine⟨⟨k+1,_,_,by omega,by go_num,by rw[bz.o],by rw[bz.o];exact dn.o,eo.o,az.o,zG8 ay.o a7.o,a7.o _ _ _ (by decide) (by decide) ba.o,b4.o⟩,by simp[intOf];omega⟩
def zGD:List Int:=[2392,2394,10972,10973,64285,64286,64287,64288,119134,119135]
theorem zLs:C.ok zGD:=⟨by unfold C.srt zGD;decide,by unfold zGD;decide,by decide⟩
theorem zJm:zCA (zAI zGD)=zIa:=by decide +kernel
theorem zSk:zMT=zGD:=by
 have h:=zKP zLs fun d hd=>by
  have h1:zQe (zAI zGD) d=true:=by rw[zGS zGD zLs d];exact hd
  have h2:=(zK4 _ d).2 h1;rw[zJm]at h2;exact zQZ d h2
 rw[zJm]at h;exact h
theorem zOi (w:World) (hL:Rw.Laid w):Calls prog 70 #[] w fun e w'=>e=.returned (.string ⟨(zAg zIa).toArray⟩)∧Below w.heap.size w w':=by
 obtain⟨wa,ae⟩:∃wa,w.alloc (.cells #[.int .i32 2392,.int .i32 2393,.int .i32 10972,.int .i32 64285,.int .i32 64287,.int .i32 119134] 21)=wa:=⟨_,rfl⟩;have ao:Below w.heap.size w wa:=by rw[←ae];exact (Zc _ _).alloc (Za _) _
 have ah:Sl wa wa.heap.size (some ⟨w.heap.size,0,none⟩) (zIa.map (Value.int .i32)):=Sl.lit rfl 21 (0,0) (by rw[←ae];exact ZT w _);have hC:=C.chars_any (some ⟨w.heap.size,0,none⟩) 6 6 wa.heap.size zIa wa rfl (by decide) (Za _) ah;have aj:C.chars zIa=zGD:=zSk;rw[aj]at hC;have aq:=hy' ae;have ai:=hy' ao;have HL:=hy' hL;clear ae ao ah aj hL;go_enter func70,ntmps70;go_upto_region 1 with (fail)
 go_wp2_with (first|(go_at_call 103;rw[aq.o];refine hC.mono ?_;rintro e w1 ⟨A1,c1,rfl,aa,ak⟩;have HO:=hy' (Slt.of_own aa);have af:=hy' (ai.o.trans (ak.mono ai.o.size));clear aa ak)|(go_at_call 102;refine (Ex.text_any _ _ 10 zGD zIa _ rfl (by decide) zLs zJm zQZ (by decide) HO.o (HL.o.next af.o).1).mono ?_;rintro e w2 ⟨rfl,ag⟩;have ap:=hy' (af.o.trans (ag.mono af.o.size));clear ag)|fail);go_ret;exact⟨rfl,ap.o⟩
theorem zRJ (v:Value) (w:World):(binOp .eql 115 .nilIface (.iface 197 v)).run prog w=.ok (.bool false) w:=run_eql_iface_nil_left (P:=prog) w 197 v underlying115
theorem zR4 (b:Nat) (w:World):Calls prog 71 #[.nilIface,.iface 197 (.pointer (some ⟨b,0,none⟩))] w fun e w'=>e=.returned (.bool false)∧w=w':=by
 have hn:=zRJ (.pointer (some ⟨b,0,none⟩));go_enter func71,ntmps71;go_wp2_with fail;go_ret;exact⟨rfl,rfl⟩
theorem zOj (w:World) (hL:Rw.Laid w):Calls prog 46 #[] w fun e w'=>∃p,e=.returned p∧Ud.Is w' p Xt.T zMT∧Below w.heap.size w w':=by
 have ap:=hy' (zOh w hL);have ak:=hy' (fun W (hW:Below w.heap.size w W)=>zOi W (hL.next hW))
 have av:Hy (∀W,Below w.heap.size w W→Calls prog 68 #[.string ⟨Xt.text.toArray⟩,.string ⟨(zAg zIa).toArray⟩] W (zI7 Xt.T zMT W)):=hy' fun W hW =>
  zJd _ _ (by rw[zAx];have:=Xt.text_len;omega) (by rw[zAx];have:=zD9 zIa (fun c hc=>Ud.isC_bd (zQZ c hc));have h2:zIa.length=6:=rfl;omega) Xt.T zIa Xt.parse zR0 Xt.ok Xt.bd W (hL.next hW)
 obtain⟨s1,ah⟩:∃y:ByteArray,⟨Xt.text.toArray⟩=y:=⟨_,rfl⟩;obtain⟨s2,ai⟩:∃y:ByteArray,⟨(zAg zIa).toArray⟩=y:=⟨_,rfl⟩;rw[ah]at ap;simp only[ai]at ak;simp only[ah,ai]at av;clear ah ai hL;go_enter func46,ntmps46;go_wp2_with fail;refine ap.o.mono ?_;rintro e w1 ⟨rfl,ar⟩;have aa:=hy' ar;clear ar;go_wp2_with fail;refine (ak.o w1 aa.o).mono ?_;rintro e w2 ⟨rfl,aj⟩;have ae:=hy' (aa.o.trans (aj.mono aa.o.size));clear aj;go_wp2_with fail;refine (av.o w2 ae.o).mono ?_;rintro e w3 ⟨p,rfl,ao,aq⟩;have ax:=hy' ao;have au:=hy' (ae.o.trans (aq.mono ae.o.size));clear ao aq;go_wp2_with fail;refine (F.of_any 8 w3).mono ?_;rintro e w4 ⟨q,v,rfl,hq,ay,af⟩;rw[Zk (by decide)]at hq
 obtain⟨⟨b,c,n,s⟩,q',rfl⟩:∃x q',q=x::q':=by
  cases q with
  | nil=>simp[F.lk]at hq
  | cons x q'=>exact⟨x,q',rfl⟩
 obtain⟨rfl,_⟩:=ay;have ag:=hy' (ax.o.below af);have aw:=hy' (au.o.trans (af.mono au.o.size));clear af hq;go_wp2_with fail;refine (zR4 _ w4).mono ?_;rintro e w5 ⟨rfl,rfl⟩;go_wp2_with fail;go_ret;exact⟨_,rfl,ag.o,aw.o⟩
theorem zOk {f:Int→Int}:∀(l:List Int) (t:Int) (k:Nat) {x:Int},l[k]?=some x→Or.inB f t (l.take k)=true→Or.inB f t l=Or.inB f ((l.take k).foldl (fun _ y=>f y) t) (l.drop k)
 | [],t,k,x,h,_=>by simp at h
 | y::l,t,0,x,h,_=>rfl
 | y::l,t,k+1,x,h,hi=>by
   rw[Xi]at hi ⊢;unfold Or.inB at hi;split at hi
   · cases hi
   rename_i hh;rw[List.foldl_cons,List.drop_succ_cons,←zOk l (f y) k (by simpa using h) hi]
   conv=>lhs;unfold Or.inB
   rw[Zk hh]
theorem Tx.sym (aa:FuncId) (cd:Option Addr) (k:Int→Int) (N:Nat) (h:∀(args:Array Value) (w:World),(callFunc aa args).run prog w=.ok (.enter aa args) w):zE7 aa cd k N:=zK5 aa cd k h N
theorem zSv (v:Value) (T:List Rw.Row) (S:List Int) (A:Option Addr) (n c:Nat) (l:List Int) (w:World) (ok:Ud.Ok T S) (h:Ud.Is w v T S) (hl:l.length=n) (hn:n≤100000) (hA:Sl w w.heap.size A (l.map (Value.int .i32))) :
 Calls prog 88 #[v,.slice A n c] w (Md.RetOwn (Or.of (Md.cls T) l) w):=Or.of_any v T S A n c l w ok h hl hn hA Tx.sym
theorem Tx.lit16:Or.of (Md.cls Xt.T) [97,769,803]=[97,803,769]:=by decide +kernel
theorem zSw:Or.inB (Md.cls Xt.T) 0 [97,803,769]=true:=by decide +kernel
theorem zG9 (z s:ByteArray):(z.toList == s.toList)=decide (z=s):=by
 rw[zEK,zEK,Yf,Yb,YT];constructor
 · intro h;obtain⟨⟨a⟩⟩:=z;obtain⟨⟨b⟩⟩:=s;simp only[]at h;rw[h]
 intro h;rw[h]
def Nf.tl (T:List Rw.Row) (cs:List Int) (r:List UInt8):List Int:=if r=[]∧(Nf.fl T cs).length≤1024 then Nf.chars T cs else []
def Nf.tn (T:List Rw.Row) (cs:List Int) (r:List UInt8):Int:=if r=[] then (if (Nf.fl T cs).length≤1024 then 0 else 7) else 6
theorem zKr (T:List Rw.Row) (cs:List Int) (a:UInt8) (r:List UInt8):Nf.tl T cs (a::r)=[]:=Zk fun h=>by cases h.1
theorem zKs (T:List Rw.Row) (cs:List Int) (a:UInt8) (r:List UInt8):Nf.tn T cs (a::r)=6:=Zk fun h=>by cases h
theorem zKt {T:List Rw.Row} {cs:List Int} (h:¬(Nf.fl T cs).length≤1024) (r:List UInt8):Nf.tl T cs r=[]:=Zk fun g=>h g.2
theorem zKu {T:List Rw.Row} {cs:List Int} (h:¬(Nf.fl T cs).length≤1024):Nf.tn T cs []=7:=by unfold Nf.tn;rw[if_pos rfl,if_neg h]
theorem zGE {T:List Rw.Row} {cs:List Int} (h:(Nf.fl T cs).length≤1024):Nf.tl T cs []=Nf.chars T cs:=Zm ⟨rfl,h⟩
theorem zGF {T:List Rw.Row} {cs:List Int} (h:(Nf.fl T cs).length≤1024):Nf.tn T cs []=0:=by unfold Nf.tn;rw[if_pos rfl,if_pos h]
theorem zPQ (T:List Rw.Row) (l:List Int) (k:Nat):(Nf.fl T (l.take k)).length≤(Nf.fl T l).length:=by
 conv=>rhs;rw[←ZI k l]
 unfold Nf.fl;rw[YK,Zd];omega
theorem Nf.chars_le {T:List Rw.Row} {S:List Int} (ok:Ud.Ok T S) (l:List Int):(Nf.chars T l).length≤32*l.length:=by
 rw[Nf.chars_len];exact zEa (fun c=>zAS ok c) l
theorem Nf.text_any (v:Value) (T:List Rw.Row) (S:List Int) (s:ByteArray) (w:World) (ok:Ud.Ok T S) (h:Ud.Is w v T S) (hs:s.size≤1000000000000) (hH:Heads w) (cs:List Int) (r:List UInt8) (hd:zH1 s.data.toList cs r) (hcs:cs.length≤3000) :
 Calls prog 63 #[v,.string s] w (RetOwn2 21 .i32 (Nf.tl T cs r) (Nf.tn T cs r) w):=by
 have ae:=zHw s w hs hH cs r hd;have az:∀c∈cs,-2147483648≤c∧c≤2147483647:=zKc hd.2.1;rcases r with _|⟨r0,r'⟩
 rotate_left
 · rw[zE9,zIR]at ae;rw[zKr,zKs];obtain⟨pv,rfl,_⟩:=h.form;have HD:=hy' ae;clear ae az hd hH hs ok h;go_enter func63,ntmps63;go_wp2_with fail;refine HD.o.mono ?_;rintro e w1 ⟨A1,c1,rfl,ag,ar⟩;have ai:=hy' ar;clear ag ar;go_wp2_with fail;go_ret2;exact RetOwn2.mk (ZE _ _ _ _) rfl rfl ai.o
 obtain⟨n,hn⟩:∃n,cs.length=n:=⟨_,rfl⟩;have bh:zGs cs []=cs:=rfl;have bl:zOC []=0:=rfl;rw[bh,bl]at ae;unfold RetOwn2 at ae;rw[hn]at ae hcs;have bo:Hy (∀x W,Below w.heap.size w W → -2147483648≤x→x≤2147483647→Calls prog 51 #[v,.int .i32 x] W (RetInts .i32 (Ud.full T x) W)):=hy' fun x W hW h3 h4=>Ud.full_any v T S x W ok (h.below hW) h3 h4
 have bn:Hy (∀A c W,Below w.heap.size w W→Sl W W.heap.size A (cs.map (Value.int .i32))→Calls prog 65 #[v,.slice A n c] W (Md.RetOwn (Nf.chars T cs) W)):=hy' fun A c W hW hA=>Nf.Chars_any v T S A n c cs W ok (h.below hW) hn hcs az hA Tx.sym
 obtain⟨pv,rfl,_⟩:=h.form;have HD:=hy' ae;have HN:=hy' hn;have br:=hy' az;have bf:=hy' (fun c=>zAS ok c);clear ae hn az hd bh bl hH hs ok h;go_enter func63,ntmps63;go_wp2_with fail;refine HD.o.mono ?_;rintro e w1 ⟨A1,c1,rfl,ag,ar⟩;have bj:=hy' (Sl.of_own ag);have ai:=hy' ar;have bs:=ar.size;clear ag ar;go_wp2_with fail;go_loopw [8,10,21] (fun nv _ i wr=>∃(k:Nat),k≤n∧i=.int .i64 k∧nv=.int .i64 (Nf.fl T (cs.take k)).length∧(Nf.fl T (cs.take k)).length≤1024∧Below w1.heap.size w1 wr) (fun nv _ i _=>n-(intOf i).toNat)
 case atStart=>exact⟨0,ZF _,rfl,rfl,by simp[Nf.fl],Zc _ _⟩
 obtain⟨k,hk,rfl,rfl,hle,aa⟩:=hrel
 by_cases hlt:k<n
 · obtain⟨x,hx⟩:∃x,cs[k]?=some x:=⟨_,Zb (by rw[HN.o];exact hlt)⟩;obtain⟨a7,a6⟩:=br.o x (Zj hx);obtain⟨ab,ao,hA2,bt,bg⟩:=bj.o.below aa (Za _) (by rw[Ze,HN.o];omega);have hc:=bg k (by rw[Ze,HN.o];exact hlt);rw[Zo,hx,Zz]at hc;have bb:=Z6 List.length (zFj (T:=T) hx);rw[Zd]at bb;have ba:=zPQ T cs (k+1);have a1:=bf.o x;have au:=bo.o x wr (ai.o.trans (aa.mono ai.o.size)) a7 a6;obtain⟨m,hm⟩:∃m,Ud.full T x=m:=⟨_,rfl⟩;obtain⟨ml,ay⟩:∃q,m.length=q:=⟨_,rfl⟩;obtain⟨sn,aj⟩:∃q,(Nf.fl T (cs.take k)).length=q:=⟨_,rfl⟩;obtain⟨s2,ak⟩:∃q,(Nf.fl T (cs.take (k+1))).length=q:=⟨_,rfl⟩;obtain⟨sf,ax⟩:∃q,(Nf.fl T cs).length=q:=⟨_,rfl⟩;unfold RetInts at au;rw[hm,ay]at au a1;rw[ak,aj,hm,ay]at bb;rw[ak,ax]at ba;rw[aj]at hle ⊢;subst bb;have kI:(k:Int)<n:=by omega
   have k0:(0:Int)≤k:=by omega
   have bi:=hy' ak;have bq:=hy' ax;have af:=hy' aa;have bm:=hy' au;subst hA2
   by_cases hbig:sn+ml≤1024
   · have hg:¬((sn:Int)+ml > 1024):=by omega
     clear hx a7 a6 bg hm ay aj au aa ak ax ba;go_wp2_with (first|(go_at_call 51;refine bm.o.mono ?_;rintro e w2 ⟨A2,c2,rfl,ak,ap⟩;have av:=hy' (af.o.trans (ap.mono af.o.size));clear ak ap hc)|fail);exact⟨⟨k+1,by omega,by first|rfl|go_num,by rw[bi.o];first|rfl|go_num,by rw[bi.o];exact hbig,av.o⟩,by simp[intOf];omega⟩
   have hg:(sn:Int)+ml > 1024:=by omega
   have ah:¬(Nf.fl T cs).length≤1024:=by rw[bq.o];omega
   have aw:=hy' (zKt ah []);have bc:=hy' (zKu ah);clear hx a7 a6 bg hm ay aj au aa ak ax ba ah;go_wp2_with (first|(go_at_call 51;refine bm.o.mono ?_;rintro e w2 ⟨A2,c2,rfl,ak,ap⟩;have av:=hy' (af.o.trans (ap.mono af.o.size));clear ak ap hc)|fail);go_ret2;rw[aw.o,bc.o];exact RetOwn2.mk (ZE _ _ _ _) rfl rfl (ai.o.trans (av.o.mono ai.o.size))
 obtain rfl:k=n:=by omega
 rw[Zi (by rw[HN.o];exact Za _)]at hle ⊢;have kI:¬(k:Int)<k:=by omega
 have a8:=bn.o A1 c1 wr (ai.o.trans (aa.mono ai.o.size)) (bj.o.below aa aa.size);have aw:=hy' (zGE hle);have bc:=hy' (zGF hle);obtain⟨Z,hZ⟩:∃Z,Nf.chars T cs=Z:=⟨_,rfl⟩;rw[hZ]at a8 aw;have af:=hy' (ai.o.trans (aa.mono ai.o.size));have bk:=hy' a8;clear aa a8 hle hZ;go_wp2_with fail;refine bk.o.mono ?_;rintro e w2 ⟨A2,c2,rfl,aq,ap⟩;have bp:=hy' (zAR aq af.o.size);have av:=hy' (af.o.trans (ap.mono af.o.size));clear aq ap bk;go_wp2_with fail;go_ret2;rw[aw.o,bc.o];exact RetOwn2.mk bp.o rfl rfl av.o
theorem Nf.of_any (v:Value) (T:List Rw.Row) (S:List Int) (s:ByteArray) (w:World) (ok:Ud.Ok T S) (h:Ud.Is w v T S) (hs:s.size≤1000000000000) (hH:Heads w) (cs:List Int) (r:List UInt8) (hd:zH1 s.data.toList cs r) (hcs:cs.length≤3000) :
 Calls prog 37 #[v,.string s] w fun e w'=>e=.returned (.tuple #[.string (zAv (Nf.tl T cs r)),.int .i64 (Nf.tn T cs r)])∧Below w.heap.size w w':=by
 have ag:=Nf.text_any v T S s w ok h hs hH cs r hd hcs
 have hlen:(Nf.tl T cs r).length≤100000:=by
  unfold Nf.tl;split
  · have:=Nf.chars_le ok cs;omega
  simp
 have ah:∀c∈Nf.tl T cs r,-2147483648≤c∧c≤2147483647:=by
  unfold Nf.tl;split
  · exact fun c hc=>Nf.isC_i32 (Nf.chars_isC ok hd.2.1 c hc)
  simp
 have aj:Nf.tn T cs r=0∨(Nf.tn T cs r≠0∧Nf.tl T cs r=[]):=by
  unfold Nf.tn Nf.tl
  by_cases h1:r=[]
  · by_cases h2:(Nf.fl T cs).length≤1024
    · left;rw[Zm h1,Zm h2]
    right;rw[Zm h1,Zk h2,Zk (fun g=>h2 g.2)];exact⟨by decide,rfl⟩
  right;rw[Zk h1,Zk (fun g=>h1 g.1)];exact⟨by decide,rfl⟩
 obtain⟨z,hz⟩:∃z,Nf.tl T cs r=z:=⟨_,rfl⟩;obtain⟨e,he⟩:∃e,Nf.tn T cs r=e:=⟨_,rfl⟩;rw[hz,he]at ag ⊢;rw[hz]at hlen ah;rw[hz,he]at aj;obtain⟨pv,rfl,_⟩:=h.form;have HT:=hy' ag;have HC:=hy' ah;have HH:=hy' hH;clear ag ah hz he hd hcs ok h hs hH;rcases aj with rfl|⟨hne,rfl⟩
 · go_enter func37,ntmps37;go_wp2_with fail;refine HT.o.mono ?_;rintro e w1 ⟨A1,c1,rfl,aa,ae⟩;have ak:=zEN A1 c1 w1.heap.size z w1 (Za _) (Sl.of_own aa) (by omega) HC.o (HH.o.next ae);have HE:=hy' ak;have af:=hy' ae;clear aa ae ak;go_wp2_with fail;refine HE.o.mono ?_;rintro e w2 ⟨rfl,ai⟩;have ap:=hy' (af.o.trans (ai.mono af.o.size));clear ai;go_wp2_with fail;go_ret2;exact⟨rfl,ap.o⟩
 have aq:=hy' hne;have ao:(e == 0)=false:=by simpa using hne
 clear hne;go_enter func37,ntmps37;go_wp2_with fail;refine HT.o.mono ?_;rintro e w1 ⟨A1,c1,rfl,aa,ae⟩;have af:=hy' ae;clear aa ae;go_wp2_with fail;go_ret2;exact⟨rfl,af.o⟩
theorem Nf.rtext_any (v:Value) (T:List Rw.Row) (E:List Int) (s:ByteArray) (w:World) (a1:T.length≤100000) (hbd:Md.bd T) (aj:∀r∈T,r.2.2.length≤1000) (hle:∀c,(Ud.full T c).length≤32) (h:Md.Doc w v T E) (hs:s.size≤1000000000000) (cs:List Int) (r:List UInt8) (hd:zH1 s.data.toList cs r) (hcs:cs.length≤3000) :
 Calls prog 39 #[v,.string s] w (RetOwn2 3 .i64 (Nf.tl T cs r) (Nf.tn T cs r) w):=by
 have aa:=fun W=>zKW s W hs cs r hd
 have bc:∀c∈cs,-2147483648≤c∧c≤2147483647:=zKc hd.2.1;have hdd:=h;obtain⟨AT,cT,XA,xc,rfl,_⟩:=hdd;obtain⟨tn,bg⟩:∃k,T.length=k:=⟨_,rfl⟩;obtain⟨xn,hxn⟩:∃k,E.length=k:=⟨_,rfl⟩;rw[bg,hxn]at h ⊢;have bo:∀x W,Below w.heap.size w W → -2147483648≤x→x≤2147483647→Calls prog 20 #[zAX AT tn cT XA xn xc,.int .i64 x] W (zCM (Md.full T x) W):=fun x W hW h3 h4=>zEJ _ T E x W a1 (h.below hW) hbd aj h3 h4
 have bb:∀A c W,Below w.heap.size w W→Sl W W.heap.size A (cs.map (Value.int .i64))→Calls prog 16 #[zAX AT tn cT XA xn xc,.slice A cs.length c] W (zBn (Nf.chars T cs) W):=fun A c W hW hA=>Nf.rchars_any _ T E A cs.length c cs W a1 hbd aj hle (h.below hW) rfl hcs bc hA
 unfold zAX at *;obtain⟨wa,ax⟩:∃wa,w.alloc (.cells #[.slice AT tn cT,.slice XA xn xc] 25)=wa:=⟨_,rfl⟩;have bn:Below w.heap.size w wa:=by rw[←ax];exact (Zc _ _).alloc (Za _) _
 have bj:Rw.At wa w.heap.size 25 [.slice AT tn cT,.slice XA xn xc]:=by rw[←ax];exact Rw.At.new w 25 [.slice AT tn cT,.slice XA xn xc]
 have bq:=hy' ax;have a6:=hy' bn;have b6:=hy' bj;have bx:=hy' bo;rcases r with _|⟨r0,r'⟩
 rotate_left
 · rw[zKr,zKs];have hg:((zPr cs (r0::r'))≥0):=by rw[zKb];omega
   obtain⟨at',aw⟩:∃z,zPr cs (r0::r')=z:=⟨_,rfl⟩;rw[zE9]at aa;rw[aw]at aa hg;have HD:=hy' aa;clear ax bn bj bo bb aa bc hd hs h bg hxn a1 hbd aj hle aw bx;go_enter func39,ntmps39;go_upto_region 1 with (fail)
   rw[bq.o];go_wp2_with fail;refine (HD.o wa).mono ?_;rintro e w1 ⟨A1,c1,rfl,ag,au⟩;have av:=hy' (a6.o.trans (au.mono a6.o.size));clear ag au;go_wp2_with fail;go_ret2;exact RetOwn2.mk (ZE _ _ _ _) rfl rfl av.o
 obtain⟨n,hn⟩:∃n,cs.length=n:=⟨_,rfl⟩;have bs:zGs cs []=cs:=rfl;have b2:zPr cs [] = -1:=rfl;rw[bs,b2]at aa;unfold RetOwn2 at aa;rw[hn]at aa hcs bb;have HD:=hy' aa;have HN:=hy' hn;have b8:=hy' bc;have b4:=hy' bb;have bp:=hy' hle;have b3:=hy' (zEa hle);clear ax bn bj bo bb aa hn bc hd bs b2 hs h bg hxn a1 hbd aj hle;go_enter func39,ntmps39;go_upto_region 1 with (fail)
 rw[bq.o];go_wp2_with fail;refine (HD.o wa).mono ?_;rintro e w1 ⟨A1,c1,rfl,ag,au⟩;have bw:=hy' (Sl.of_own ag);have av:=hy' (a6.o.trans (au.mono a6.o.size));have bh:=hy' (b6.o.below au);have cb:=av.o.size;clear ag au;go_wp2_with fail;go_loopw [8,10,11,12,22] (fun nv _ _ _ i wr=>∃(k:Nat),k≤n∧i=.int .i64 k∧nv=.int .i64 (Nf.fl T (cs.take k)).length∧Below w1.heap.size w1 wr) (fun nv _ _ _ i _=>n-(intOf i).toNat)
 case atStart=>exact⟨0,ZF _,rfl,rfl,Zc _ _⟩
 obtain⟨k,hk,rfl,rfl,ae⟩:=hrel;have ar:=b3.o (cs.take k);rw[Zr,HN.o]at ar;have ah:=bh.o.below ae;have z0:=ah.cell 0 rfl;have z1:=ah.cell 1 rfl;have zl:=ah.lt;have ap:=av.o.trans (ae.mono av.o.size)
 by_cases hlt:k<n
 · obtain⟨x,hx⟩:∃x,cs[k]?=some x:=⟨_,Zb (by rw[HN.o];exact hlt)⟩;obtain⟨bt,br⟩:=b8.o x (Zj hx);obtain⟨ab,ao,hA2,cc,bu⟩:=bw.o.below ae (Za _) (by rw[Ze,HN.o];omega);have hc:=bu k (by rw[Ze,HN.o];exact hlt);rw[Zo,hx,Zz]at hc;have bl:=Z6 List.length (zFj (T:=T) hx);rw[Zd]at bl;have bf:=bp.o x;have ba:=bx.o x wr ap bt br;obtain⟨m,hm⟩:∃m,Ud.full T x=m:=⟨_,rfl⟩;obtain⟨ml,aj⟩:∃q,m.length=q:=⟨_,rfl⟩;obtain⟨sn,aq⟩:∃q,(Nf.fl T (cs.take k)).length=q:=⟨_,rfl⟩;obtain⟨s2,az⟩:∃q,(Nf.fl T (cs.take (k+1))).length=q:=⟨_,rfl⟩;unfold zCM at ba;rw[show (Md.full T x).getD []=m from hm,aj]at ba;rw[hm,aj]at bf;rw[az,aq,hm,aj]at bl;rw[aq]at ar ⊢;subst bl;have kI:(k:Int)<n:=by omega
   have k0:(0:Int)≤k:=by omega
   have cd:sn≤96000:=by omega
   have b5:=hy' az;have af:=hy' ae;have b9:=hy' ba;subst hA2;clear hx bt br bu hm aj aq ba ae az ah ap ar;go_wp2_with fail;refine b9.o.mono ?_;rintro e w2 ⟨A2,c2,rfl,az,ay⟩;have bk:=hy' (af.o.trans (ay.mono af.o.size));clear az ay hc z0 z1 zl;go_wp2_with fail;exact⟨⟨k+1,by omega,by first|rfl|go_num,by rw[b5.o];first|rfl|go_num,bk.o⟩,by simp[intOf];omega⟩
 obtain rfl:k=n:=by omega
 rw[Zi (by rw[HN.o];exact Za _)]at ar ⊢;have kI:¬(k:Int)<k:=by omega
 obtain⟨sf,a8⟩:∃q,(Nf.fl T cs).length=q:=⟨_,rfl⟩;have b1:=hy' a8;rw[a8]
 by_cases hbig:sf≤1024
 · have hg:¬((sf:Int) > 1024):=by omega
   have hle:(Nf.fl T cs).length≤1024:=by rw[b1.o];exact hbig
   have bi:=b4.o A1 c1 wr ap (bw.o.below ae ae.size);have a7:=hy' (zGE hle);have bm:=hy' (zGF hle);obtain⟨Z,hZ⟩:∃Z,Nf.chars T cs=Z:=⟨_,rfl⟩;rw[hZ]at bi a7;have af:=hy' ap;have bz:=hy' bi;clear ae bi hle hZ ar a8 ah ap;go_wp2_with fail;refine bz.o.mono ?_;rintro e w2 ⟨A2,c2,rfl,ak,ay⟩;have b7:=hy' (zAR ak af.o.size);have bk:=hy' (af.o.trans (ay.mono af.o.size));clear ak ay bz z0 z1 zl;go_wp2_with fail;go_ret2;rw[a7.o,bm.o];exact RetOwn2.mk b7.o rfl rfl bk.o
 have hg:(sf:Int) > 1024:=by omega
 have ai:¬(Nf.fl T cs).length≤1024:=by rw[b1.o];exact hbig
 have a7:=hy' (zKt ai []);have bm:=hy' (zKu ai);have af:=hy' ap;clear ae ai ar a8 ah ap;go_wp2_with fail;go_ret2;rw[a7.o,bm.o];exact RetOwn2.mk (ZE _ _ _ _) rfl rfl af.o
section
variable {T:List Rw.Row} {S:List Int}
theorem Nf.fl_app (l m:List Int):Nf.fl T (l++m)=Nf.fl T l++Nf.fl T m:=by unfold Nf.fl;exact List.flatMap_append
theorem Nf.fl_one (c:Int):Nf.fl T [c]=Ud.full T c:=by unfold Nf.fl;simp
theorem zC5 (c:Int) (l:List Int):Nf.fl T (c::l)=Ud.full T c++Nf.fl T l:=by unfold Nf.fl;exact List.flatMap_cons
theorem zRK (ok:Ud.Ok T S) (l:List Int):∀x∈Nf.fl T l,Md.mp T x=[]:=fun x hx=>by
 unfold Nf.fl at hx;obtain⟨c,_,h⟩:=List.mem_flatMap.1 hx;exact zL0 ok c x h
theorem zKv (ok:Ud.Ok T S) {l:List Int} (h:∀x∈l,Md.mp T x=[]):Nf.fl T l=l:=by
 induction l with
 | nil=>rfl
 | cons c l ih=>rw[zC5,zFk ok (h c Zu),ih fun x hx=>h x (Zy _ hx)];rfl
theorem zGa (ok:Ud.Ok T S) (l:List Int):∀x∈Nf.chars T l,Md.mp T x=[]:=fun x hx=>zRK ok l x ((zPY _ _ x).1 hx)
theorem zLt (ok:Ud.Ok T S) (l:List Int):∀x∈Nf.chars T l,Ud.full T x=[x]:=fun x hx=>zFk ok (zGa ok l x hx)
theorem zJn (ok:Ud.Ok T S) (l:List Int):Nf.fl T (Nf.chars T l)=Nf.chars T l:=zKv ok (zGa ok l)
theorem zOl (ok:Ud.Ok T S) (l:List Int):Or.inB (Md.cls T) 0 (Nf.chars T l)=true:=zOr (fun x=>(zDF ok x).1) _
theorem Nf.chars_chars (ok:Ud.Ok T S) (l:List Int):Nf.chars T (Nf.chars T l)=Nf.chars T l:=by
 show Or.of _ (Nf.fl T (Nf.chars T l))=_;rw[zJn ok];unfold Nf.chars;exact zOp _ _
theorem zOI {l m:List Int}:Or.Q (Md.cls T) (Nf.fl T l) (Nf.fl T m)↔Nf.chars T l=Nf.chars T m:=zR9
theorem zF4 {l l' m m':List Int} (h:Nf.chars T l=Nf.chars T l') (h':Nf.chars T m=Nf.chars T m'):Nf.chars T (l++m)=Nf.chars T (l'++m'):=by
 rw[←zOI]at *;rw[Nf.fl_app,Nf.fl_app];exact h.app h'
theorem zJC (ok:Ud.Ok T S) (l m:List Int):Nf.chars T (Nf.chars T l++m)=Nf.chars T (l++m):=zF4 (Nf.chars_chars ok l) rfl
theorem zRR (ok:Ud.Ok T S) (a b:List Int) {c:Int} (hc:Md.mp T c≠[]):Nf.chars T (a++(Md.mp T c++b))=Nf.chars T (a++c::b):=by
 have:Nf.fl T (Md.mp T c)=Nf.fl T [c]:=by rw[Nf.fl_one,zHz ok hc];rfl
 refine zF4 rfl ?_;show Nf.chars T (Md.mp T c++b)=Nf.chars T ([c]++b);refine zF4 ?_ rfl;unfold Nf.chars;rw[this]
theorem zRL (ok:Ud.Ok T S) (a b:List Int) {x y:Int} (hx:0<Md.cls T x) (hy:0<Md.cls T y) (aa:Md.cls T x≠Md.cls T y) (mx:Md.mp T x=[]) (my:Md.mp T y=[]):Nf.chars T (a++y::x::b)=Nf.chars T (a++x::y::b):=by
 rw[←zOI,Nf.fl_app,Nf.fl_app,zC5,zC5,zC5,zC5,zFk ok mx,zFk ok my];exact Or.Q.swap hy hx (fun h=>aa h.symm) _ _
theorem zRM (l m:List Int):(Nf.chars T (l++m)).length=(Nf.chars T l).length+(Nf.chars T m).length:=by
 unfold Nf.chars;rw[zEw,zEw,zEw,Nf.fl_app,Zd]
theorem zLu (ok:Ud.Ok T S):∀l:List Int,l.length≤(Nf.fl T l).length
 | []=>Za _
 | c::l=>by
   have h1:=zLu ok l;have h2:=List.length_pos_iff.2 (zKe ok c);rw[zC5,Zd,ZB];omega
theorem zSl (ok:Ud.Ok T S) (l:List Int):l.length≤(Nf.chars T l).length:=by
 have:=zLu ok l;unfold Nf.chars;rw[zEw];exact this
theorem zSR (ok:Ud.Ok T S) (l:List Int):Nf.chars T l=l↔(∀x∈l,Md.mp T x=[])∧Or.inB (Md.cls T) 0 l=true:=by
 constructor
 · intro h;exact⟨fun x hx=>zGa ok l x (by rw[h];exact hx),by have:=zOl ok l;rw[h]at this;exact this⟩
 rintro⟨h1,h2⟩;unfold Nf.chars;rw[zKv ok h1];exact (zPZ (fun x=>(zDF ok x).1) l).1 h2
def zBw (T:List Rw.Row) (S:List Int) (l:List Int):List Int:=Nc.join (Md.cls T) (Nc.j T S) l
def Nc.chars (T:List Rw.Row) (S:List Int) (l:List Int):List Int:=zBw T S (Nf.chars T l)
theorem zMQ (ok:Ud.Ok T S) (l:List Int):Nf.chars T (Nc.chars T S l)=Nf.chars T l:=by
 have h:=zQ0 (Nc.fit ok) (zLt ok l);have h2:=h.of;have e:Or.of (Md.cls T) (Nf.chars T l)=Nf.chars T l:=by unfold Nf.chars;exact zOp _ _
 rw[e]at h2;exact h2.symm
theorem zEq {l m:List Int} (h:Nf.chars T l=Nf.chars T m):Nc.chars T S l=Nc.chars T S m:=by unfold Nc.chars;rw[h]
theorem Nc.chars_chars (ok:Ud.Ok T S) (l:List Int):Nc.chars T S (Nc.chars T S l)=Nc.chars T S l:=zEq (zMQ ok l)
theorem zMR (ok:Ud.Ok T S) (l:List Int):Nc.chars T S (Nf.chars T l)=Nc.chars T S l:=zEq (Nf.chars_chars ok l)
theorem Nc.chars_len (ok:Ud.Ok T S) (l:List Int):(Nc.chars T S l).length≤(Nf.chars T l).length∧(Nf.chars T l≠[]→0<(Nc.chars T S l).length):=zDW _
theorem zRS (ok:Ud.Ok T S) (l m:List Int):Nf.chars T l=Nf.chars T m↔Nc.chars T S l=Nc.chars T S m :=
 ⟨zEq,fun h=>by rw[←zMQ ok l,←zMQ ok m,h]⟩
def Sp.head (T:List Rw.Row) (c:Int):Int:=(Ud.full T c).headD 0
def Sp.start (T:List Rw.Row) (c:Int):Bool:=decide (Md.cls T (Sp.head T c)=0)
def zLv (T:List Rw.Row) (S:List Int) (c:Int):Bool:=C.isC c&&(Sp.start T c&&!Nc.sec T S (Sp.head T c))
theorem zCx (ok:Ud.Ok T S) (c:Int):∃M,Ud.full T c=Sp.head T c::M:=by
 unfold Sp.head;cases h:Ud.full T c with
 | nil=>exact absurd h (zKe ok c)
 | cons a M=>exact⟨M,rfl⟩
theorem Nf.chars_cut (ok:Ud.Ok T S) {c:Int} (hc:Sp.start T c=true) (a b:List Int):Nf.chars T (a++c::b)=Nf.chars T a++Nf.chars T (c::b):=by
 obtain⟨M,hM⟩:=zCx ok c;unfold Sp.start at hc;have h0:=YM hc;unfold Nf.chars;rw[Nf.fl_app,zC5,hM,Zx,zLB (by omega)]
theorem Nc.chars_cut (ok:Ud.Ok T S) {c:Int} (hc:zLv T S c=true) (a b:List Int):Nc.chars T S (a++c::b)=Nc.chars T S a++Nc.chars T S (c::b):=by
 unfold zLv at hc;simp only[Zw,Yu]at hc;obtain⟨_,hs,hn⟩:=hc;obtain⟨M,hM⟩:=zCx ok c;unfold Nc.chars;rw[Nf.chars_cut ok hs];have h0:Md.cls T (Sp.head T c)=0:=by unfold Sp.start at hs;exact of_decide_eq_true hs
 have e:Nf.chars T (c::b)=Sp.head T c::Or.of (Md.cls T) (M++Nf.fl T b):=by
  unfold Nf.chars;rw[zC5,hM,Zx,zON (by omega)]
 rw[e];exact zMW h0 (fun x=>zNB ok hn x) _ _
end
theorem zSS {T:List Rw.Row} {S:List Int} (h:Ud.Ok T S) {c d:Int} (hd:d∈Md.mp T c):C.isC d=true:=by
 unfold Md.mp at hd;split at hd
 · rename_i hp;rw[zCr]at hp;simp only[Zn]at hp;have hk:=zFb c;have aa:zA2 c=4∨zA2 c=5:=by omega
   have hs:=zAt c aa;rcases aa with h4|h5
   · rw[zAO c h4]at hd;simp only[Xe,Z7,QT]at hd;unfold C.isC;simp only[Zn];omega
   rw[zAW c h5]at hd;simp only[Xe,Z7,QT]at hd;unfold C.isC;simp only[Zn];omega
 unfold zAV at hd;cases hf:Md.find T c with
 | none=>rw[hf]at hd;simp at hd
 | some r =>
   rw[hf]at hd;exact ((h.good r (zAq hf).1).2.2.2.2.2 d (by simpa using hd)).1
def Nf.Laid (w:World):Prop:=Rw.Laid w∧Heads w
theorem Nf.Laid.next {w w':World} (h:Nf.Laid w) (hb:Below w.heap.size w w'):Nf.Laid w':=⟨h.1.next hb,h.2.next hb⟩
theorem zCR {z:List Int} (h:∀c∈z,U.isC c=true):zH1 (zAv z).data.toList z []:=by
 rw[zIT h];exact⟨by simp,h,rfl⟩
theorem zEr {z:List Int} (h:∀c∈z,U.isC c=true):(zAv z).size≤4*z.length:=by
 rw[zIT h];have:=zIS z;show (zAd z).toArray.size≤_;simpa using this
theorem zKw {x y:List Int} (hx:∀c∈x,U.isC c=true) (hy:∀c∈y,U.isC c=true) (h:zAv x=zAv y):x=y :=
 (zHv (zCR hx) (h▸zCR hy)).1
theorem zEs (A:Option Addr) (n cap:Nat) (l:List Int) (w:World) (hn:l.length=n) (hl:n≤100000000) (hA:Sl w w.heap.size A (l.map (Value.int .i64))) (hb:∀c∈l,U.isC c=true) :
 Calls prog 26 #[.slice A n cap] w fun e w'=>e=.returned (.string (zAv l))∧Below w.heap.size w w':=by
 have:=zKZ A cap w.heap.size l w (Za _) hA (by omega) hb;rw[hn]at this;rw[zIT hb];exact this
section
variable (v:Value) (T:List Rw.Row) (S:List Int) (z:List Int) (w:World) (ok:Ud.Ok T S) (h:Ud.Is w v T S) (hH:Heads w) (hz:∀c∈z,C.isC c=true) (hl:z.length≤3000) (hf:(Nf.fl T z).length≤1024)
include ok h hH hz hl hf
theorem Nf.of_chars:Calls prog 37 #[v,.string (zAv z)] w fun e w'=>e=.returned (.tuple #[.string (zAv (Nf.chars T z)),.int .i64 0])∧Below w.heap.size w w':=by
 have:=Nf.of_any v T S (zAv z) w ok h (by have:=zEr hz;omega) hH z [] (zCR hz) hl;rw[zGE hf,zGF hf]at this;exact this
end
theorem zIc {T:List Rw.Row} {S:List Int} (ok:Ud.Ok T S) {z:List Int} (h:z.length≤32):(Nf.fl T z).length≤1024:=by
 have:=zEa (fun c=>zAS ok c) z;omega
theorem Nf.fl_ch {T:List Rw.Row} {S:List Int} (ok:Ud.Ok T S) {z:List Int} (h:(Nf.fl T z).length≤1024):(Nf.fl T (Nf.chars T z)).length≤1024:=by
 rw[zJn ok,Nf.chars_len];exact h
theorem Nf.lit17:Nf.chars Xt.T [7785]=[115,803,775]:=by decide +kernel
theorem zOJ:zAv [7785]=⟨#[225,185,169]⟩:=by decide +kernel
theorem zST:zAv [115,803,775]=⟨#[115,204,163,204,135]⟩:=by decide +kernel
end Go.Proofs.YtjakbblocbicjaaGreatDoor
