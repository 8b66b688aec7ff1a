/- The layer nfc: a character more, and characters put together, by walking its text. -/
import Derived.Test.YtjakbblocbicjaaGreatDoorMdRef5
import Derived.Test.YtjakbblocbicjaaGreatDoorUdOf
set_option maxRecDepth 100000
set_option maxHeartbeats 4000000
set_option linter.unusedVariables false
set_option linter.unusedSimpArgs false
namespace Go.Proofs.YtjakbblocbicjaaGreatDoor
open Go.Proofs.Tryz
open Go.RowKit
def Nc.base (s:Nc.St):Int:=match s.b with|none => -1|some _=>(s.pre.length:Int)
def Nc.In (w:World) (jb:Nat) (pv:Value) (f:Int→Int) (s:Nc.St):Prop :=
 ∃A c,Rw.At w jb 110 [pv,.slice A s.out.length c,.int .i64 (Nc.base s),.int .i64 (zC2 f s.B)]∧w.ownsRow (jb+1) 21 1 (.slice A s.out.length c) s.out.length (s.out.map (Value.int .i32))
theorem zQH {f:Int→Int} (h:∀x,0≤f x∧f x≤254) (B:List Int) : -1≤zC2 f B∧zC2 f B≤254:=by
 unfold zC2
 have:∀(B:List Int) (m:Int),-1≤m→m≤254 → -1≤B.foldl (fun m x=>max m (f x)) m∧B.foldl (fun m x=>max m (f x)) m≤254:=by
  intro B
  induction B with
  | nil=>intro m h1 h2;exact⟨h1,h2⟩
  | cons y B ih=>intro m h1 h2;have:=h y;rw[YD];exact ih _ (by omega) (by omega)
 exact this B (-1) (by omega) (by omega)
theorem zD3 {s:Nc.St} {x:Int} (h:s.b=some x):s.out[s.pre.length]?=some x:=by
 unfold Nc.St.out;rw[h,ZH (Za _),Ym];rfl
theorem zCO {s:Nc.St} {x p:Int} (h:s.b=some x):(⟨s.pre,some p,s.B⟩:Nc.St).out=s.out.set s.pre.length p:=by
 unfold Nc.St.out;rw[h,Yz _ _ (Za _),Ym];rfl
theorem Nc.put_any (jb:Nat) (pv:Value) (T:List Rw.Row) (S:List Int) (s:Nc.St) (c:Int) (w:World) (ok:Ud.Ok T S) (h:Ud.Is w pv T S) (hI:Nc.In w jb pv (Md.cls T) s) (dw : -2147483648≤c) (ef:c≤2147483647) (hs:s.out.length≤100000) (b6:∀x,s.b=some x → -2147483648≤x∧x≤2147483647) :
 Calls prog 66 #[.pointer (some ⟨jb,0,none⟩),.int .i32 c] w fun e w'=>e=.returned (.tuple #[])∧Nc.In w' jb pv (Md.cls T) (Nc.put (Md.cls T) (Nc.j T S) s c)∧Below jb w w':=by
 obtain⟨i0,cy,cu,cz,c1⟩:=Z2 zBL;have cn:=Ud.class_any pv T S c w ok h;have hbd:=fun x=>zDF ok x
 obtain⟨dh,dm⟩:=zQH hbd s.B;obtain⟨dl,di⟩:=hbd c;have du:Hy (∀x W,Below w.heap.size w W → -2147483648≤x→x≤2147483647→Calls prog 90 #[pv,.int .i32 x,.int .i32 c] W fun e w'=>e=.returned (.tuple #[.int .i32 (Ud.joinK T S x c).1,.bool (Ud.joinK T S x c).2])∧Below W.heap.size W w'):=hy' fun x W hW h3 h4=>Ud.join_any pv T S x c W ok (h.below hW) h3 h4 dw ef
 obtain⟨A,cp,a8,b1⟩:=hI;obtain⟨pb,rfl,_⟩:=h.form
 have dc:Hy (∀x,Ud.joinK T S x c=(((Nc.j T S x c).getD (Ud.joinK T S x c).1),(Nc.j T S x c).isSome)):=hy' fun x=>by
  unfold Nc.j;cases hk:(Ud.joinK T S x c).2
  · rw[Zk (by simp)];exact Qv rfl hk
  rw[Zm rfl];exact Qv rfl hk
 obtain⟨f,hf⟩:∃f,Md.cls T=f:=⟨_,rfl⟩;obtain⟨j0,hj0⟩:∃j0,Nc.j T S=j0:=⟨_,rfl⟩;rw[hj0]at dc ⊢;rw[hf]at cn a8 dh dm dl di ⊢;obtain⟨n,hn⟩:∃n,s.out.length=n:=⟨_,rfl⟩;rw[hn]at a8 b1 hs;obtain⟨q,hq⟩:∃q,f c=q:=⟨_,rfl⟩;rw[hq]at cn dl di;obtain⟨la,cv⟩:∃z,zC2 f s.B=z:=⟨_,rfl⟩;rw[cv]at a8 dh dm;obtain⟨ba,cm⟩:∃z,Nc.base s=z:=⟨_,rfl⟩;rw[cm]at a8
 have dk:ba = -1∨(0≤ba∧ba<n):=by
  rw[←cm,←hn];unfold Nc.base Nc.St.out;cases s.b with
  | none=>exact .inl rfl
  | some x=>right;simp;omega
 have HN:=hy' hn;have HQ:=hy' hq;have b4:=hy' cv;have bs:=hy' cm;have ea:=hy' cn;have df:=hy' b6;have eg:=hy' dk;have bp:=hy' a8;have bl:=hy' b1;have z0:=a8.cell 0 rfl;have z1:=a8.cell 1 rfl;have z2:=a8.cell 2 rfl;have z3:=a8.cell 3 rfl;have zl:=a8.lt;clear cn hbd hn hq cv cm b6 a8 b1 h ok dk hf hj0;go_enter func66,ntmps66;go_wp2_with fail;refine ea.o.mono ?_;rintro e w1 ⟨rfl,cr⟩;have bi:=hy' cr;have ao:=bp.o.below cr;have bz:=hy' ao;have au:=hy' (zA4 bl.o cr (Za _));clear z0 z1 z2 z3 zl cr;have z0:=ao.cell 0 rfl;have z1:=ao.cell 1 rfl;have z2:=ao.cell 2 rfl;have z3:=ao.cell 3 rfl;have zl:=ao.lt;have cq:=ao.frozen 1;have cj:=ao.frozen 2;have ck:=ao.frozen 3;clear ao;have ed:=hy' (Zc w.heap.size w);rcases hh:Nc.hit f j0 s c with _|p
 ·
  have ap:=hy' (show Nc.put f j0 s c=Nc.app f s c by unfold Nc.put;rw[hh])
  have dp:¬(ba≥0∧la<q)∨((ba≥0)∧la<q∧∃x,s.b=some x∧j0 x c=none):=by
   by_cases hg:ba≥0∧la<q
   · right
     refine⟨hg.1,hg.2,?_⟩;unfold Nc.hit at hh;rw[b4.o,HQ.o,Zm hg.2]at hh;have hb:=bs.o;unfold Nc.base at hb;cases b6:s.b with
     | none=>rw[b6]at hb;simp only[]at hb;omega
     | some x=>rw[b6]at hh;exact⟨x,rfl,hh⟩
   exact .inl hg
  have ee:=hy' dp;clear dp hh;rcases ee.o with hg|⟨b7,dx,x,hx,c7⟩
  rotate_left
  · have dz:(0:Int)≤ba:=b7;have a6:(s.pre.length:Int)=ba:=by have:=bs.o;unfold Nc.base at this;rw[hx]at this;exact this
    have b3:s.pre.length<n:=by rw[←HN.o];exact (List.getElem?_eq_some_iff.1 (zD3 hx)).1
    obtain⟨pl,cg⟩:∃q,s.pre.length=q:=⟨_,rfl⟩;have bk:=zD3 hx;rw[cg]at a6 b3 bk;subst a6;obtain⟨ob,oo,hA2,bx,b8⟩:=(Sl.of_own au.o) (by rw[Ze,HN.o];omega);have hce:=b8 pl (by rw[Ze,HN.o];exact b3);rw[Zo,bk,Zz]at hce;cases hA2
    obtain⟨rfl,bw,_,cx⟩:=zFh au.o;rw[Z1]at hce;obtain⟨br,bu⟩:=df.o x hx;have bt:=dc.o x;rw[c7]at bt
    have ct:Hy (∀W,Below w1.heap.size w1 W→(∀u:Stg.Later Stg.Ex W,u.val.cell? ⟨jb,0,none⟩=some (.pointer (some ⟨pb,0,none⟩)))∧(∀u:Stg.Later Stg.Ex W,u.val.cell? ⟨jb,1,none⟩=some (.slice (some ⟨ob,0,none⟩) n cp))∧(∀u:Stg.Later Stg.Ex W,u.val.cell? ⟨jb,2,none⟩=some (.int .i64 pl))∧(∀u:Stg.Later Stg.Ex W,u.val.cell? ⟨ob,pl,none⟩=some (.int .i32 x))):=hy' fun W hW =>
     have hT:=bz.o.below hW
     ⟨Stg.cells (hT.cell 0 rfl) hT.lt,Stg.cells (hT.cell 1 rfl) hT.lt,Stg.cells (hT.cell 2 rfl) hT.lt,Stg.cells (((zAQ hW).1 _ _ bx).trans hce) (Zf bx hW.size)⟩
    have c8:Hy (∀W,Below w1.heap.size w1 W→Calls prog 90 #[.pointer (some ⟨pb,0,none⟩),.int .i32 x,.int .i32 c] W fun e w'=>e=.returned (.tuple #[.int .i32 (Ud.joinK T S x c).1,.bool false])∧Below W.heap.size W w'):=hy' fun W hW=>by
     have:=du.o x W (bi.o.trans (hW.mono bi.o.size)) br bu;rw[bt]at this;exact this
    have pI:(pl:Int)<n:=by omega
    have bj:=hy' (Zc w1.heap.size w1).drew;have dy:=hy' bk;have dn:=hy' hce;have cb:=hy' (And.intro bx bw);clear bt b8 hce bk cx z0 z1 cq;go_upto_region 2 with (fail)
    refine Stg.wp_region (by kernel_rfl) Stg.Ex Stg.Ex.rel ?_;(iterate 3 (refine Stg.readW (by kernel_rfl) ?_;intro K hK;go_big_quiet_op;go_big_quiet_on));obtain⟨f0,f1,f2,e0⟩:=ct.o w1.drew bj.o;refine Stg.read 0 (by kernel_rfl) w1.drew rfl ?_;intro K hK;go_big_quiet_op;go_big_quiet_on;(iterate 3 (refine Stg.readW (by kernel_rfl) ?_;intro K hK;go_big_quiet_op;go_big_quiet_on));refine Stg.read 0 (by kernel_rfl) w1.drew rfl ?_;intro K hK;go_big_quiet_op;go_big_quiet_on;(iterate 3 (refine Stg.readW (by kernel_rfl) ?_;intro K hK;go_big_quiet_op;go_big_quiet_on));refine Stg.read 0 (by kernel_rfl) w1.drew rfl ?_;intro K hK;go_big_quiet_op;go_big_quiet_on;refine Stg.readW (by kernel_rfl) ?_;intro K hK;go_big_quiet_op;go_big_quiet_on;refine Stg.read 0 (by kernel_rfl) w1.drew rfl ?_;intro K hK;go_big_quiet_op;go_big_quiet_on;refine Stg.readW (by kernel_rfl) ?_;intro K hK;go_big_quiet_op;go_big_quiet_on;refine Stg.cl 90 _ _ rfl func90 [.pointer (some ⟨pb,0,none⟩),.int .i32 x,.int .i32 c] rfl w1.drew _ (c8.o w1.drew bj.o) (by kernel_rfl) rfl ?_;rintro e q1 ⟨rfl,hb⟩;refine⟨_,rfl,hb,?_⟩;have b2:=hy' (bj.o.trans (hb.mono bj.o.size));clear hb;intro A' cf;simp only[Act.put,Zl,Zv,Zs]at cf;subst cf
    (iterate 5 (refine Stg.readW (by kernel_rfl) ?_;intro K hK;go_big_quiet_op;go_big_quiet_on));clear f0 f1 f2 e0;refine Stg.nil q1 rfl ?_;have av:=bi.o.trans (b2.o.mono bi.o.size);go_upto_region 5 with (fail);obtain⟨w5,bo⟩:∃w5:World,w5=q1:=⟨_,rfl⟩;rw[←bo]at av ⊢;clear bo z2 z3 zl cj ck;have ae:=bp.o.below av;have bg:=hy' ae;have ar:=hy' (zA4 bl.o av (Za _));have ch:=hy' (av.mono (Z5 bp.o.lt));have z0:=ae.cell 0 rfl;have z1:=ae.cell 1 rfl;have zl:=ae.lt;have b9:jb+1≤w5.heap.size:=ae.lt;clear av ae;go_upto_region 6 with (first|(at_builtin;refine zAa _ rfl _ _ _ rfl (jb+1) 21 i0 _ 4 underlying35 cy cu cz c1 rfl _ n _ rfl ar.o _ rfl rfl (by simp only[maxLen];omega) (by omega) b9 ?_;intro v2 w6 ah bf;obtain⟨A6,c6,rfl⟩:=zA3 ah;have ai:=bg.o.below' bf (ZO _);have y1:=ai.cell 1 rfl;have yl:=ai.lt;have yf:=ai.frozen 1)|fail)
    obtain⟨w7,aq⟩:∃w7,w6.setCell ⟨jb,1,none⟩ (.slice A6 (n+1) c6)=w7:=⟨_,rfl⟩;rw[aq];have af:Rw.At w7 jb 110 [.pointer (some ⟨pb,0,none⟩),.slice A6 (n+1) c6,.int .i64 pl,.int .i64 la]:=by rw[←aq];exact ai.set 1 _
    have ak:w7.ownsRow (jb+1) 21 1 (.slice A6 (n+1) c6) (n+1) ((s.out++[c]).map (Value.int .i32)):=by
     rw[←aq,ZL];exact Z9 ah (by show jb<jb+1;omega) _
    have bm:Below jb w w7:=by rw[←aq];exact (ch.o.trans (bf.mono (ZW _))).setCell (p:=⟨jb,1,none⟩) (Za _) _
    have az:=hy' ak;have a7:=hy' af;have b5:=hy' bm;clear ai y1 yl yf ah bf aq ak bm z0 z1 zl;have z3:=af.cell 3 rfl;have zl:=af.lt;have zf:=af.frozen 3;obtain⟨mx,hmx⟩:∃mx,max la q=mx:=⟨_,rfl⟩;have bq:zC2 f (s.B++[c])=mx:=by rw[zFJ,b4.o,HQ.o,hmx]
    have cc:=hy' bq;clear af bq;go_upto_region 7 with (fail)
    obtain⟨w8,aw⟩:∃w8,w7.setCell ⟨jb,3,none⟩ (.int .i64 mx)=w8:=⟨_,rfl⟩;rw[aw];have aa:Rw.At w8 jb 110 [.pointer (some ⟨pb,0,none⟩),.slice A6 (n+1) c6,.int .i64 pl,.int .i64 mx]:=by rw[←aw];exact a7.o.set 3 _
    have aj:Hy (w8.ownsRow (jb+1) 21 1 (.slice A6 (n+1) c6) (n+1) ((s.out++[c]).map (Value.int .i32))):=hy' (by rw[←aw];exact Z9 az.o (by show jb<jb+1;omega) _);have bn:Hy (Below jb w w8):=hy' (by rw[←aw];exact b5.o.setCell (p:=⟨jb,3,none⟩) (Za _) _);have ay:=hy' aa;clear aw z3 zl zf hmx;have a1:Hy ((Nc.put f j0 s c).out.length=n+1):=hy' (by rw[ap.o,zAk,Zd,HN.o];rfl);rcases hq0:(q == 0) with _|_
    · have ag:¬q=0:=by simpa using hq0
      have ax:Nc.put f j0 s c=⟨s.pre,s.b,s.B++[c]⟩:=by rw[ap.o];unfold Nc.app;rw[if_neg (by rw[HQ.o];exact ag)]
      have bc:=hy' ax;clear ax aa ag;go_wp2_with fail;go_end0;refine⟨rfl,⟨A6,c6,?_,?_⟩,bn.o⟩
      · rw[a1.o,bc.o];show Rw.At w8 jb 110 [_,_,.int .i64 (Nc.base s),.int .i64 (zC2 f (s.B++[c]))];rw[bs.o,cc.o];exact ay.o
      rw[a1.o,ap.o,zAk];exact aj.o
    have ag:q=0:=by simpa using hq0
    have ax:Nc.put f j0 s c=⟨s.out,some c,[]⟩:=by rw[ap.o];unfold Nc.app;rw[if_pos (by rw[HQ.o];exact ag)]
    have bc:=hy' ax;have z1:=aa.cell 1 rfl;have z2:=aa.cell 2 rfl;have z3:=aa.cell 3 rfl;have zl:=aa.lt;have dt:=aa.frozen 2;have dr:=aa.frozen 3;clear ax aa ag;go_wp2_with fail;go_end0;refine⟨rfl,⟨A6,c6,?_,?_⟩,?_⟩
    · rw[a1.o,bc.o];have:=(ay.o.set 2 (.int .i64 n)).set 3 (.int .i64 (-1));show Rw.At _ jb 110 [_,_,.int .i64 (s.out.length:Int),.int .i64 (-1)];rw[HN.o];exact this
    · rw[a1.o,ap.o,zAk];exact Z9 (Z9 aj.o (by show jb<jb+1;omega) _) (by show jb<jb+1;omega) _
    exact (bn.o.setCell (p:=⟨jb,2,none⟩) (Za _) _).setCell (p:=⟨jb,3,none⟩) (Za _) _
  by_cases b7:ba≥0
  · have dx:¬la<q:=fun h=>hg ⟨b7,h⟩
    clear hg;go_upto_region 5 with (fail)
    have av:=bi.o;obtain⟨w5,bo⟩:∃w5:World,w5=w1:=⟨_,rfl⟩;rw[←bo]at av ⊢;clear bo z0 z1 z2 z3 zl cq cj ck;have ae:=bp.o.below av;have bg:=hy' ae;have ar:=hy' (zA4 bl.o av (Za _));have ch:=hy' (av.mono (Z5 bp.o.lt));have z0:=ae.cell 0 rfl;have z1:=ae.cell 1 rfl;have zl:=ae.lt;have b9:jb+1≤w5.heap.size:=ae.lt;clear av ae;go_upto_region 6 with (first|(at_builtin;refine zAa _ rfl _ _ _ rfl (jb+1) 21 i0 _ 4 underlying35 cy cu cz c1 rfl _ n _ rfl ar.o _ rfl rfl (by simp only[maxLen];omega) (by omega) b9 ?_;intro v2 w6 ah bf;obtain⟨A6,c6,rfl⟩:=zA3 ah;have ai:=bg.o.below' bf (ZO _);have y1:=ai.cell 1 rfl;have yl:=ai.lt;have yf:=ai.frozen 1)|fail)
    obtain⟨w7,aq⟩:∃w7,w6.setCell ⟨jb,1,none⟩ (.slice A6 (n+1) c6)=w7:=⟨_,rfl⟩;rw[aq];have af:Rw.At w7 jb 110 [.pointer (some ⟨pb,0,none⟩),.slice A6 (n+1) c6,.int .i64 ba,.int .i64 la]:=by rw[←aq];exact ai.set 1 _
    have ak:w7.ownsRow (jb+1) 21 1 (.slice A6 (n+1) c6) (n+1) ((s.out++[c]).map (Value.int .i32)):=by
     rw[←aq,ZL];exact Z9 ah (by show jb<jb+1;omega) _
    have bm:Below jb w w7:=by rw[←aq];exact (ch.o.trans (bf.mono (ZW _))).setCell (p:=⟨jb,1,none⟩) (Za _) _
    have az:=hy' ak;have a7:=hy' af;have b5:=hy' bm;clear ai y1 yl yf ah bf aq ak bm z0 z1 zl;have z3:=af.cell 3 rfl;have zl:=af.lt;have zf:=af.frozen 3;obtain⟨mx,hmx⟩:∃mx,max la q=mx:=⟨_,rfl⟩;have bq:zC2 f (s.B++[c])=mx:=by rw[zFJ,b4.o,HQ.o,hmx]
    have cc:=hy' bq;clear af bq;go_upto_region 7 with (fail)
    obtain⟨w8,aw⟩:∃w8,w7.setCell ⟨jb,3,none⟩ (.int .i64 mx)=w8:=⟨_,rfl⟩;rw[aw];have aa:Rw.At w8 jb 110 [.pointer (some ⟨pb,0,none⟩),.slice A6 (n+1) c6,.int .i64 ba,.int .i64 mx]:=by rw[←aw];exact a7.o.set 3 _
    have aj:Hy (w8.ownsRow (jb+1) 21 1 (.slice A6 (n+1) c6) (n+1) ((s.out++[c]).map (Value.int .i32))):=hy' (by rw[←aw];exact Z9 az.o (by show jb<jb+1;omega) _);have bn:Hy (Below jb w w8):=hy' (by rw[←aw];exact b5.o.setCell (p:=⟨jb,3,none⟩) (Za _) _);have ay:=hy' aa;clear aw z3 zl zf hmx;have a1:Hy ((Nc.put f j0 s c).out.length=n+1):=hy' (by rw[ap.o,zAk,Zd,HN.o];rfl);rcases hq0:(q == 0) with _|_
    · have ag:¬q=0:=by simpa using hq0
      have ax:Nc.put f j0 s c=⟨s.pre,s.b,s.B++[c]⟩:=by rw[ap.o];unfold Nc.app;rw[if_neg (by rw[HQ.o];exact ag)]
      have bc:=hy' ax;clear ax aa ag;go_wp2_with fail;go_end0;refine⟨rfl,⟨A6,c6,?_,?_⟩,bn.o⟩
      · rw[a1.o,bc.o];show Rw.At w8 jb 110 [_,_,.int .i64 (Nc.base s),.int .i64 (zC2 f (s.B++[c]))];rw[bs.o,cc.o];exact ay.o
      rw[a1.o,ap.o,zAk];exact aj.o
    have ag:q=0:=by simpa using hq0
    have ax:Nc.put f j0 s c=⟨s.out,some c,[]⟩:=by rw[ap.o];unfold Nc.app;rw[if_pos (by rw[HQ.o];exact ag)]
    have bc:=hy' ax;have z1:=aa.cell 1 rfl;have z2:=aa.cell 2 rfl;have z3:=aa.cell 3 rfl;have zl:=aa.lt;have dt:=aa.frozen 2;have dr:=aa.frozen 3;clear ax aa ag;go_wp2_with fail;go_end0;refine⟨rfl,⟨A6,c6,?_,?_⟩,?_⟩
    · rw[a1.o,bc.o];have:=(ay.o.set 2 (.int .i64 n)).set 3 (.int .i64 (-1));show Rw.At _ jb 110 [_,_,.int .i64 (s.out.length:Int),.int .i64 (-1)];rw[HN.o];exact this
    · rw[a1.o,ap.o,zAk];exact Z9 (Z9 aj.o (by show jb<jb+1;omega) _) (by show jb<jb+1;omega) _
    exact (bn.o.setCell (p:=⟨jb,2,none⟩) (Za _) _).setCell (p:=⟨jb,3,none⟩) (Za _) _
  clear hg;go_upto_region 5 with (fail)
  have av:=bi.o;obtain⟨w5,bo⟩:∃w5:World,w5=w1:=⟨_,rfl⟩;rw[←bo]at av ⊢;clear bo z0 z1 z2 z3 zl cq cj ck;have ae:=bp.o.below av;have bg:=hy' ae;have ar:=hy' (zA4 bl.o av (Za _));have ch:=hy' (av.mono (Z5 bp.o.lt));have z0:=ae.cell 0 rfl;have z1:=ae.cell 1 rfl;have zl:=ae.lt;have b9:jb+1≤w5.heap.size:=ae.lt;clear av ae;go_upto_region 6 with (first|(at_builtin;refine zAa _ rfl _ _ _ rfl (jb+1) 21 i0 _ 4 underlying35 cy cu cz c1 rfl _ n _ rfl ar.o _ rfl rfl (by simp only[maxLen];omega) (by omega) b9 ?_;intro v2 w6 ah bf;obtain⟨A6,c6,rfl⟩:=zA3 ah;have ai:=bg.o.below' bf (ZO _);have y1:=ai.cell 1 rfl;have yl:=ai.lt;have yf:=ai.frozen 1)|fail)
  obtain⟨w7,aq⟩:∃w7,w6.setCell ⟨jb,1,none⟩ (.slice A6 (n+1) c6)=w7:=⟨_,rfl⟩;rw[aq];have af:Rw.At w7 jb 110 [.pointer (some ⟨pb,0,none⟩),.slice A6 (n+1) c6,.int .i64 ba,.int .i64 la]:=by rw[←aq];exact ai.set 1 _
  have ak:w7.ownsRow (jb+1) 21 1 (.slice A6 (n+1) c6) (n+1) ((s.out++[c]).map (Value.int .i32)):=by
   rw[←aq,ZL];exact Z9 ah (by show jb<jb+1;omega) _
  have bm:Below jb w w7:=by rw[←aq];exact (ch.o.trans (bf.mono (ZW _))).setCell (p:=⟨jb,1,none⟩) (Za _) _
  have az:=hy' ak;have a7:=hy' af;have b5:=hy' bm;clear ai y1 yl yf ah bf aq ak bm z0 z1 zl;have z3:=af.cell 3 rfl;have zl:=af.lt;have zf:=af.frozen 3;obtain⟨mx,hmx⟩:∃mx,max la q=mx:=⟨_,rfl⟩;have bq:zC2 f (s.B++[c])=mx:=by rw[zFJ,b4.o,HQ.o,hmx]
  have cc:=hy' bq;clear af bq;go_upto_region 7 with (fail)
  obtain⟨w8,aw⟩:∃w8,w7.setCell ⟨jb,3,none⟩ (.int .i64 mx)=w8:=⟨_,rfl⟩;rw[aw];have aa:Rw.At w8 jb 110 [.pointer (some ⟨pb,0,none⟩),.slice A6 (n+1) c6,.int .i64 ba,.int .i64 mx]:=by rw[←aw];exact a7.o.set 3 _
  have aj:Hy (w8.ownsRow (jb+1) 21 1 (.slice A6 (n+1) c6) (n+1) ((s.out++[c]).map (Value.int .i32))):=hy' (by rw[←aw];exact Z9 az.o (by show jb<jb+1;omega) _);have bn:Hy (Below jb w w8):=hy' (by rw[←aw];exact b5.o.setCell (p:=⟨jb,3,none⟩) (Za _) _);have ay:=hy' aa;clear aw z3 zl zf hmx;have a1:Hy ((Nc.put f j0 s c).out.length=n+1):=hy' (by rw[ap.o,zAk,Zd,HN.o];rfl);rcases hq0:(q == 0) with _|_
  · have ag:¬q=0:=by simpa using hq0
    have ax:Nc.put f j0 s c=⟨s.pre,s.b,s.B++[c]⟩:=by rw[ap.o];unfold Nc.app;rw[if_neg (by rw[HQ.o];exact ag)]
    have bc:=hy' ax;clear ax aa ag;go_wp2_with fail;go_end0;refine⟨rfl,⟨A6,c6,?_,?_⟩,bn.o⟩
    · rw[a1.o,bc.o];show Rw.At w8 jb 110 [_,_,.int .i64 (Nc.base s),.int .i64 (zC2 f (s.B++[c]))];rw[bs.o,cc.o];exact ay.o
    rw[a1.o,ap.o,zAk];exact aj.o
  have ag:q=0:=by simpa using hq0
  have ax:Nc.put f j0 s c=⟨s.out,some c,[]⟩:=by rw[ap.o];unfold Nc.app;rw[if_pos (by rw[HQ.o];exact ag)]
  have bc:=hy' ax;have z1:=aa.cell 1 rfl;have z2:=aa.cell 2 rfl;have z3:=aa.cell 3 rfl;have zl:=aa.lt;have dt:=aa.frozen 2;have dr:=aa.frozen 3;clear ax aa ag;go_wp2_with fail;go_end0;refine⟨rfl,⟨A6,c6,?_,?_⟩,?_⟩
  · rw[a1.o,bc.o];have:=(ay.o.set 2 (.int .i64 n)).set 3 (.int .i64 (-1));show Rw.At _ jb 110 [_,_,.int .i64 (s.out.length:Int),.int .i64 (-1)];rw[HN.o];exact this
  · rw[a1.o,ap.o,zAk];exact Z9 (Z9 aj.o (by show jb<jb+1;omega) _) (by show jb<jb+1;omega) _
  exact (bn.o.setCell (p:=⟨jb,2,none⟩) (Za _) _).setCell (p:=⟨jb,3,none⟩) (Za _) _
 have ap:=hy' (show Nc.put f j0 s c=⟨s.pre,some p,s.B⟩ by unfold Nc.put;rw[hh]);obtain⟨x,hx,c7,eb⟩:=zBE hh;rw[b4.o,HQ.o]at eb;clear hh;have b7:ba≥0:=by have:=bs.o;unfold Nc.base at this;rw[hx]at this;simp only[]at this;omega
 have dz:(0:Int)≤ba:=b7;have a6:(s.pre.length:Int)=ba:=by have:=bs.o;unfold Nc.base at this;rw[hx]at this;exact this
 have b3:s.pre.length<n:=by rw[←HN.o];exact (List.getElem?_eq_some_iff.1 (zD3 hx)).1
 obtain⟨pl,cg⟩:∃q,s.pre.length=q:=⟨_,rfl⟩;have bk:=zD3 hx;rw[cg]at a6 b3 bk;subst a6;obtain⟨ob,oo,hA2,bx,b8⟩:=(Sl.of_own au.o) (by rw[Ze,HN.o];omega);have hce:=b8 pl (by rw[Ze,HN.o];exact b3);rw[Zo,bk,Zz]at hce;cases hA2
 obtain⟨rfl,bw,_,cx⟩:=zFh au.o;rw[Z1]at hce;obtain⟨br,bu⟩:=df.o x hx;have bt:=dc.o x;rw[c7]at bt
 have ct:Hy (∀W,Below w1.heap.size w1 W→(∀u:Stg.Later Stg.Ex W,u.val.cell? ⟨jb,0,none⟩=some (.pointer (some ⟨pb,0,none⟩)))∧(∀u:Stg.Later Stg.Ex W,u.val.cell? ⟨jb,1,none⟩=some (.slice (some ⟨ob,0,none⟩) n cp))∧(∀u:Stg.Later Stg.Ex W,u.val.cell? ⟨jb,2,none⟩=some (.int .i64 pl))∧(∀u:Stg.Later Stg.Ex W,u.val.cell? ⟨ob,pl,none⟩=some (.int .i32 x))):=hy' fun W hW =>
  have hT:=bz.o.below hW
  ⟨Stg.cells (hT.cell 0 rfl) hT.lt,Stg.cells (hT.cell 1 rfl) hT.lt,Stg.cells (hT.cell 2 rfl) hT.lt,Stg.cells (((zAQ hW).1 _ _ bx).trans hce) (Zf bx hW.size)⟩
 have c8:Hy (∀W,Below w1.heap.size w1 W→Calls prog 90 #[.pointer (some ⟨pb,0,none⟩),.int .i32 x,.int .i32 c] W fun e w'=>e=.returned (.tuple #[.int .i32 p,.bool true])∧Below W.heap.size W w'):=hy' fun W hW=>by
  have:=du.o x W (bi.o.trans (hW.mono bi.o.size)) br bu;rw[bt]at this;exact this
 have pI:(pl:Int)<n:=by omega
 have bj:=hy' (Zc w1.heap.size w1).drew;have dy:=hy' bk;have dn:=hy' hce;have cb:=hy' (And.intro bx bw);clear bt b8 hce bk cx z0 z1 cq;go_upto_region 2 with (fail)
 refine Stg.wp_region (by kernel_rfl) Stg.Ex Stg.Ex.rel ?_;(iterate 3 (refine Stg.readW (by kernel_rfl) ?_;intro K hK;go_big_quiet_op;go_big_quiet_on));obtain⟨f0,f1,f2,e0⟩:=ct.o w1.drew bj.o;refine Stg.read 0 (by kernel_rfl) w1.drew rfl ?_;intro K hK;go_big_quiet_op;go_big_quiet_on;(iterate 3 (refine Stg.readW (by kernel_rfl) ?_;intro K hK;go_big_quiet_op;go_big_quiet_on));refine Stg.read 0 (by kernel_rfl) w1.drew rfl ?_;intro K hK;go_big_quiet_op;go_big_quiet_on;(iterate 3 (refine Stg.readW (by kernel_rfl) ?_;intro K hK;go_big_quiet_op;go_big_quiet_on));refine Stg.read 0 (by kernel_rfl) w1.drew rfl ?_;intro K hK;go_big_quiet_op;go_big_quiet_on;refine Stg.readW (by kernel_rfl) ?_;intro K hK;go_big_quiet_op;go_big_quiet_on;refine Stg.read 0 (by kernel_rfl) w1.drew rfl ?_;intro K hK;go_big_quiet_op;go_big_quiet_on;refine Stg.readW (by kernel_rfl) ?_;intro K hK;go_big_quiet_op;go_big_quiet_on;refine Stg.cl 90 _ _ rfl func90 [.pointer (some ⟨pb,0,none⟩),.int .i32 x,.int .i32 c] rfl w1.drew _ (c8.o w1.drew bj.o) (by kernel_rfl) rfl ?_;rintro e q1 ⟨rfl,hb⟩;refine⟨_,rfl,hb,?_⟩;have b2:=hy' (bj.o.trans (hb.mono bj.o.size));clear hb;intro A' cf;simp only[Act.put,Zl,Zv,Zs]at cf;subst cf
 (iterate 5 (refine Stg.readW (by kernel_rfl) ?_;intro K hK;go_big_quiet_op;go_big_quiet_on));clear f0 f1 f2 e0;refine Stg.nil q1 rfl ?_;have ec:=hy' (bi.o.trans (b2.o.mono bi.o.size));have bb:=bz.o.below b2.o;have cw:=hy' bb;have bh:=zA4 au.o b2.o (Za _);have cd:=hy' bh;have y1:=bb.cell 1 rfl;have y2:=bb.cell 2 rfl;have yl:=bb.lt;have yo:=Zf cb.o.1 b2.o.size;have yf:=(zFh bh).2.2.2 pl;have yc:=((zAQ b2.o).1 _ pl cb.o.1).trans dn.o;clear bb bh z2 z3 zl cj ck;go_upto_region 4 with (fail);go_region;go_wp2_with fail;refine YH (QE rfl _ _ _) rfl ?_;refine⟨rfl,?_,?_⟩
 · refine⟨some ⟨ob,0,none⟩,cp,?_,?_⟩
   · have hl:(Nc.put f j0 s c).out.length=n:=by rw[ap.o,zCO hx,Y0,HN.o]
     rw[hl,ap.o];have dv:Nc.base ⟨s.pre,some p,s.B⟩=pl:=by show ((s.pre.length:Nat):Int)=pl;rw[cg]
     show Rw.At _ jb 110 [_,_,.int .i64 (Nc.base ⟨s.pre,some p,s.B⟩),.int .i64 (zC2 f s.B)];rw[dv,b4.o];have hd:Rw.At q1.drew jb 110 _:=cw.o.below (Zc _ _).drew;exact hd.other (by have:=cb.o.2;omega) _
   have hl:(Nc.put f j0 s c).out.length=n:=by rw[ap.o,zCO hx,Y0,HN.o]
   rw[hl,ap.o,zCO hx,cg,QF];exact zNs (zA4 cd.o (Zc _ _).drew (Za _)) (by rw[Ze,HN.o];exact b3) _
 exact (ec.o.drew.mono (Z5 bp.o.lt)).setCell (p:=⟨ob,pl,none⟩) (by have:=cb.o.2;show jb≤ob;omega) _
end Go.Proofs.YtjakbblocbicjaaGreatDoor
