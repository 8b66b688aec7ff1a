/- The layer nfc: a character more, and characters put together, by walking its text. -/
import Derived.Test.YthngjlllojiacaaGreatDoorUdOf
set_option maxRecDepth 100000
set_option maxHeartbeats 4000000
set_option linter.unusedVariables false
set_option linter.unusedSimpArgs false
namespace Go.Proofs.YthngjlllojiacaaGreatDoor
open Go.Proofs.Tryz
open Go.RowKit
def Nc.base (s:Nc.St):Int:=match s.b with|none => -1|some _=>(s.pre.length:Int)
def Nc.In (w:World) (jb:Nat) (pv:Value) (f:Int→Int) (s:Nc.St):Prop :=
 ∃A c,Rw.At w jb 152 [pv,.slice A s.out.length c,.int .i64 (Nc.base s),.int .i64 (zBZ f s.B)]∧w.ownsRow (jb+1) 21 1 (.slice A s.out.length c) s.out.length (s.out.map (Value.int .i32))
theorem zQe {f:Int→Int} (h:∀x,0≤f x∧f x≤254) (B:List Int) : -1≤zBZ f B∧zBZ f B≤254:=by
 unfold zBZ
 have:∀(B:List Int) (m:Int),-1≤m→m≤254 → -1≤B.foldl (fun m x=>max m (f x)) m∧B.foldl (fun m x=>max m (f x)) m≤254:=by
  intro B
  induction B with
  | nil=>intro m h1 h2;exact⟨h1,h2⟩
  | cons y B ih=>intro m h1 h2;have:=h y;rw[Yz];exact ih _ (by omega) (by omega)
 exact this B (-1) (by omega) (by omega)
theorem zD3 {s:Nc.St} {x:Int} (h:s.b=some x):s.out[s.pre.length]?=some x:=by
 unfold Nc.St.out;rw[h,ZJ (Za _),Ye];rfl
theorem zCO {s:Nc.St} {x p:Int} (h:s.b=some x):(⟨s.pre,some p,s.B⟩:Nc.St).out=s.out.set s.pre.length p:=by
 unfold Nc.St.out;rw[h,Yw _ _ (Za _),Ye];rfl
theorem Nc.put_any (jb:Nat) (pv:Value) (T:List Rw.Row) (S:List Int) (s:Nc.St) (c:Int) (w:World) (ok:Ud.Ok T S) (h:Ud.Is w pv T S) (hI:Nc.In w jb pv (Md.cls T) s) (ed : -2147483648≤c) (eb:c≤2147483647) (hs:s.out.length≤100000) (cf:∀x,s.b=some x → -2147483648≤x∧x≤2147483647) :
 Calls prog 82 #[.pointer (some ⟨jb,0,none⟩),.int .i32 c] w fun e w'=>e=.returned (.tuple #[])∧Nc.In w' jb pv (Md.cls T) (Nc.put (Md.cls T) (Nc.j T S) s c)∧Below jb w w':=by
 obtain⟨i0,c1,ct,cv,cy⟩:=Z7 zCl;have cm:=Ud.class_any pv T S c w ok h;have hbd:=fun x=>zDE ok x
 obtain⟨dt,dm⟩:=zQe hbd s.B;obtain⟨du,df⟩:=hbd c;have di:Hy (∀x W,Below w.heap.size w W → -2147483648≤x→x≤2147483647→Calls prog 116 #[pv,.int .i32 x,.int .i32 c] W fun e w'=>e=.returned (.tuple #[.int .i32 (Ud.joinK T S x c).1,.bool (Ud.joinK T S x c).2])∧Below W.heap.size W w'):=hy' fun x W hW h3 h4=>Ud.join_any pv T S x c W ok (h.below hW) h3 h4 ed eb
 obtain⟨A,cp,bf,bz⟩:=hI;obtain⟨pb,rfl,_⟩:=h.form
 have c7:Hy (∀x,Ud.joinK T S x c=(((Nc.j T S x c).getD (Ud.joinK T S x c).1),(Nc.j T S x c).isSome)):=hy' fun x=>by
  unfold Nc.j;cases hk:(Ud.joinK T S x c).2
  · rw[Zj (by simp)];exact QA rfl hk
  rw[Zl rfl];exact QA rfl hk
 obtain⟨f,hf⟩:∃f,Md.cls T=f:=⟨_,rfl⟩;obtain⟨j0,hj0⟩:∃j0,Nc.j T S=j0:=⟨_,rfl⟩;rw[hj0]at c7 ⊢;rw[hf]at cm bf dt dm du df ⊢;obtain⟨n,hn⟩:∃n,s.out.length=n:=⟨_,rfl⟩;rw[hn]at bf bz hs;obtain⟨q,hq⟩:∃q,f c=q:=⟨_,rfl⟩;rw[hq]at cm du df;obtain⟨la,cw⟩:∃z,zBZ f s.B=z:=⟨_,rfl⟩;rw[cw]at bf dt dm;obtain⟨ba,cj⟩:∃z,Nc.base s=z:=⟨_,rfl⟩;rw[cj]at bf
 have dr:ba = -1∨(0≤ba∧ba<n):=by
  rw[←cj,←hn];unfold Nc.base Nc.St.out;cases s.b with
  | none=>exact .inl rfl
  | some x=>right;simp;omega
 have HN:=hy' hn;have HQ:=hy' hq;have b3:=hy' cw;have bu:=hy' cj;have ec:=hy' cm;have dk:=hy' cf;have eg:=hy' dr;have bm:=hy' bf;have bk:=hy' bz;have z0:=bf.cell 0 rfl;have z1:=bf.cell 1 rfl;have z2:=bf.cell 2 rfl;have z3:=bf.cell 3 rfl;have zl:=bf.lt;clear cm hbd hn hq cw cj cf bf bz h ok dr hf hj0;go_enter func82,ntmps82;go_wp2_with fail;refine ec.o.mono ?_;rintro e w1 ⟨rfl,cq⟩;have bi:=hy' cq;have ao:=bm.o.below cq;have bs:=hy' ao;have az:=hy' (zA4 bk.o cq (Za _));clear z0 z1 z2 z3 zl cq;have z0:=ao.cell 0 rfl;have z1:=ao.cell 1 rfl;have z2:=ao.cell 2 rfl;have z3:=ao.cell 3 rfl;have zl:=ao.lt;have ck:=ao.frozen 1;have cn:=ao.frozen 2;have cr:=ao.frozen 3;clear ao;have dv:=hy' (Zc w.heap.size w);rcases hh:Nc.hit f j0 s c with _|p
 ·
  have ap:=hy' (show Nc.put f j0 s c=Nc.app f s c by unfold Nc.put;rw[hh])
  have dl:¬(ba≥0∧la<q)∨((ba≥0)∧la<q∧∃x,s.b=some x∧j0 x c=none):=by
   by_cases hg:ba≥0∧la<q
   · right
     refine⟨hg.1,hg.2,?_⟩;unfold Nc.hit at hh;rw[b3.o,HQ.o,Zl hg.2]at hh;have hb:=bu.o;unfold Nc.base at hb;cases cf:s.b with
     | none=>rw[cf]at hb;simp only[]at hb;omega
     | some x=>rw[cf]at hh;exact⟨x,rfl,hh⟩
   exact .inl hg
  have dw:=hy' dl;clear dl hh;rcases dw.o with hg|⟨cb,dy,x,hx,c8⟩
  · by_cases cb:ba≥0
    · have dy:¬la<q:=fun h=>hg ⟨cb,h⟩
      clear hg;go_upto_region 5 with (fail)
      have av:=bi.o;obtain⟨w5,bo⟩:∃w5:World,w5=w1:=⟨_,rfl⟩;rw[←bo]at av ⊢;clear bo z0 z1 z2 z3 zl ck cn cr;have ae:=bm.o.below av;have bg:=hy' ae;have aw:=hy' (zA4 bk.o av (Za _));have cg:=hy' (av.mono (Z4 bm.o.lt));have z0:=ae.cell 0 rfl;have z1:=ae.cell 1 rfl;have zl:=ae.lt;have b6:jb+1≤w5.heap.size:=ae.lt;clear av ae;go_upto_region 6 with (first|(at_builtin;refine zAi _ rfl _ _ _ rfl (jb+1) 21 i0 _ 4 underlying80 c1 ct cv cy rfl _ n _ rfl aw.o _ rfl rfl (by simp only[maxLen];omega) (by omega) b6 ?_;intro v2 w6 ag bb;obtain⟨A6,c6,rfl⟩:=zA3 ag;have af:=bg.o.below' bb (ZN _);have y1:=af.cell 1 rfl;have yl:=af.lt;have yf:=af.frozen 1)|fail)
      obtain⟨w7,aq⟩:∃w7,w6.setCell ⟨jb,1,none⟩ (.slice A6 (n+1) c6)=w7:=⟨_,rfl⟩;rw[aq];have ai:Rw.At w7 jb 152 [.pointer (some ⟨pb,0,none⟩),.slice A6 (n+1) c6,.int .i64 ba,.int .i64 la]:=by rw[←aq];exact af.set 1 _
      have aj:w7.ownsRow (jb+1) 21 1 (.slice A6 (n+1) c6) (n+1) ((s.out++[c]).map (Value.int .i32)):=by
       rw[←aq,ZO];exact Z8 ag (by show jb<jb+1;omega) _
      have bp:Below jb w w7:=by rw[←aq];exact (cg.o.trans (bb.mono (ZW _))).setCell (p:=⟨jb,1,none⟩) (Za _) _
      have ay:=hy' aj;have a7:=hy' ai;have b9:=hy' bp;clear af y1 yl yf ag bb aq aj bp z0 z1 zl;have z3:=ai.cell 3 rfl;have zl:=ai.lt;have zf:=ai.frozen 3;obtain⟨mx,hmx⟩:∃mx,max la q=mx:=⟨_,rfl⟩;have bq:zBZ f (s.B++[c])=mx:=by rw[zFA,b3.o,HQ.o,hmx]
      have cd:=hy' bq;clear ai bq;go_upto_region 7 with (fail)
      obtain⟨w8,ax⟩:∃w8,w7.setCell ⟨jb,3,none⟩ (.int .i64 mx)=w8:=⟨_,rfl⟩;rw[ax];have aa:Rw.At w8 jb 152 [.pointer (some ⟨pb,0,none⟩),.slice A6 (n+1) c6,.int .i64 ba,.int .i64 mx]:=by rw[←ax];exact a7.o.set 3 _
      have ak:Hy (w8.ownsRow (jb+1) 21 1 (.slice A6 (n+1) c6) (n+1) ((s.out++[c]).map (Value.int .i32))):=hy' (by rw[←ax];exact Z8 ay.o (by show jb<jb+1;omega) _);have bn:Hy (Below jb w w8):=hy' (by rw[←ax];exact b9.o.setCell (p:=⟨jb,3,none⟩) (Za _) _);have ar:=hy' aa;clear ax z3 zl zf hmx;have a1:Hy ((Nc.put f j0 s c).out.length=n+1):=hy' (by rw[ap.o,zAl,Zd,HN.o];rfl);rcases hq0:(q == 0) with _|_
      · have ah:¬q=0:=by simpa using hq0
        have au:Nc.put f j0 s c=⟨s.pre,s.b,s.B++[c]⟩:=by rw[ap.o];unfold Nc.app;rw[if_neg (by rw[HQ.o];exact ah)]
        have bh:=hy' au;clear au aa ah;go_wp2_with fail;go_end0;refine⟨rfl,⟨A6,c6,?_,?_⟩,bn.o⟩
        · rw[a1.o,bh.o];show Rw.At w8 jb 152 [_,_,.int .i64 (Nc.base s),.int .i64 (zBZ f (s.B++[c]))];rw[bu.o,cd.o];exact ar.o
        rw[a1.o,ap.o,zAl];exact ak.o
      have ah:q=0:=by simpa using hq0
      have au:Nc.put f j0 s c=⟨s.out,some c,[]⟩:=by rw[ap.o];unfold Nc.app;rw[if_pos (by rw[HQ.o];exact ah)]
      have bh:=hy' au;have z1:=aa.cell 1 rfl;have z2:=aa.cell 2 rfl;have z3:=aa.cell 3 rfl;have zl:=aa.lt;have dh:=aa.frozen 2;have dp:=aa.frozen 3;clear au aa ah;go_wp2_with fail;go_end0;refine⟨rfl,⟨A6,c6,?_,?_⟩,?_⟩
      · rw[a1.o,bh.o];have:=(ar.o.set 2 (.int .i64 n)).set 3 (.int .i64 (-1));show Rw.At _ jb 152 [_,_,.int .i64 (s.out.length:Int),.int .i64 (-1)];rw[HN.o];exact this
      · rw[a1.o,ap.o,zAl];exact Z8 (Z8 ak.o (by show jb<jb+1;omega) _) (by show jb<jb+1;omega) _
      exact (bn.o.setCell (p:=⟨jb,2,none⟩) (Za _) _).setCell (p:=⟨jb,3,none⟩) (Za _) _
    clear hg;go_upto_region 5 with (fail)
    have av:=bi.o;obtain⟨w5,bo⟩:∃w5:World,w5=w1:=⟨_,rfl⟩;rw[←bo]at av ⊢;clear bo z0 z1 z2 z3 zl ck cn cr;have ae:=bm.o.below av;have bg:=hy' ae;have aw:=hy' (zA4 bk.o av (Za _));have cg:=hy' (av.mono (Z4 bm.o.lt));have z0:=ae.cell 0 rfl;have z1:=ae.cell 1 rfl;have zl:=ae.lt;have b6:jb+1≤w5.heap.size:=ae.lt;clear av ae;go_upto_region 6 with (first|(at_builtin;refine zAi _ rfl _ _ _ rfl (jb+1) 21 i0 _ 4 underlying80 c1 ct cv cy rfl _ n _ rfl aw.o _ rfl rfl (by simp only[maxLen];omega) (by omega) b6 ?_;intro v2 w6 ag bb;obtain⟨A6,c6,rfl⟩:=zA3 ag;have af:=bg.o.below' bb (ZN _);have y1:=af.cell 1 rfl;have yl:=af.lt;have yf:=af.frozen 1)|fail)
    obtain⟨w7,aq⟩:∃w7,w6.setCell ⟨jb,1,none⟩ (.slice A6 (n+1) c6)=w7:=⟨_,rfl⟩;rw[aq];have ai:Rw.At w7 jb 152 [.pointer (some ⟨pb,0,none⟩),.slice A6 (n+1) c6,.int .i64 ba,.int .i64 la]:=by rw[←aq];exact af.set 1 _
    have aj:w7.ownsRow (jb+1) 21 1 (.slice A6 (n+1) c6) (n+1) ((s.out++[c]).map (Value.int .i32)):=by
     rw[←aq,ZO];exact Z8 ag (by show jb<jb+1;omega) _
    have bp:Below jb w w7:=by rw[←aq];exact (cg.o.trans (bb.mono (ZW _))).setCell (p:=⟨jb,1,none⟩) (Za _) _
    have ay:=hy' aj;have a7:=hy' ai;have b9:=hy' bp;clear af y1 yl yf ag bb aq aj bp z0 z1 zl;have z3:=ai.cell 3 rfl;have zl:=ai.lt;have zf:=ai.frozen 3;obtain⟨mx,hmx⟩:∃mx,max la q=mx:=⟨_,rfl⟩;have bq:zBZ f (s.B++[c])=mx:=by rw[zFA,b3.o,HQ.o,hmx]
    have cd:=hy' bq;clear ai bq;go_upto_region 7 with (fail)
    obtain⟨w8,ax⟩:∃w8,w7.setCell ⟨jb,3,none⟩ (.int .i64 mx)=w8:=⟨_,rfl⟩;rw[ax];have aa:Rw.At w8 jb 152 [.pointer (some ⟨pb,0,none⟩),.slice A6 (n+1) c6,.int .i64 ba,.int .i64 mx]:=by rw[←ax];exact a7.o.set 3 _
    have ak:Hy (w8.ownsRow (jb+1) 21 1 (.slice A6 (n+1) c6) (n+1) ((s.out++[c]).map (Value.int .i32))):=hy' (by rw[←ax];exact Z8 ay.o (by show jb<jb+1;omega) _);have bn:Hy (Below jb w w8):=hy' (by rw[←ax];exact b9.o.setCell (p:=⟨jb,3,none⟩) (Za _) _);have ar:=hy' aa;clear ax z3 zl zf hmx;have a1:Hy ((Nc.put f j0 s c).out.length=n+1):=hy' (by rw[ap.o,zAl,Zd,HN.o];rfl);rcases hq0:(q == 0) with _|_
    · have ah:¬q=0:=by simpa using hq0
      have au:Nc.put f j0 s c=⟨s.pre,s.b,s.B++[c]⟩:=by rw[ap.o];unfold Nc.app;rw[if_neg (by rw[HQ.o];exact ah)]
      have bh:=hy' au;clear au aa ah;go_wp2_with fail;go_end0;refine⟨rfl,⟨A6,c6,?_,?_⟩,bn.o⟩
      · rw[a1.o,bh.o];show Rw.At w8 jb 152 [_,_,.int .i64 (Nc.base s),.int .i64 (zBZ f (s.B++[c]))];rw[bu.o,cd.o];exact ar.o
      rw[a1.o,ap.o,zAl];exact ak.o
    have ah:q=0:=by simpa using hq0
    have au:Nc.put f j0 s c=⟨s.out,some c,[]⟩:=by rw[ap.o];unfold Nc.app;rw[if_pos (by rw[HQ.o];exact ah)]
    have bh:=hy' au;have z1:=aa.cell 1 rfl;have z2:=aa.cell 2 rfl;have z3:=aa.cell 3 rfl;have zl:=aa.lt;have dh:=aa.frozen 2;have dp:=aa.frozen 3;clear au aa ah;go_wp2_with fail;go_end0;refine⟨rfl,⟨A6,c6,?_,?_⟩,?_⟩
    · rw[a1.o,bh.o];have:=(ar.o.set 2 (.int .i64 n)).set 3 (.int .i64 (-1));show Rw.At _ jb 152 [_,_,.int .i64 (s.out.length:Int),.int .i64 (-1)];rw[HN.o];exact this
    · rw[a1.o,ap.o,zAl];exact Z8 (Z8 ak.o (by show jb<jb+1;omega) _) (by show jb<jb+1;omega) _
    exact (bn.o.setCell (p:=⟨jb,2,none⟩) (Za _) _).setCell (p:=⟨jb,3,none⟩) (Za _) _
  have dz:(0:Int)≤ba:=cb;have a8:(s.pre.length:Int)=ba:=by have:=bu.o;unfold Nc.base at this;rw[hx]at this;exact this
  have b4:s.pre.length<n:=by rw[←HN.o];exact (List.getElem?_eq_some_iff.1 (zD3 hx)).1
  obtain⟨pl,b8⟩:∃q,s.pre.length=q:=⟨_,rfl⟩;have bj:=zD3 hx;rw[b8]at a8 b4 bj;subst a8;obtain⟨ob,oo,hA2,b1,b5⟩:=(Sl.of_own az.o) (by rw[Ze,HN.o];omega);have hce:=b5 pl (by rw[Ze,HN.o];exact b4);rw[Zw,bj,Zx]at hce;cases hA2
  obtain⟨rfl,br,_,cz⟩:=zF9 az.o;rw[Z1]at hce;obtain⟨bx,bt⟩:=dk.o x hx;have bw:=c7.o x;rw[c8]at bw
  have dc:Hy (∀W,Below w1.heap.size w1 W→(∀u:Stg.Later Stg.Ex W,u.val.cell? ⟨jb,0,none⟩=some (.pointer (some ⟨pb,0,none⟩)))∧(∀u:Stg.Later Stg.Ex W,u.val.cell? ⟨jb,1,none⟩=some (.slice (some ⟨ob,0,none⟩) n cp))∧(∀u:Stg.Later Stg.Ex W,u.val.cell? ⟨jb,2,none⟩=some (.int .i64 pl))∧(∀u:Stg.Later Stg.Ex W,u.val.cell? ⟨ob,pl,none⟩=some (.int .i32 x))):=hy' fun W hW =>
   have hT:=bs.o.below hW
   ⟨Stg.cells (hT.cell 0 rfl) hT.lt,Stg.cells (hT.cell 1 rfl) hT.lt,Stg.cells (hT.cell 2 rfl) hT.lt,Stg.cells (((zAP hW).1 _ _ b1).trans hce) (Zf b1 hW.size)⟩
  have cx:Hy (∀W,Below w1.heap.size w1 W→Calls prog 116 #[.pointer (some ⟨pb,0,none⟩),.int .i32 x,.int .i32 c] W fun e w'=>e=.returned (.tuple #[.int .i32 (Ud.joinK T S x c).1,.bool false])∧Below W.heap.size W w'):=hy' fun W hW=>by
   have:=di.o x W (bi.o.trans (hW.mono bi.o.size)) bx bt;rw[bw]at this;exact this
  have pI:(pl:Int)<n:=by omega
  have bl:=hy' (Zc w1.heap.size w1).drew;have dx:=hy' bj;have dn:=hy' hce;have b7:=hy' (And.intro b1 br);clear bw b5 hce bj cz z0 z1 ck;go_upto_region 2 with (fail)
  refine Stg.wp_region (by kernel_rfl) Stg.Ex Stg.Ex.rel ?_;(iterate 3 (refine Stg.readW (by kernel_rfl) ?_;intro K hK;go_big_quiet_op;go_big_quiet_on));obtain⟨f0,f1,f2,e0⟩:=dc.o w1.drew bl.o;refine Stg.read 0 (by kernel_rfl) w1.drew rfl ?_;intro K hK;go_big_quiet_op;go_big_quiet_on;(iterate 3 (refine Stg.readW (by kernel_rfl) ?_;intro K hK;go_big_quiet_op;go_big_quiet_on));refine Stg.read 0 (by kernel_rfl) w1.drew rfl ?_;intro K hK;go_big_quiet_op;go_big_quiet_on;(iterate 3 (refine Stg.readW (by kernel_rfl) ?_;intro K hK;go_big_quiet_op;go_big_quiet_on));refine Stg.read 0 (by kernel_rfl) w1.drew rfl ?_;intro K hK;go_big_quiet_op;go_big_quiet_on;refine Stg.readW (by kernel_rfl) ?_;intro K hK;go_big_quiet_op;go_big_quiet_on;refine Stg.read 0 (by kernel_rfl) w1.drew rfl ?_;intro K hK;go_big_quiet_op;go_big_quiet_on;refine Stg.readW (by kernel_rfl) ?_;intro K hK;go_big_quiet_op;go_big_quiet_on;refine Stg.call 116 _ _ rfl func116 [.pointer (some ⟨pb,0,none⟩),.int .i32 x,.int .i32 c] rfl w1.drew _ (cx.o w1.drew bl.o) (by kernel_rfl) rfl ?_;rintro e q1 ⟨rfl,hb⟩;refine⟨_,rfl,hb,?_⟩;have b2:=hy' (bl.o.trans (hb.mono bl.o.size));clear hb;intro A' cc;simp only[Act.put,Zn,ZC,ZB]at cc;subst cc
  (iterate 5 (refine Stg.readW (by kernel_rfl) ?_;intro K hK;go_big_quiet_op;go_big_quiet_on))
  clear f0 f1 f2 e0;refine Stg.nil q1 rfl ?_;have av:=bi.o.trans (b2.o.mono bi.o.size);go_upto_region 5 with (fail)
  obtain⟨w5,bo⟩:∃w5:World,w5=q1:=⟨_,rfl⟩;rw[←bo]at av ⊢;clear bo z2 z3 zl cn cr;have ae:=bm.o.below av;have bg:=hy' ae;have aw:=hy' (zA4 bk.o av (Za _));have cg:=hy' (av.mono (Z4 bm.o.lt));have z0:=ae.cell 0 rfl;have z1:=ae.cell 1 rfl;have zl:=ae.lt;have b6:jb+1≤w5.heap.size:=ae.lt;clear av ae;go_upto_region 6 with (first|(at_builtin;refine zAi _ rfl _ _ _ rfl (jb+1) 21 i0 _ 4 underlying80 c1 ct cv cy rfl _ n _ rfl aw.o _ rfl rfl (by simp only[maxLen];omega) (by omega) b6 ?_;intro v2 w6 ag bb;obtain⟨A6,c6,rfl⟩:=zA3 ag;have af:=bg.o.below' bb (ZN _);have y1:=af.cell 1 rfl;have yl:=af.lt;have yf:=af.frozen 1)|fail)
  obtain⟨w7,aq⟩:∃w7,w6.setCell ⟨jb,1,none⟩ (.slice A6 (n+1) c6)=w7:=⟨_,rfl⟩;rw[aq];have ai:Rw.At w7 jb 152 [.pointer (some ⟨pb,0,none⟩),.slice A6 (n+1) c6,.int .i64 pl,.int .i64 la]:=by rw[←aq];exact af.set 1 _
  have aj:w7.ownsRow (jb+1) 21 1 (.slice A6 (n+1) c6) (n+1) ((s.out++[c]).map (Value.int .i32)):=by
   rw[←aq,ZO];exact Z8 ag (by show jb<jb+1;omega) _
  have bp:Below jb w w7:=by rw[←aq];exact (cg.o.trans (bb.mono (ZW _))).setCell (p:=⟨jb,1,none⟩) (Za _) _
  have ay:=hy' aj;have a7:=hy' ai;have b9:=hy' bp;clear af y1 yl yf ag bb aq aj bp z0 z1 zl;have z3:=ai.cell 3 rfl;have zl:=ai.lt;have zf:=ai.frozen 3;obtain⟨mx,hmx⟩:∃mx,max la q=mx:=⟨_,rfl⟩;have bq:zBZ f (s.B++[c])=mx:=by rw[zFA,b3.o,HQ.o,hmx]
  have cd:=hy' bq;clear ai bq;go_upto_region 7 with (fail)
  obtain⟨w8,ax⟩:∃w8,w7.setCell ⟨jb,3,none⟩ (.int .i64 mx)=w8:=⟨_,rfl⟩;rw[ax];have aa:Rw.At w8 jb 152 [.pointer (some ⟨pb,0,none⟩),.slice A6 (n+1) c6,.int .i64 pl,.int .i64 mx]:=by rw[←ax];exact a7.o.set 3 _
  have ak:Hy (w8.ownsRow (jb+1) 21 1 (.slice A6 (n+1) c6) (n+1) ((s.out++[c]).map (Value.int .i32))):=hy' (by rw[←ax];exact Z8 ay.o (by show jb<jb+1;omega) _);have bn:Hy (Below jb w w8):=hy' (by rw[←ax];exact b9.o.setCell (p:=⟨jb,3,none⟩) (Za _) _);have ar:=hy' aa;clear ax z3 zl zf hmx;have a1:Hy ((Nc.put f j0 s c).out.length=n+1):=hy' (by rw[ap.o,zAl,Zd,HN.o];rfl);rcases hq0:(q == 0) with _|_
  · have ah:¬q=0:=by simpa using hq0
    have au:Nc.put f j0 s c=⟨s.pre,s.b,s.B++[c]⟩:=by rw[ap.o];unfold Nc.app;rw[if_neg (by rw[HQ.o];exact ah)]
    have bh:=hy' au;clear au aa ah;go_wp2_with fail;go_end0;refine⟨rfl,⟨A6,c6,?_,?_⟩,bn.o⟩
    · rw[a1.o,bh.o];show Rw.At w8 jb 152 [_,_,.int .i64 (Nc.base s),.int .i64 (zBZ f (s.B++[c]))];rw[bu.o,cd.o];exact ar.o
    rw[a1.o,ap.o,zAl];exact ak.o
  have ah:q=0:=by simpa using hq0
  have au:Nc.put f j0 s c=⟨s.out,some c,[]⟩:=by rw[ap.o];unfold Nc.app;rw[if_pos (by rw[HQ.o];exact ah)]
  have bh:=hy' au;have z1:=aa.cell 1 rfl;have z2:=aa.cell 2 rfl;have z3:=aa.cell 3 rfl;have zl:=aa.lt;have dh:=aa.frozen 2;have dp:=aa.frozen 3;clear au aa ah;go_wp2_with fail;go_end0;refine⟨rfl,⟨A6,c6,?_,?_⟩,?_⟩
  · rw[a1.o,bh.o];have:=(ar.o.set 2 (.int .i64 n)).set 3 (.int .i64 (-1));show Rw.At _ jb 152 [_,_,.int .i64 (s.out.length:Int),.int .i64 (-1)];rw[HN.o];exact this
  · rw[a1.o,ap.o,zAl];exact Z8 (Z8 ak.o (by show jb<jb+1;omega) _) (by show jb<jb+1;omega) _
  exact (bn.o.setCell (p:=⟨jb,2,none⟩) (Za _) _).setCell (p:=⟨jb,3,none⟩) (Za _) _
 have ap:=hy' (show Nc.put f j0 s c=⟨s.pre,some p,s.B⟩ by unfold Nc.put;rw[hh]);obtain⟨x,hx,c8,ee⟩:=zBC hh;rw[b3.o,HQ.o]at ee;clear hh;have cb:ba≥0:=by have:=bu.o;unfold Nc.base at this;rw[hx]at this;simp only[]at this;omega
 have dz:(0:Int)≤ba:=cb;have a8:(s.pre.length:Int)=ba:=by have:=bu.o;unfold Nc.base at this;rw[hx]at this;exact this
 have b4:s.pre.length<n:=by rw[←HN.o];exact (List.getElem?_eq_some_iff.1 (zD3 hx)).1
 obtain⟨pl,b8⟩:∃q,s.pre.length=q:=⟨_,rfl⟩;have bj:=zD3 hx;rw[b8]at a8 b4 bj;subst a8;obtain⟨ob,oo,hA2,b1,b5⟩:=(Sl.of_own az.o) (by rw[Ze,HN.o];omega);have hce:=b5 pl (by rw[Ze,HN.o];exact b4);rw[Zw,bj,Zx]at hce;cases hA2
 obtain⟨rfl,br,_,cz⟩:=zF9 az.o;rw[Z1]at hce;obtain⟨bx,bt⟩:=dk.o x hx;have bw:=c7.o x;rw[c8]at bw
 have dc:Hy (∀W,Below w1.heap.size w1 W→(∀u:Stg.Later Stg.Ex W,u.val.cell? ⟨jb,0,none⟩=some (.pointer (some ⟨pb,0,none⟩)))∧(∀u:Stg.Later Stg.Ex W,u.val.cell? ⟨jb,1,none⟩=some (.slice (some ⟨ob,0,none⟩) n cp))∧(∀u:Stg.Later Stg.Ex W,u.val.cell? ⟨jb,2,none⟩=some (.int .i64 pl))∧(∀u:Stg.Later Stg.Ex W,u.val.cell? ⟨ob,pl,none⟩=some (.int .i32 x))):=hy' fun W hW =>
  have hT:=bs.o.below hW
  ⟨Stg.cells (hT.cell 0 rfl) hT.lt,Stg.cells (hT.cell 1 rfl) hT.lt,Stg.cells (hT.cell 2 rfl) hT.lt,Stg.cells (((zAP hW).1 _ _ b1).trans hce) (Zf b1 hW.size)⟩
 have cx:Hy (∀W,Below w1.heap.size w1 W→Calls prog 116 #[.pointer (some ⟨pb,0,none⟩),.int .i32 x,.int .i32 c] W fun e w'=>e=.returned (.tuple #[.int .i32 p,.bool true])∧Below W.heap.size W w'):=hy' fun W hW=>by
  have:=di.o x W (bi.o.trans (hW.mono bi.o.size)) bx bt;rw[bw]at this;exact this
 have pI:(pl:Int)<n:=by omega
 have bl:=hy' (Zc w1.heap.size w1).drew;have dx:=hy' bj;have dn:=hy' hce;have b7:=hy' (And.intro b1 br);clear bw b5 hce bj cz z0 z1 ck;go_upto_region 2 with (fail)
 refine Stg.wp_region (by kernel_rfl) Stg.Ex Stg.Ex.rel ?_;(iterate 3 (refine Stg.readW (by kernel_rfl) ?_;intro K hK;go_big_quiet_op;go_big_quiet_on));obtain⟨f0,f1,f2,e0⟩:=dc.o w1.drew bl.o;refine Stg.read 0 (by kernel_rfl) w1.drew rfl ?_;intro K hK;go_big_quiet_op;go_big_quiet_on;(iterate 3 (refine Stg.readW (by kernel_rfl) ?_;intro K hK;go_big_quiet_op;go_big_quiet_on));refine Stg.read 0 (by kernel_rfl) w1.drew rfl ?_;intro K hK;go_big_quiet_op;go_big_quiet_on;(iterate 3 (refine Stg.readW (by kernel_rfl) ?_;intro K hK;go_big_quiet_op;go_big_quiet_on));refine Stg.read 0 (by kernel_rfl) w1.drew rfl ?_;intro K hK;go_big_quiet_op;go_big_quiet_on;refine Stg.readW (by kernel_rfl) ?_;intro K hK;go_big_quiet_op;go_big_quiet_on;refine Stg.read 0 (by kernel_rfl) w1.drew rfl ?_;intro K hK;go_big_quiet_op;go_big_quiet_on;refine Stg.readW (by kernel_rfl) ?_;intro K hK;go_big_quiet_op;go_big_quiet_on;refine Stg.call 116 _ _ rfl func116 [.pointer (some ⟨pb,0,none⟩),.int .i32 x,.int .i32 c] rfl w1.drew _ (cx.o w1.drew bl.o) (by kernel_rfl) rfl ?_;rintro e q1 ⟨rfl,hb⟩;refine⟨_,rfl,hb,?_⟩;have b2:=hy' (bl.o.trans (hb.mono bl.o.size));clear hb;intro A' cc;simp only[Act.put,Zn,ZC,ZB]at cc;subst cc
 (iterate 5 (refine Stg.readW (by kernel_rfl) ?_;intro K hK;go_big_quiet_op;go_big_quiet_on))
 clear f0 f1 f2 e0;refine Stg.nil q1 rfl ?_;have ef:=hy' (bi.o.trans (b2.o.mono bi.o.size));have bc:=bs.o.below b2.o;have cu:=hy' bc;have a6:=zA4 az.o b2.o (Za _);have ch:=hy' a6;have y1:=bc.cell 1 rfl;have y2:=bc.cell 2 rfl;have yl:=bc.lt;have yo:=Zf b7.o.1 b2.o.size;have yf:=(zF9 a6).2.2.2 pl;have yc:=((zAP b2.o).1 _ pl b7.o.1).trans dn.o;clear bc a6 z2 z3 zl cn cr;go_upto_region 4 with (fail)
 go_region;go_wp2_with fail;refine YF (Qy rfl _ _ _) rfl ?_;refine⟨rfl,?_,?_⟩
 · refine⟨some ⟨ob,0,none⟩,cp,?_,?_⟩
   · have hl:(Nc.put f j0 s c).out.length=n:=by rw[ap.o,zCO hx,Y3,HN.o]
     rw[hl,ap.o];have ea:Nc.base ⟨s.pre,some p,s.B⟩=pl:=by show ((s.pre.length:Nat):Int)=pl;rw[b8]
     show Rw.At _ jb 152 [_,_,.int .i64 (Nc.base ⟨s.pre,some p,s.B⟩),.int .i64 (zBZ f s.B)];rw[ea,b3.o];have hd:Rw.At q1.drew jb 152 _:=cu.o.below (Zc _ _).drew;exact hd.other (by have:=b7.o.2;omega) _
   have hl:(Nc.put f j0 s c).out.length=n:=by rw[ap.o,zCO hx,Y3,HN.o]
   rw[hl,ap.o,zCO hx,b8,Qz];exact zN4 (zA4 ch.o (Zc _ _).drew (Za _)) (by rw[Ze,HN.o];exact b4) _
 exact (ef.o.drew.mono (Z4 bm.o.lt)).setCell (p:=⟨ob,pl,none⟩) (by have:=b7.o.2;show jb≤ob;omega) _
theorem zQf {T:List Rw.Row} {S:List Int} (ok:Ud.Ok T S) {l:List Int} (h:∀c∈l,C.isC c=true):∀c∈Nf.fl T l,C.isC c=true:=fun c hc=>by
 unfold Nf.fl at hc;obtain⟨x,hx,hy⟩:=List.mem_flatMap.1 hc;exact zIu ok (h x hx) c hy
theorem Nf.chars_isC {T:List Rw.Row} {S:List Int} (ok:Ud.Ok T S) {l:List Int} (h:∀c∈l,C.isC c=true):∀c∈Nf.chars T l,C.isC c=true:=fun c hc =>
 zQf ok h c (((zBS (Md.cls T) _ (Nf.fl T l)).mem c).1 hc)
theorem Nf.chars_len (T:List Rw.Row) (l:List Int):(Nf.chars T l).length=(Nf.fl T l).length:=zEs _ _
theorem Nf.isC_i32 {c:Int} (h:C.isC c=true) : -2147483648≤c∧c≤2147483647:=by have:=Ud.isC_bd h;omega
theorem zM0 (v:Value) (T:List Rw.Row) (S:List Int) (A:Option Addr) (n c:Nat) (l:List Int) (w:World) (ok:Ud.Ok T S) (h:Ud.Is w v T S) (hl:l.length=n) (hn:n≤3000) (a1:∀x∈l,-2147483648≤x∧x≤2147483647) (hA:Sl w w.heap.size A (l.map (Value.int .i32))) :
 Calls prog 115 #[v,.slice A n c] w (Md.RetOwn (Nf.fl T l) w):=by
 obtain⟨i0,bs,bg,bj,bx⟩:=Z7 zCl;have bl:Hy (∀x W,Below w.heap.size w W → -2147483648≤x→x≤2147483647→Calls prog 40 #[v,.int .i32 x] W (zCR .i32 (Ud.full T x) W)):=hy' fun x W hW h3 h4=>Ud.full_any v T S x W ok (h.below hW) h3 h4
 obtain⟨pv,rfl,_⟩:=h.form;have HL:=hy' hl;have bh:=hy' a1;have HA:=hy' hA;have bi:=hy' (zFb (fun c=>zBt ok c));have av:=hy' (fun c=>zBt ok c);clear hl a1 hA h ok;go_enter func115,ntmps115;go_wp2_with fail;go_loopw [5,7,10] (fun v5 _ i wr=>∃(k:Nat) (sl:Value),k≤n∧i=.int .i64 k∧v5=sl∧wr.ownsRow w.heap.size 21 1 sl (Nf.fl T (l.take k)).length ((Nf.fl T (l.take k)).map (Value.int .i32))∧Below w.heap.size w wr) (fun _ _ i _=>n-(intOf i).toNat)
 case atStart=>exact⟨0,_,ZG _,rfl,rfl,ZI _ _ _ _,Zc _ _⟩
 obtain⟨k,sl,hk,rfl,rfl,aa,af⟩:=hrel;have a7:=af.size
 by_cases hlt:k<n
 · obtain⟨x,hx⟩:∃x,l[k]?=some x:=⟨_,Zb (by rw[HL.o];exact hlt)⟩;obtain⟨bf,a8⟩:=bh.o x (Zk hx);obtain⟨ab,ao,hA2,bz,ba⟩:=HA.o (by rw[Ze,HL.o];omega);have hc:=ba k (by rw[Ze,HL.o];exact hlt);rw[Zw,hx,Zx,←(zAP af).1 _ _ (by omega)]at hc;have ay:=zGM (T:=T) hx;have ar:=bi.o (l.take k);rw[Zr,HL.o]at ar;have au:=av.o x;have aq:=bl.o x wr af bf a8;obtain⟨m,hm⟩:∃m,Ud.full T x=m:=⟨_,rfl⟩;obtain⟨S,hS⟩:∃S,Nf.fl T (l.take k)=S:=⟨_,rfl⟩;obtain⟨ml,ak⟩:∃q,m.length=q:=⟨_,rfl⟩;obtain⟨sn,ae⟩:∃q,S.length=q:=⟨_,rfl⟩;unfold zCR at aq;rw[hm,ak]at aq;rw[hS,ae]at aa;rw[hS,ae]at ar;rw[hm,ak]at au;rw[hS,hm]at ay;have kI:(k:Int)<n:=by omega
   have k0:(0:Int)≤k:=by omega
   have br:=hy' ay;have ah:=hy' aa;have ax:=hy' af;have bt:=hy' ak;have aw:=hy' ae;have bq:=hy' aq;have b1:sn≤32*k:=by omega
   have bb:(m.map (Value.int .i32)).length=ml*1:=by rw[Ze,ak];omega
   have az:∀u∈m.map (Value.int .i32),u.oneCell'=true:=zF0 .i32 _;have bm:=hy' bb;have bo:=hy' az;subst hA2;clear hx bf a8 ba ay ar hm hS ak ae aq aa af bb az;go_wp2_with (first|(go_at_call 40;refine bq.o.mono ?_;rintro e w1 ⟨A1,c1,rfl,bc,ap⟩;have aj:=hy' (zA4 ah.o ap (Za _));have bu:=hy' bc;have bk:=hy' (ax.o.trans (ap.mono a7));have bw:w.heap.size≤w1.heap.size:=Zh a7 ap.size;clear bc ap hc)|(at_builtin;refine zAd _ rfl _ _ _ rfl w.heap.size 21 i0 _ 1 4 underlying80 bs bg bj bx rfl (by omega) _ sn _ rfl aj.o _ A1 ml c1 (m.map (Value.int .i32)) rfl bm.o bu.o bo.o (by simp only[maxLen];omega) (by omega) bw ?_;intro v1 w4 ag a6 bp;have ai:=hy' ag;have bn:=hy' (bk.o.trans a6);clear ag a6 bp)|fail);refine⟨⟨k+1,v1,by omega,by first|rfl|go_num,rfl,?_,bn.o⟩,by simp[intOf];omega⟩;rw[br.o,Zd,aw.o,bt.o,ZO];exact ai.o
 obtain rfl:k=n:=by omega
 rw[Zi (by rw[HL.o];exact Za _)]at aa;obtain⟨S,hS⟩:∃S,Nf.fl T l=S:=⟨_,rfl⟩;obtain⟨sn,ae⟩:∃q,S.length=q:=⟨_,rfl⟩;rw[hS,ae]at aa;obtain⟨A4,c4,rfl⟩:=zA3 aa;have kI:¬(k:Int)<k:=by omega
 have HS:=hy' hS;have aw:=hy' ae;have HO:=hy' aa;have HB:=hy' af;clear aa hS ae af;go_wp2_with fail;go_ret;rw[HS.o];unfold Md.RetOwn;rw[aw.o];exact⟨_,_,rfl,HO.o,HB.o⟩
theorem zM1 (v:Value) (T:List Rw.Row) (S:List Int) (A:Option Addr) (n c:Nat) (l:List Int) (w:World) (ok:Ud.Ok T S) (h:Ud.Is w v T S) (hl:l.length=n) (hn:n≤3000) (au:∀x∈l,-2147483648≤x∧x≤2147483647) (hA:Sl w w.heap.size A (l.map (Value.int .i32))) (af:∀ao cd k N,(∀(args:Array Value) (w:World),(callFunc ao args).run prog w=.ok (.enter ao args) w)→zE6 ao cd k N) :
 Calls prog 80 #[v,.slice A n c] w (Md.RetOwn (Nf.chars T l) w):=by
 have ai:=zM0 v T S A n c l w ok h hl hn au hA;have ah:Hy (∀A' m c' W,Below w.heap.size w W→(Nf.fl T l).length=m→m≤100000→Sl W W.heap.size A' ((Nf.fl T l).map (Value.int .i32))→Calls prog 114 #[v,.slice A' m c'] W (Md.RetOwn (Nf.chars T l) W)):=hy' fun A' m c' W hW h1 h2 h3=>Or.of_any v T S A' m c' (Nf.fl T l) W ok (h.below hW) h1 h2 h3 af
 have aq:=zFb (fun c=>zBt ok c) l;obtain⟨F,hF⟩:∃F,Nf.fl T l=F:=⟨_,rfl⟩;obtain⟨Z,hZ⟩:∃Z,Nf.chars T l=Z:=⟨_,rfl⟩;obtain⟨fn,ag⟩:∃k,F.length=k:=⟨_,rfl⟩;obtain⟨zn,ap⟩:∃k,Z.length=k:=⟨_,rfl⟩;unfold Md.RetOwn at *;rw[hF,ag]at ai;rw[hF,hZ,ap]at ah;rw[hF,ag]at aq;rw[hZ,ap];have ay:fn≤100000:=by omega
 have aw:=hy' ag;have ar:=hy' ai;obtain⟨pv,rfl,_⟩:=h.form;clear ai aq hF hZ ag ap ok h hl au hA af;go_enter func80,ntmps80;go_wp2_with fail;refine ar.o.mono ?_;rintro e w1 ⟨A1,c1,rfl,aa,ak⟩;have HO:=hy' (ah.o A1 fn c1 w1 ak aw.o ay (Sl.of_own aa));have aj:=hy' ak;clear aa ak ah ar;go_wp2_with fail;refine HO.o.mono ?_;rintro e w2 ⟨A2,c2,rfl,ae,av⟩;have az:=hy' (zB0 ae aj.o.size);have ax:=hy' (aj.o.trans (av.mono aj.o.size));clear ae av HO;go_wp2_with fail;go_ret;exact⟨_,_,rfl,az.o,ax.o⟩
end Go.Proofs.YthngjlllojiacaaGreatDoor
