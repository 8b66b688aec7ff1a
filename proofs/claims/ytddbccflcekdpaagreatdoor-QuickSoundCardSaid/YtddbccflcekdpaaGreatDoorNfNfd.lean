/- The layer nfc: a character more, and characters put together, by walking its text. -/
import Derived.Test.YtddbccflcekdpaaGreatDoorUdOf
set_option maxRecDepth 100000
set_option maxHeartbeats 4000000
set_option linter.unusedVariables false
set_option linter.unusedSimpArgs false
namespace Go.Proofs.YtddbccflcekdpaaGreatDoor
open Go.Proofs.Tryz
open Go.RowKit
def Nc.base (s:Nc.St):Int:=match s.b with|none => -1|some _=>(s.pre.length:Int)
def Nc.In (w:World) (jb:Nat) (pv:Value) (f:Int→Int) (s:Nc.St):Prop :=
 ∃A c,Rw.At w jb 134 [pv,.slice A s.out.length c,.int .i64 (Nc.base s),.int .i64 (zCb f s.B)]∧w.ownsRow (jb+1) 21 1 (.slice A s.out.length c) s.out.length (s.out.map (Value.int .i32))
theorem zQH {f:Int→Int} (h:∀x,0≤f x∧f x≤254) (B:List Int) : -1≤zCb f B∧zCb f B≤254:=by
 unfold zCb
 have:∀(B:List Int) (m:Int),-1≤m→m≤254 → -1≤B.foldl (fun m x=>max m (f x)) m∧B.foldl (fun m x=>max m (f x)) m≤254:=by
  intro B
  induction B with
  | nil=>intro m h1 h2;exact⟨h1,h2⟩
  | cons y B ih=>intro m h1 h2;have:=h y;rw[Yh];exact ih _ (by omega) (by omega)
 exact this B (-1) (by omega) (by omega)
theorem zEX {s:Nc.St} {x:Int} (h:s.b=some x):s.out[s.pre.length]?=some x:=by
 unfold Nc.St.out;rw[h,ZJ (Za _),Yo];rfl
theorem zFq {s:Nc.St} {x p:Int} (h:s.b=some x):(⟨s.pre,some p,s.B⟩:Nc.St).out=s.out.set s.pre.length p:=by
 unfold Nc.St.out;rw[h,Yz _ _ (Za _),Yo];rfl
theorem Nc.put_any (jb:Nat) (pv:Value) (T:List Rw.Row) (S:List Int) (s:Nc.St) (c:Int) (w:World) (ok:Ud.Ok T S) (h:Ud.Is w pv T S) (hI:Nc.In w jb pv (Md.cls T) s) (ee : -2147483648≤c) (ed:c≤2147483647) (hs:s.out.length≤100000) (b5:∀x,s.b=some x → -2147483648≤x∧x≤2147483647) :
 Calls prog 84 #[.pointer (some ⟨jb,0,none⟩),.int .i32 c] w fun e w'=>e=.returned (.tuple #[])∧Nc.In w' jb pv (Md.cls T) (Nc.put (Md.cls T) (Nc.j T S) s c)∧Below jb w w':=by
 obtain⟨i0,dc,c7,c1,c8⟩:=Z7 zCw;have cj:=Ud.class_any pv T S c w ok h;have hbd:=fun x=>zDP ok x
 obtain⟨dl,dm⟩:=zQH hbd s.B;obtain⟨du,dk⟩:=hbd c;have dn:Hy (∀x W,Below w.heap.size w W → -2147483648≤x→x≤2147483647→Calls prog 115 #[pv,.int .i32 x,.int .i32 c] W fun e w'=>e=.returned (.tuple #[.int .i32 (Ud.joinK T S x c).1,.bool (Ud.joinK T S x c).2])∧Below W.heap.size W w'):=hy' fun x W hW h3 h4=>Ud.join_any pv T S x c W ok (h.below hW) h3 h4 ee ed
 obtain⟨A,cp,bb,b2⟩:=hI;obtain⟨pb,rfl,_⟩:=h.form
 have cv:Hy (∀x,Ud.joinK T S x c=(((Nc.j T S x c).getD (Ud.joinK T S x c).1),(Nc.j T S x c).isSome)):=hy' fun x=>by
  unfold Nc.j;cases hk:(Ud.joinK T S x c).2
  · rw[Zl (by simp)];exact QF rfl hk
  rw[Zo rfl];exact QF rfl hk
 obtain⟨f,hf⟩:∃f,Md.cls T=f:=⟨_,rfl⟩;obtain⟨j0,hj0⟩:∃j0,Nc.j T S=j0:=⟨_,rfl⟩;rw[hj0]at cv ⊢;rw[hf]at cj bb dl dm du dk ⊢;obtain⟨n,hn⟩:∃n,s.out.length=n:=⟨_,rfl⟩;rw[hn]at bb b2 hs;obtain⟨q,hq⟩:∃q,f c=q:=⟨_,rfl⟩;rw[hq]at cj du dk;obtain⟨la,cy⟩:∃z,zCb f s.B=z:=⟨_,rfl⟩;rw[cy]at bb dl dm;obtain⟨ba,cn⟩:∃z,Nc.base s=z:=⟨_,rfl⟩;rw[cn]at bb
 have df:ba = -1∨(0≤ba∧ba<n):=by
  rw[←cn,←hn];unfold Nc.base Nc.St.out;cases s.b with
  | none=>exact .inl rfl
  | some x=>right;simp;omega
 have HN:=hy' hn;have HQ:=hy' hq;have b4:=hy' cy;have bw:=hy' cn;have eb:=hy' cj;have dt:=hy' b5;have eg:=hy' df;have bp:=hy' bb;have bl:=hy' b2;have z0:=bb.cell 0 rfl;have z1:=bb.cell 1 rfl;have z2:=bb.cell 2 rfl;have z3:=bb.cell 3 rfl;have zl:=bb.lt;clear cj hbd hn hq cy cn b5 bb b2 h ok df hf hj0;go_enter func84,ntmps84;go_wp2_with fail;refine eb.o.mono ?_;rintro e w1 ⟨rfl,cq⟩;have bi:=hy' cq;have ao:=bp.o.below cq;have bs:=hy' ao;have ax:=hy' (zA4 bl.o cq (Za _));clear z0 z1 z2 z3 zl cq;have z0:=ao.cell 0 rfl;have z1:=ao.cell 1 rfl;have z2:=ao.cell 2 rfl;have z3:=ao.cell 3 rfl;have zl:=ao.lt;have cr:=ao.frozen 1;have cm:=ao.frozen 2;have ck:=ao.frozen 3;clear ao;have dw:=hy' (Zc w.heap.size w);rcases hh:Nc.hit f j0 s c with _|p
 ·
  have ap:=hy' (show Nc.put f j0 s c=Nc.app f s c by unfold Nc.put;rw[hh])
  have di:¬(ba≥0∧la<q)∨((ba≥0)∧la<q∧∃x,s.b=some x∧j0 x c=none):=by
   by_cases hg:ba≥0∧la<q
   · right
     refine⟨hg.1,hg.2,?_⟩;unfold Nc.hit at hh;rw[b4.o,HQ.o,Zo hg.2]at hh;have hb:=bw.o;unfold Nc.base at hb;cases b5:s.b with
     | none=>rw[b5]at hb;simp only[]at hb;omega
     | some x=>rw[b5]at hh;exact⟨x,rfl,hh⟩
   exact .inl hg
  have ef:=hy' di;clear di hh;rcases ef.o with hg|⟨ch,dx,x,hx,ct⟩
  · by_cases ch:ba≥0
    · have dx:¬la<q:=fun h=>hg ⟨ch,h⟩
      clear hg;go_upto_region 5 with (fail)
      have aq:=bi.o;obtain⟨w5,bm⟩:∃w5:World,w5=w1:=⟨_,rfl⟩;rw[←bm]at aq ⊢;clear bm z0 z1 z2 z3 zl cr cm ck;have ae:=bp.o.below aq;have a7:=hy' ae;have av:=hy' (zA4 bl.o aq (Za _));have cb:=hy' (aq.mono (Z8 bp.o.lt));have z0:=ae.cell 0 rfl;have z1:=ae.cell 1 rfl;have zl:=ae.lt;have b7:jb+1≤w5.heap.size:=ae.lt;clear aq ae;go_upto_region 6 with (first|(at_builtin;refine zAj _ rfl _ _ _ rfl (jb+1) 21 i0 _ 4 underlying70 dc c7 c1 c8 rfl _ n _ rfl av.o _ rfl rfl (by simp only[maxLen];omega) (by omega) b7 ?_;intro v2 w6 ag bg;obtain⟨A6,c6,rfl⟩:=zA2 ag;have ah:=a7.o.below' bg (ZP _);have y1:=ah.cell 1 rfl;have yl:=ah.lt;have yf:=ah.frozen 1)|fail)
      obtain⟨w7,az⟩:∃w7,w6.setCell ⟨jb,1,none⟩ (.slice A6 (n+1) c6)=w7:=⟨_,rfl⟩;rw[az];have ai:Rw.At w7 jb 134 [.pointer (some ⟨pb,0,none⟩),.slice A6 (n+1) c6,.int .i64 ba,.int .i64 la]:=by rw[←az];exact ah.set 1 _
      have ak:w7.ownsRow (jb+1) 21 1 (.slice A6 (n+1) c6) (n+1) ((s.out++[c]).map (Value.int .i32)):=by
       rw[←az,ZK];exact Yc ag (by show jb<jb+1;omega) _
      have bo:Below jb w w7:=by rw[←az];exact (cb.o.trans (bg.mono (ZX _))).setCell (p:=⟨jb,1,none⟩) (Za _) _
      have ay:=hy' ak;have bc:=hy' ai;have cg:=hy' bo;clear ah y1 yl yf ag bg az ak bo z0 z1 zl;have z3:=ai.cell 3 rfl;have zl:=ai.lt;have zf:=ai.frozen 3;obtain⟨mx,hmx⟩:∃mx,max la q=mx:=⟨_,rfl⟩;have bq:zCb f (s.B++[c])=mx:=by rw[zFN,b4.o,HQ.o,hmx]
      have b8:=hy' bq;clear ai bq;go_upto_region 7 with (fail)
      obtain⟨w8,ar⟩:∃w8,w7.setCell ⟨jb,3,none⟩ (.int .i64 mx)=w8:=⟨_,rfl⟩;rw[ar];have aa:Rw.At w8 jb 134 [.pointer (some ⟨pb,0,none⟩),.slice A6 (n+1) c6,.int .i64 ba,.int .i64 mx]:=by rw[←ar];exact bc.o.set 3 _
      have aj:Hy (w8.ownsRow (jb+1) 21 1 (.slice A6 (n+1) c6) (n+1) ((s.out++[c]).map (Value.int .i32))):=hy' (by rw[←ar];exact Yc ay.o (by show jb<jb+1;omega) _);have bn:Hy (Below jb w w8):=hy' (by rw[←ar];exact cg.o.setCell (p:=⟨jb,3,none⟩) (Za _) _);have aw:=hy' aa;clear ar z3 zl zf hmx;have a1:Hy ((Nc.put f j0 s c).out.length=n+1):=hy' (by rw[ap.o,zAE,Zd,HN.o];rfl);rcases hq0:(q == 0) with _|_
      · have af:¬q=0:=by simpa using hq0
        have au:Nc.put f j0 s c=⟨s.pre,s.b,s.B++[c]⟩:=by rw[ap.o];unfold Nc.app;rw[if_neg (by rw[HQ.o];exact af)]
        have a6:=hy' au;clear au aa af;go_wp2_with fail;go_end0;refine⟨rfl,⟨A6,c6,?_,?_⟩,bn.o⟩
        · rw[a1.o,a6.o];show Rw.At w8 jb 134 [_,_,.int .i64 (Nc.base s),.int .i64 (zCb f (s.B++[c]))];rw[bw.o,b8.o];exact aw.o
        rw[a1.o,ap.o,zAE];exact aj.o
      have af:q=0:=by simpa using hq0
      have au:Nc.put f j0 s c=⟨s.out,some c,[]⟩:=by rw[ap.o];unfold Nc.app;rw[if_pos (by rw[HQ.o];exact af)]
      have a6:=hy' au;have z1:=aa.cell 1 rfl;have z2:=aa.cell 2 rfl;have z3:=aa.cell 3 rfl;have zl:=aa.lt;have dh:=aa.frozen 2;have dp:=aa.frozen 3;clear au aa af;go_wp2_with fail;go_end0;refine⟨rfl,⟨A6,c6,?_,?_⟩,?_⟩
      · rw[a1.o,a6.o];have:=(aw.o.set 2 (.int .i64 n)).set 3 (.int .i64 (-1));show Rw.At _ jb 134 [_,_,.int .i64 (s.out.length:Int),.int .i64 (-1)];rw[HN.o];exact this
      · rw[a1.o,ap.o,zAE];exact Yc (Yc aj.o (by show jb<jb+1;omega) _) (by show jb<jb+1;omega) _
      exact (bn.o.setCell (p:=⟨jb,2,none⟩) (Za _) _).setCell (p:=⟨jb,3,none⟩) (Za _) _
    clear hg;go_upto_region 5 with (fail)
    have aq:=bi.o;obtain⟨w5,bm⟩:∃w5:World,w5=w1:=⟨_,rfl⟩;rw[←bm]at aq ⊢;clear bm z0 z1 z2 z3 zl cr cm ck;have ae:=bp.o.below aq;have a7:=hy' ae;have av:=hy' (zA4 bl.o aq (Za _));have cb:=hy' (aq.mono (Z8 bp.o.lt));have z0:=ae.cell 0 rfl;have z1:=ae.cell 1 rfl;have zl:=ae.lt;have b7:jb+1≤w5.heap.size:=ae.lt;clear aq ae;go_upto_region 6 with (first|(at_builtin;refine zAj _ rfl _ _ _ rfl (jb+1) 21 i0 _ 4 underlying70 dc c7 c1 c8 rfl _ n _ rfl av.o _ rfl rfl (by simp only[maxLen];omega) (by omega) b7 ?_;intro v2 w6 ag bg;obtain⟨A6,c6,rfl⟩:=zA2 ag;have ah:=a7.o.below' bg (ZP _);have y1:=ah.cell 1 rfl;have yl:=ah.lt;have yf:=ah.frozen 1)|fail)
    obtain⟨w7,az⟩:∃w7,w6.setCell ⟨jb,1,none⟩ (.slice A6 (n+1) c6)=w7:=⟨_,rfl⟩;rw[az];have ai:Rw.At w7 jb 134 [.pointer (some ⟨pb,0,none⟩),.slice A6 (n+1) c6,.int .i64 ba,.int .i64 la]:=by rw[←az];exact ah.set 1 _
    have ak:w7.ownsRow (jb+1) 21 1 (.slice A6 (n+1) c6) (n+1) ((s.out++[c]).map (Value.int .i32)):=by
     rw[←az,ZK];exact Yc ag (by show jb<jb+1;omega) _
    have bo:Below jb w w7:=by rw[←az];exact (cb.o.trans (bg.mono (ZX _))).setCell (p:=⟨jb,1,none⟩) (Za _) _
    have ay:=hy' ak;have bc:=hy' ai;have cg:=hy' bo;clear ah y1 yl yf ag bg az ak bo z0 z1 zl;have z3:=ai.cell 3 rfl;have zl:=ai.lt;have zf:=ai.frozen 3;obtain⟨mx,hmx⟩:∃mx,max la q=mx:=⟨_,rfl⟩;have bq:zCb f (s.B++[c])=mx:=by rw[zFN,b4.o,HQ.o,hmx]
    have b8:=hy' bq;clear ai bq;go_upto_region 7 with (fail)
    obtain⟨w8,ar⟩:∃w8,w7.setCell ⟨jb,3,none⟩ (.int .i64 mx)=w8:=⟨_,rfl⟩;rw[ar];have aa:Rw.At w8 jb 134 [.pointer (some ⟨pb,0,none⟩),.slice A6 (n+1) c6,.int .i64 ba,.int .i64 mx]:=by rw[←ar];exact bc.o.set 3 _
    have aj:Hy (w8.ownsRow (jb+1) 21 1 (.slice A6 (n+1) c6) (n+1) ((s.out++[c]).map (Value.int .i32))):=hy' (by rw[←ar];exact Yc ay.o (by show jb<jb+1;omega) _);have bn:Hy (Below jb w w8):=hy' (by rw[←ar];exact cg.o.setCell (p:=⟨jb,3,none⟩) (Za _) _);have aw:=hy' aa;clear ar z3 zl zf hmx;have a1:Hy ((Nc.put f j0 s c).out.length=n+1):=hy' (by rw[ap.o,zAE,Zd,HN.o];rfl);rcases hq0:(q == 0) with _|_
    · have af:¬q=0:=by simpa using hq0
      have au:Nc.put f j0 s c=⟨s.pre,s.b,s.B++[c]⟩:=by rw[ap.o];unfold Nc.app;rw[if_neg (by rw[HQ.o];exact af)]
      have a6:=hy' au;clear au aa af;go_wp2_with fail;go_end0;refine⟨rfl,⟨A6,c6,?_,?_⟩,bn.o⟩
      · rw[a1.o,a6.o];show Rw.At w8 jb 134 [_,_,.int .i64 (Nc.base s),.int .i64 (zCb f (s.B++[c]))];rw[bw.o,b8.o];exact aw.o
      rw[a1.o,ap.o,zAE];exact aj.o
    have af:q=0:=by simpa using hq0
    have au:Nc.put f j0 s c=⟨s.out,some c,[]⟩:=by rw[ap.o];unfold Nc.app;rw[if_pos (by rw[HQ.o];exact af)]
    have a6:=hy' au;have z1:=aa.cell 1 rfl;have z2:=aa.cell 2 rfl;have z3:=aa.cell 3 rfl;have zl:=aa.lt;have dh:=aa.frozen 2;have dp:=aa.frozen 3;clear au aa af;go_wp2_with fail;go_end0;refine⟨rfl,⟨A6,c6,?_,?_⟩,?_⟩
    · rw[a1.o,a6.o];have:=(aw.o.set 2 (.int .i64 n)).set 3 (.int .i64 (-1));show Rw.At _ jb 134 [_,_,.int .i64 (s.out.length:Int),.int .i64 (-1)];rw[HN.o];exact this
    · rw[a1.o,ap.o,zAE];exact Yc (Yc aj.o (by show jb<jb+1;omega) _) (by show jb<jb+1;omega) _
    exact (bn.o.setCell (p:=⟨jb,2,none⟩) (Za _) _).setCell (p:=⟨jb,3,none⟩) (Za _) _
  have ea:(0:Int)≤ba:=ch;have bf:(s.pre.length:Int)=ba:=by have:=bw.o;unfold Nc.base at this;rw[hx]at this;exact this
  have b3:s.pre.length<n:=by rw[←HN.o];exact (List.getElem?_eq_some_iff.1 (zEX hx)).1
  obtain⟨pl,cf⟩:∃q,s.pre.length=q:=⟨_,rfl⟩;have bj:=zEX hx;rw[cf]at bf b3 bj;subst bf;obtain⟨ob,oo,hA2,b1,cd⟩:=(Sl.of_own ax.o) (by rw[Ze,HN.o];omega);have hce:=cd pl (by rw[Ze,HN.o];exact b3);rw[Zs,bj,ZA]at hce;cases hA2
  obtain⟨rfl,bt,_,cz⟩:=zDw ax.o;rw[ZU]at hce;obtain⟨br,bz⟩:=dt.o x hx;have bu:=cv.o x;rw[ct]at bu
  have cw:Hy (∀W,Below w1.heap.size w1 W→(∀u:Stg.Later Stg.Ex W,u.val.cell? ⟨jb,0,none⟩=some (.pointer (some ⟨pb,0,none⟩)))∧(∀u:Stg.Later Stg.Ex W,u.val.cell? ⟨jb,1,none⟩=some (.slice (some ⟨ob,0,none⟩) n cp))∧(∀u:Stg.Later Stg.Ex W,u.val.cell? ⟨jb,2,none⟩=some (.int .i64 pl))∧(∀u:Stg.Later Stg.Ex W,u.val.cell? ⟨ob,pl,none⟩=some (.int .i32 x))):=hy' fun W hW =>
   have hT:=bs.o.below hW
   ⟨Stg.cells (hT.cell 0 rfl) hT.lt,Stg.cells (hT.cell 1 rfl) hT.lt,Stg.cells (hT.cell 2 rfl) hT.lt,Stg.cells (((zAI hW).1 _ _ b1).trans hce) (Zg b1 hW.size)⟩
  have cu:Hy (∀W,Below w1.heap.size w1 W→Calls prog 115 #[.pointer (some ⟨pb,0,none⟩),.int .i32 x,.int .i32 c] W fun e w'=>e=.returned (.tuple #[.int .i32 (Ud.joinK T S x c).1,.bool false])∧Below W.heap.size W w'):=hy' fun W hW=>by
   have:=dn.o x W (bi.o.trans (hW.mono bi.o.size)) br bz;rw[bu]at this;exact this
  have pI:(pl:Int)<n:=by omega
  have bk:=hy' (Zc w1.heap.size w1).drew;have dy:=hy' bj;have dr:=hy' hce;have b6:=hy' (And.intro b1 bt);clear bu cd hce bj cz z0 z1 cr;go_upto_region 2 with (fail)
  refine Stg.wp_region (by kernel_rfl) Stg.Ex Stg.Ex.rel ?_;(iterate 3 (refine Stg.readW (by kernel_rfl) ?_;intro K hK;go_big_quiet_op;go_big_quiet_on));obtain⟨f0,f1,f2,e0⟩:=cw.o w1.drew bk.o;refine Stg.read 0 (by kernel_rfl) w1.drew rfl ?_;intro K hK;go_big_quiet_op;go_big_quiet_on;(iterate 3 (refine Stg.readW (by kernel_rfl) ?_;intro K hK;go_big_quiet_op;go_big_quiet_on));refine Stg.read 0 (by kernel_rfl) w1.drew rfl ?_;intro K hK;go_big_quiet_op;go_big_quiet_on;(iterate 3 (refine Stg.readW (by kernel_rfl) ?_;intro K hK;go_big_quiet_op;go_big_quiet_on));refine Stg.read 0 (by kernel_rfl) w1.drew rfl ?_;intro K hK;go_big_quiet_op;go_big_quiet_on;refine Stg.readW (by kernel_rfl) ?_;intro K hK;go_big_quiet_op;go_big_quiet_on;refine Stg.read 0 (by kernel_rfl) w1.drew rfl ?_;intro K hK;go_big_quiet_op;go_big_quiet_on;refine Stg.readW (by kernel_rfl) ?_;intro K hK;go_big_quiet_op;go_big_quiet_on;refine Stg.call 115 _ _ rfl func115 [.pointer (some ⟨pb,0,none⟩),.int .i32 x,.int .i32 c] rfl w1.drew _ (cu.o w1.drew bk.o) (by kernel_rfl) rfl ?_;rintro e q1 ⟨rfl,hb⟩;refine⟨_,rfl,hb,?_⟩;have bx:=hy' (bk.o.trans (hb.mono bk.o.size));clear hb;intro A' cc;simp only[Act.put,Zf,Zk,Zj]at cc;subst cc
  (iterate 5 (refine Stg.readW (by kernel_rfl) ?_;intro K hK;go_big_quiet_op;go_big_quiet_on))
  clear f0 f1 f2 e0;refine Stg.nil q1 rfl ?_;have aq:=bi.o.trans (bx.o.mono bi.o.size);go_upto_region 5 with (fail)
  obtain⟨w5,bm⟩:∃w5:World,w5=q1:=⟨_,rfl⟩;rw[←bm]at aq ⊢;clear bm z2 z3 zl cm ck;have ae:=bp.o.below aq;have a7:=hy' ae;have av:=hy' (zA4 bl.o aq (Za _));have cb:=hy' (aq.mono (Z8 bp.o.lt));have z0:=ae.cell 0 rfl;have z1:=ae.cell 1 rfl;have zl:=ae.lt;have b7:jb+1≤w5.heap.size:=ae.lt;clear aq ae;go_upto_region 6 with (first|(at_builtin;refine zAj _ rfl _ _ _ rfl (jb+1) 21 i0 _ 4 underlying70 dc c7 c1 c8 rfl _ n _ rfl av.o _ rfl rfl (by simp only[maxLen];omega) (by omega) b7 ?_;intro v2 w6 ag bg;obtain⟨A6,c6,rfl⟩:=zA2 ag;have ah:=a7.o.below' bg (ZP _);have y1:=ah.cell 1 rfl;have yl:=ah.lt;have yf:=ah.frozen 1)|fail)
  obtain⟨w7,az⟩:∃w7,w6.setCell ⟨jb,1,none⟩ (.slice A6 (n+1) c6)=w7:=⟨_,rfl⟩;rw[az];have ai:Rw.At w7 jb 134 [.pointer (some ⟨pb,0,none⟩),.slice A6 (n+1) c6,.int .i64 pl,.int .i64 la]:=by rw[←az];exact ah.set 1 _
  have ak:w7.ownsRow (jb+1) 21 1 (.slice A6 (n+1) c6) (n+1) ((s.out++[c]).map (Value.int .i32)):=by
   rw[←az,ZK];exact Yc ag (by show jb<jb+1;omega) _
  have bo:Below jb w w7:=by rw[←az];exact (cb.o.trans (bg.mono (ZX _))).setCell (p:=⟨jb,1,none⟩) (Za _) _
  have ay:=hy' ak;have bc:=hy' ai;have cg:=hy' bo;clear ah y1 yl yf ag bg az ak bo z0 z1 zl;have z3:=ai.cell 3 rfl;have zl:=ai.lt;have zf:=ai.frozen 3;obtain⟨mx,hmx⟩:∃mx,max la q=mx:=⟨_,rfl⟩;have bq:zCb f (s.B++[c])=mx:=by rw[zFN,b4.o,HQ.o,hmx]
  have b8:=hy' bq;clear ai bq;go_upto_region 7 with (fail)
  obtain⟨w8,ar⟩:∃w8,w7.setCell ⟨jb,3,none⟩ (.int .i64 mx)=w8:=⟨_,rfl⟩;rw[ar];have aa:Rw.At w8 jb 134 [.pointer (some ⟨pb,0,none⟩),.slice A6 (n+1) c6,.int .i64 pl,.int .i64 mx]:=by rw[←ar];exact bc.o.set 3 _
  have aj:Hy (w8.ownsRow (jb+1) 21 1 (.slice A6 (n+1) c6) (n+1) ((s.out++[c]).map (Value.int .i32))):=hy' (by rw[←ar];exact Yc ay.o (by show jb<jb+1;omega) _);have bn:Hy (Below jb w w8):=hy' (by rw[←ar];exact cg.o.setCell (p:=⟨jb,3,none⟩) (Za _) _);have aw:=hy' aa;clear ar z3 zl zf hmx;have a1:Hy ((Nc.put f j0 s c).out.length=n+1):=hy' (by rw[ap.o,zAE,Zd,HN.o];rfl);rcases hq0:(q == 0) with _|_
  · have af:¬q=0:=by simpa using hq0
    have au:Nc.put f j0 s c=⟨s.pre,s.b,s.B++[c]⟩:=by rw[ap.o];unfold Nc.app;rw[if_neg (by rw[HQ.o];exact af)]
    have a6:=hy' au;clear au aa af;go_wp2_with fail;go_end0;refine⟨rfl,⟨A6,c6,?_,?_⟩,bn.o⟩
    · rw[a1.o,a6.o];show Rw.At w8 jb 134 [_,_,.int .i64 (Nc.base s),.int .i64 (zCb f (s.B++[c]))];rw[bw.o,b8.o];exact aw.o
    rw[a1.o,ap.o,zAE];exact aj.o
  have af:q=0:=by simpa using hq0
  have au:Nc.put f j0 s c=⟨s.out,some c,[]⟩:=by rw[ap.o];unfold Nc.app;rw[if_pos (by rw[HQ.o];exact af)]
  have a6:=hy' au;have z1:=aa.cell 1 rfl;have z2:=aa.cell 2 rfl;have z3:=aa.cell 3 rfl;have zl:=aa.lt;have dh:=aa.frozen 2;have dp:=aa.frozen 3;clear au aa af;go_wp2_with fail;go_end0;refine⟨rfl,⟨A6,c6,?_,?_⟩,?_⟩
  · rw[a1.o,a6.o];have:=(aw.o.set 2 (.int .i64 n)).set 3 (.int .i64 (-1));show Rw.At _ jb 134 [_,_,.int .i64 (s.out.length:Int),.int .i64 (-1)];rw[HN.o];exact this
  · rw[a1.o,ap.o,zAE];exact Yc (Yc aj.o (by show jb<jb+1;omega) _) (by show jb<jb+1;omega) _
  exact (bn.o.setCell (p:=⟨jb,2,none⟩) (Za _) _).setCell (p:=⟨jb,3,none⟩) (Za _) _
 have ap:=hy' (show Nc.put f j0 s c=⟨s.pre,some p,s.B⟩ by unfold Nc.put;rw[hh]);obtain⟨x,hx,ct,dv⟩:=zBY hh;rw[b4.o,HQ.o]at dv;clear hh;have ch:ba≥0:=by have:=bw.o;unfold Nc.base at this;rw[hx]at this;simp only[]at this;omega
 have ea:(0:Int)≤ba:=ch;have bf:(s.pre.length:Int)=ba:=by have:=bw.o;unfold Nc.base at this;rw[hx]at this;exact this
 have b3:s.pre.length<n:=by rw[←HN.o];exact (List.getElem?_eq_some_iff.1 (zEX hx)).1
 obtain⟨pl,cf⟩:∃q,s.pre.length=q:=⟨_,rfl⟩;have bj:=zEX hx;rw[cf]at bf b3 bj;subst bf;obtain⟨ob,oo,hA2,b1,cd⟩:=(Sl.of_own ax.o) (by rw[Ze,HN.o];omega);have hce:=cd pl (by rw[Ze,HN.o];exact b3);rw[Zs,bj,ZA]at hce;cases hA2
 obtain⟨rfl,bt,_,cz⟩:=zDw ax.o;rw[ZU]at hce;obtain⟨br,bz⟩:=dt.o x hx;have bu:=cv.o x;rw[ct]at bu
 have cw:Hy (∀W,Below w1.heap.size w1 W→(∀u:Stg.Later Stg.Ex W,u.val.cell? ⟨jb,0,none⟩=some (.pointer (some ⟨pb,0,none⟩)))∧(∀u:Stg.Later Stg.Ex W,u.val.cell? ⟨jb,1,none⟩=some (.slice (some ⟨ob,0,none⟩) n cp))∧(∀u:Stg.Later Stg.Ex W,u.val.cell? ⟨jb,2,none⟩=some (.int .i64 pl))∧(∀u:Stg.Later Stg.Ex W,u.val.cell? ⟨ob,pl,none⟩=some (.int .i32 x))):=hy' fun W hW =>
  have hT:=bs.o.below hW
  ⟨Stg.cells (hT.cell 0 rfl) hT.lt,Stg.cells (hT.cell 1 rfl) hT.lt,Stg.cells (hT.cell 2 rfl) hT.lt,Stg.cells (((zAI hW).1 _ _ b1).trans hce) (Zg b1 hW.size)⟩
 have cu:Hy (∀W,Below w1.heap.size w1 W→Calls prog 115 #[.pointer (some ⟨pb,0,none⟩),.int .i32 x,.int .i32 c] W fun e w'=>e=.returned (.tuple #[.int .i32 p,.bool true])∧Below W.heap.size W w'):=hy' fun W hW=>by
  have:=dn.o x W (bi.o.trans (hW.mono bi.o.size)) br bz;rw[bu]at this;exact this
 have pI:(pl:Int)<n:=by omega
 have bk:=hy' (Zc w1.heap.size w1).drew;have dy:=hy' bj;have dr:=hy' hce;have b6:=hy' (And.intro b1 bt);clear bu cd hce bj cz z0 z1 cr;go_upto_region 2 with (fail)
 refine Stg.wp_region (by kernel_rfl) Stg.Ex Stg.Ex.rel ?_;(iterate 3 (refine Stg.readW (by kernel_rfl) ?_;intro K hK;go_big_quiet_op;go_big_quiet_on));obtain⟨f0,f1,f2,e0⟩:=cw.o w1.drew bk.o;refine Stg.read 0 (by kernel_rfl) w1.drew rfl ?_;intro K hK;go_big_quiet_op;go_big_quiet_on;(iterate 3 (refine Stg.readW (by kernel_rfl) ?_;intro K hK;go_big_quiet_op;go_big_quiet_on));refine Stg.read 0 (by kernel_rfl) w1.drew rfl ?_;intro K hK;go_big_quiet_op;go_big_quiet_on;(iterate 3 (refine Stg.readW (by kernel_rfl) ?_;intro K hK;go_big_quiet_op;go_big_quiet_on));refine Stg.read 0 (by kernel_rfl) w1.drew rfl ?_;intro K hK;go_big_quiet_op;go_big_quiet_on;refine Stg.readW (by kernel_rfl) ?_;intro K hK;go_big_quiet_op;go_big_quiet_on;refine Stg.read 0 (by kernel_rfl) w1.drew rfl ?_;intro K hK;go_big_quiet_op;go_big_quiet_on;refine Stg.readW (by kernel_rfl) ?_;intro K hK;go_big_quiet_op;go_big_quiet_on;refine Stg.call 115 _ _ rfl func115 [.pointer (some ⟨pb,0,none⟩),.int .i32 x,.int .i32 c] rfl w1.drew _ (cu.o w1.drew bk.o) (by kernel_rfl) rfl ?_;rintro e q1 ⟨rfl,hb⟩;refine⟨_,rfl,hb,?_⟩;have bx:=hy' (bk.o.trans (hb.mono bk.o.size));clear hb;intro A' cc;simp only[Act.put,Zf,Zk,Zj]at cc;subst cc
 (iterate 5 (refine Stg.readW (by kernel_rfl) ?_;intro K hK;go_big_quiet_op;go_big_quiet_on))
 clear f0 f1 f2 e0;refine Stg.nil q1 rfl ?_;have ec:=hy' (bi.o.trans (bx.o.mono bi.o.size));have bh:=bs.o.below bx.o;have cx:=hy' bh;have a8:=zA4 ax.o bx.o (Za _);have b9:=hy' a8;have y1:=bh.cell 1 rfl;have y2:=bh.cell 2 rfl;have yl:=bh.lt;have yo:=Zg b6.o.1 bx.o.size;have yf:=(zDw a8).2.2.2 pl;have yc:=((zAI bx.o).1 _ pl b6.o.1).trans dr.o;clear bh a8 z2 z3 zl cm ck;go_upto_region 4 with (fail)
 go_region;go_wp2_with fail;refine YH (QO rfl _ _ _) rfl ?_;refine⟨rfl,?_,?_⟩
 · refine⟨some ⟨ob,0,none⟩,cp,?_,?_⟩
   · have hl:(Nc.put f j0 s c).out.length=n:=by rw[ap.o,zFq hx,Xc,HN.o]
     rw[hl,ap.o];have dz:Nc.base ⟨s.pre,some p,s.B⟩=pl:=by show ((s.pre.length:Nat):Int)=pl;rw[cf]
     show Rw.At _ jb 134 [_,_,.int .i64 (Nc.base ⟨s.pre,some p,s.B⟩),.int .i64 (zCb f s.B)];rw[dz,b4.o];have hd:Rw.At q1.drew jb 134 _:=cx.o.below (Zc _ _).drew;exact hd.other (by have:=b6.o.2;omega) _
   have hl:(Nc.put f j0 s c).out.length=n:=by rw[ap.o,zFq hx,Xc,HN.o]
   rw[hl,ap.o,zFq hx,cf,Jj];exact zQs (zA4 b9.o (Zc _ _).drew (Za _)) (by rw[Ze,HN.o];exact b3) _
 exact (ec.o.drew.mono (Z8 bp.o.lt)).setCell (p:=⟨ob,pl,none⟩) (by have:=b6.o.2;show jb≤ob;omega) _
theorem zQI {T:List Rw.Row} {S:List Int} (ok:Ud.Ok T S) {l:List Int} (h:∀c∈l,C.isC c=true):∀c∈Nf.fl T l,C.isC c=true:=fun c hc=>by
 unfold Nf.fl at hc;obtain⟨x,hx,hy⟩:=List.mem_flatMap.1 hc;exact zIY ok (h x hx) c hy
theorem Nf.chars_isC {T:List Rw.Row} {S:List Int} (ok:Ud.Ok T S) {l:List Int} (h:∀c∈l,C.isC c=true):∀c∈Nf.chars T l,C.isC c=true:=fun c hc =>
 zQI ok h c (((zBX (Md.cls T) _ (Nf.fl T l)).mem c).1 hc)
theorem Nf.chars_len (T:List Rw.Row) (l:List Int):(Nf.chars T l).length=(Nf.fl T l).length:=zCA _ _
theorem Nf.isC_i32 {c:Int} (h:C.isC c=true) : -2147483648≤c∧c≤2147483647:=by have:=Ud.isC_bd h;omega
theorem zMt (v:Value) (T:List Rw.Row) (S:List Int) (A:Option Addr) (n c:Nat) (l:List Int) (w:World) (ok:Ud.Ok T S) (h:Ud.Is w v T S) (hl:l.length=n) (hn:n≤3000) (a8:∀x∈l,-2147483648≤x∧x≤2147483647) (hA:Sl w w.heap.size A (l.map (Value.int .i32))) :
 Calls prog 101 #[v,.slice A n c] w (Md.RetOwn (Nf.fl T l) w):=by
 obtain⟨i0,bm,bh,bg,bj⟩:=Z7 zCw;have bp:Hy (∀x W,Below w.heap.size w W → -2147483648≤x→x≤2147483647→Calls prog 50 #[v,.int .i32 x] W (RetInts .i32 (Ud.full T x) W)):=hy' fun x W hW h3 h4=>Ud.full_any v T S x W ok (h.below hW) h3 h4
 obtain⟨pv,rfl,_⟩:=h.form;have HL:=hy' hl;have bq:=hy' a8;have HA:=hy' hA;have bx:=hy' (zFp (fun c=>zB5 ok c));have aw:=hy' (fun c=>zB5 ok c);clear hl a8 hA h ok;go_enter func101,ntmps101;go_wp2_with fail;go_loopw [5,7,10] (fun v5 _ i wr=>∃(k:Nat) (sl:Value),k≤n∧i=.int .i64 k∧v5=sl∧wr.ownsRow w.heap.size 21 1 sl (Nf.fl T (l.take k)).length ((Nf.fl T (l.take k)).map (Value.int .i32))∧Below w.heap.size w wr) (fun _ _ i _=>n-(intOf i).toNat)
 case atStart=>exact⟨0,_,ZG _,rfl,rfl,ZI _ _ _ _,Zc _ _⟩
 obtain⟨k,sl,hk,rfl,rfl,aa,af⟩:=hrel;have bf:=af.size
 by_cases hlt:k<n
 · obtain⟨x,hx⟩:∃x,l[k]?=some x:=⟨_,Zb (by rw[HL.o];exact hlt)⟩;obtain⟨az,ba⟩:=bq.o x (Zn hx);obtain⟨ab,ao,hA2,bz,a1⟩:=HA.o (by rw[Ze,HL.o];omega);have hc:=a1 k (by rw[Ze,HL.o];exact hlt);rw[Zs,hx,ZA,←(zAI af).1 _ _ (by omega)]at hc;have av:=zH7 (T:=T) hx;have au:=bx.o (l.take k);rw[Zq,HL.o]at au;have ax:=aw.o x;have ap:=bp.o x wr af az ba;obtain⟨m,hm⟩:∃m,Ud.full T x=m:=⟨_,rfl⟩;obtain⟨S,hS⟩:∃S,Nf.fl T (l.take k)=S:=⟨_,rfl⟩;obtain⟨ml,ai⟩:∃q,m.length=q:=⟨_,rfl⟩;obtain⟨sn,ae⟩:∃q,S.length=q:=⟨_,rfl⟩;unfold RetInts at ap;rw[hm,ai]at ap;rw[hS,ae]at aa;rw[hS,ae]at au;rw[hm,ai]at ax;rw[hS,hm]at av;have kI:(k:Int)<n:=by omega
   have k0:(0:Int)≤k:=by omega
   have bo:=hy' av;have ak:=hy' aa;have ar:=hy' af;have bu:=hy' ai;have ay:=hy' ae;have bi:=hy' ap;have b1:sn≤32*k:=by omega
   have bb:(m.map (Value.int .i32)).length=ml*1:=by rw[Ze,ai];omega
   have bc:∀u∈m.map (Value.int .i32),u.oneCell'=true:=zBN .i32 _;have bk:=hy' bb;have br:=hy' bc;subst hA2;clear hx az ba a1 av au hm hS ai ae ap aa af bb bc;go_wp2_with (first|(go_at_call 50;refine bi.o.mono ?_;rintro e w1 ⟨A1,c1,rfl,a6,aq⟩;have aj:=hy' (zA4 ak.o aq (Za _));have bs:=hy' a6;have bw:=hy' (ar.o.trans (aq.mono bf));have bn:w.heap.size≤w1.heap.size:=Zi bf aq.size;clear a6 aq hc)|(at_builtin;refine zAc _ rfl _ _ _ rfl w.heap.size 21 i0 _ 1 4 underlying70 bm bh bg bj rfl (by omega) _ sn _ rfl aj.o _ A1 ml c1 (m.map (Value.int .i32)) rfl bk.o bs.o br.o (by simp only[maxLen];omega) (by omega) bn ?_;intro v1 w4 ag a7 bt;have ah:=hy' ag;have bl:=hy' (bw.o.trans a7);clear ag a7 bt)|fail);refine⟨⟨k+1,v1,by omega,by first|rfl|go_num,rfl,?_,bl.o⟩,by simp[intOf];omega⟩;rw[bo.o,Zd,ay.o,bu.o,ZK];exact ah.o
 obtain rfl:k=n:=by omega
 rw[Zm (by rw[HL.o];exact Za _)]at aa;obtain⟨S,hS⟩:∃S,Nf.fl T l=S:=⟨_,rfl⟩;obtain⟨sn,ae⟩:∃q,S.length=q:=⟨_,rfl⟩;rw[hS,ae]at aa;obtain⟨A4,c4,rfl⟩:=zA2 aa;have kI:¬(k:Int)<k:=by omega
 have HS:=hy' hS;have ay:=hy' ae;have HO:=hy' aa;have HB:=hy' af;clear aa hS ae af;go_wp2_with fail;go_ret;rw[HS.o];unfold Md.RetOwn;rw[ay.o];exact⟨_,_,rfl,HO.o,HB.o⟩
theorem Nf.Chars_any (v:Value) (T:List Rw.Row) (S:List Int) (A:Option Addr) (n c:Nat) (l:List Int) (w:World) (ok:Ud.Ok T S) (h:Ud.Is w v T S) (hl:l.length=n) (hn:n≤3000) (av:∀x∈l,-2147483648≤x∧x≤2147483647) (hA:Sl w w.heap.size A (l.map (Value.int .i32))) (af:∀ak cd k N,(∀(args:Array Value) (w:World),(callFunc ak args).run prog w=.ok (.enter ak args) w)→zEi ak cd k N) :
 Calls prog 71 #[v,.slice A n c] w (Md.RetOwn (Nf.chars T l) w):=by
 have ap:=zMt v T S A n c l w ok h hl hn av hA;have aj:Hy (∀A' m c' W,Below w.heap.size w W→(Nf.fl T l).length=m→m≤100000→Sl W W.heap.size A' ((Nf.fl T l).map (Value.int .i32))→Calls prog 100 #[v,.slice A' m c'] W (Md.RetOwn (Nf.chars T l) W)):=hy' fun A' m c' W hW h1 h2 h3=>Or.of_any v T S A' m c' (Nf.fl T l) W ok (h.below hW) h1 h2 h3 af
 have aq:=zFp (fun c=>zB5 ok c) l;obtain⟨F,hF⟩:∃F,Nf.fl T l=F:=⟨_,rfl⟩;obtain⟨Z,hZ⟩:∃Z,Nf.chars T l=Z:=⟨_,rfl⟩;obtain⟨fn,ag⟩:∃k,F.length=k:=⟨_,rfl⟩;obtain⟨zn,ah⟩:∃k,Z.length=k:=⟨_,rfl⟩;unfold Md.RetOwn at *;rw[hF,ag]at ap;rw[hF,hZ,ah]at aj;rw[hF,ag]at aq;rw[hZ,ah];have az:fn≤100000:=by omega
 have ax:=hy' ag;have ar:=hy' ap;obtain⟨pv,rfl,_⟩:=h.form;clear ap aq hF hZ ag ah ok h hl av hA af;go_enter func71,ntmps71;go_wp2_with fail;refine ar.o.mono ?_;rintro e w1 ⟨A1,c1,rfl,aa,ai⟩;have HO:=hy' (aj.o A1 fn c1 w1 ai ax.o az (Sl.of_own aa));have ao:=hy' ai;clear aa ai aj ar;go_wp2_with fail;refine HO.o.mono ?_;rintro e w2 ⟨A2,c2,rfl,ae,au⟩;have aw:=hy' (zAw ae ao.o.size);have ay:=hy' (ao.o.trans (au.mono ao.o.size));clear ae au HO;go_wp2_with fail;go_ret;exact⟨_,_,rfl,aw.o,ay.o⟩
end Go.Proofs.YtddbccflcekdpaaGreatDoor
