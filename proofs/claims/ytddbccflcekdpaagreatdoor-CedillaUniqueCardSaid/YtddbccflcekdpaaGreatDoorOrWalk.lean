/- Merging two sorted blocks in place (symMerge), by walking; and by induction. -/
import Derived.Test.YtddbccflcekdpaaGreatDoorSsSymB
set_option maxRecDepth 100000
set_option maxHeartbeats 8000000
set_option linter.unusedVariables false
set_option linter.unusedSimpArgs false
namespace Go.Proofs.YtddbccflcekdpaaGreatDoor
open Go.Proofs.Tryz
open Go.RowKit
def zEi (aa:FuncId) (cd:Option Addr) (k:Int→Int) (N:Nat):Prop:=∀(sz g o n0 cap a m b:Nat) (P A B Q:List Int) (w:World),Ss.Cmp aa cd k g w→Ss.At w g sz (P++(A++(B++Q)))→P.length=o+a→a+A.length=m→m+B.length=b→a<m→m<b→b≤n0→n0≤1000000→b≤a+N→Ss.so k A→Ss.so k B →
 Calls prog 191 #[.slice (some ⟨g,o,none⟩) n0 cap,.int .i64 a,.int .i64 m,.int .i64 b,.func (.func aa) #[] #[.pointer cd]] w (zGr k sz g P A B Q w)
theorem zNA (ak:FuncId) (cd:Option Addr) (k:Int→Int) (ao:∀(args:Array Value) (w:World),(callFunc ak args).run prog w=.ok (.enter ak args) w) (N:Nat) (IH:zEi ak cd k N)
 (sz g o n0 cap a m b:Nat) (P A B Q:List Int) (w:World) (hC:Ss.Cmp ak cd k g w) (hZ:Ss.At w g sz (P++(A++(B++Q)))) (hP:P.length=o+a) (hA:a+A.length=m) (hB:m+B.length=b) (hA2:2≤A.length) (hB2:2≤B.length) (hn:b≤n0) (bx:n0≤1000000) (hN:b≤a+N+1) (cx:Ss.so k A) (cw:Ss.so k B) :
 Calls prog 191 #[.slice (some ⟨g,o,none⟩) n0 cap,.int .i64 a,.int .i64 m,.int .i64 b,.func (.func ak) #[] #[.pointer cd]] w (zGr k sz g P A B Q w):=by
 have dy:=hy' ao;have HC:=hy' hC;have HZ:=hy' hZ;have HP:=hy' hP;have HA:=hy' hA;have HB:=hy' hB;have dl:=hy' cx;have dm:=hy' cw;have dp:=hy' IH;have dv:=hy' (fun s e P U V Q W h1 h2 h3 h4 h5 h6 h7=>zKZ sz g o n0 cap s m e (.func (.func ak) #[] #[.pointer cd]) P U V Q W h1 h2 h3 h4 h5 h6 h7 bx);have e1:((m:Int)-a == 1)=false:=by simp;omega
 have e3:((b:Int)-m == 1)=false:=by simp;omega
 obtain⟨md,c7⟩:∃md,(a+b)/2=md:=⟨_,rfl⟩;have br:((a:Int)+b)/2=md:=by omega
 have eb:a+2≤md:=by omega
 have ef:md+2≤b:=by omega
 have cf:md≤a+N:=by omega
 have cq:b≤md+N:=by omega
 obtain⟨lo,hi,cv⟩:∃lo hi:Nat,(md<m∧lo=md+m-b∧hi=md)∨(¬md<m∧lo=a∧hi=m):=by
  by_cases h:md<m
  · exact⟨_,_,.inl ⟨h,rfl,rfl⟩⟩
  exact⟨_,_,.inr ⟨h,rfl,rfl⟩⟩
 have b2:a≤lo:=by omega
 have b9:lo≤hi:=by omega
 have ei:md+m≤lo+b:=by omega
 have b8:hi≤m:=by omega
 have b4:hi≤md:=by omega
 have ar:lo=a∨lo+b=md+m:=by omega
 have bn:hi=m∨hi=md:=by omega
 have eg:=hy' cv;have ee:=hy' c7;have bu:=hy' br;have bz:=hy' ar;have b7:=hy' bn;have et:a<m:=by omega
 have hmb:m<b:=by omega
 have dz:=hy' hA2;have eo:=hy' hB2;clear ao hC hZ hP cx cw IH hA hB cv c7 br ar bn hA2 hB2;go_enter func191,ntmps191;go_upto_region 24 with (fail)
 clear e1 e3;go_cut [18] (fun v wx=>v=.int .i64 md∧wx=w)
 case first=>as_aux_lemma =>
  go_wp2_with fail;go_meet;exact⟨Yb (Value.int .i64) bu.o,rfl⟩
 case rest=>as_aux_lemma =>
  obtain⟨rfl,aa⟩:=hcut;replace aa:=aa.symm;subst aa;go_upto_if 140 with (fail)
  go_cut [20,21] (fun u v wx=>u=.int .i64 lo∧v=.int .i64 hi∧wx=w)
  case first=>as_aux_lemma =>
   rcases eg.o with ⟨h1,h2,h3⟩|⟨h1,h2,h3⟩
   · have HL:=hy' h2;have HH:=hy' h3;have dh:(md:Int)+m-b=lo:=by have:=ee.o;omega
     have ec:=hy' dh;clear h2 h3 dh;go_wp2_with fail;go_meet;exact⟨Yb (Value.int .i64) ec.o,Yb (fun x:Nat=>Value.int .i64 (x:Int)) HH.o.symm,rfl⟩
   have HL:=hy' h2;have HH:=hy' h3;clear h2 h3;go_wp2_with fail;go_meet;exact⟨Yb (fun x:Nat=>Value.int .i64 (x:Int)) HL.o.symm,Yb (fun x:Nat=>Value.int .i64 (x:Int)) HH.o.symm,rfl⟩
  case rest=>as_aux_lemma =>
   obtain⟨rfl,rfl,aa⟩:=hcut;replace aa:=aa.symm;subst aa;go_wp2_with fail;go_loopw [20,21,23] (fun vi vj _ wr=>∃i j:Nat,lo≤i∧i≤j∧j≤hi∧vi=.int .i64 i∧vj=.int .i64 j∧(∀x y,lo<i→A[i-1-a]?=some x→B[md-i]?=some y→k x≤k y)∧(∀x y,j<hi→A[j-a]?=some x→B[md-1-j]?=some y→k y<k x)∧Ss.At wr g sz (P++(A++(B++Q)))∧w.grownBy wr (some g)) (fun vi vj _ _=>(intOf vj).toNat-(intOf vi).toNat)
   case atStart=>exact⟨lo,hi,Za _,b9,Za _,rfl,rfl,fun x y h=>absurd h (Q3 _),fun x y h=>absurd h (Q3 _),HZ.o,zAU _ _⟩
   obtain⟨i,j,cc,hij,bw,rfl,rfl,h1,h2,ah,a7⟩:=hrel
   by_cases hlt:i<j
   · as_aux_lemma =>
     have cg:=HB.o;have cn:=HA.o;obtain⟨x,hx⟩:∃x,A[(i+j)/2-a]?=some x:=⟨_,Zb (by omega)⟩;obtain⟨y,hy⟩:∃y,B[md-1-(i+j)/2]?=some y:=⟨_,Zb (by omega)⟩;have c1:=ah.cell (zFX (P:=P) (R:=B++Q) hx);rw[HP.o,show o+a+((i+j)/2-a)=o+(i+j)/2 by omega]at c1;have c2:=ah.cell (zEQ (P:=P) (A:=A) (Q:=Q) hy);rw[HP.o,show o+a+A.length+(md-1-(i+j)/2)=o+(md+m-1-(i+j)/2) by omega]at c2;have gl:=ah.lt;have iI:(i:Int)<j:=by omega
     have m0:(0:Int)≤((i:Int)+j)/2:=by omega
     have m1:((i:Int)+j)/2<n0:=by omega
     have p0:(0:Int)≤(md:Int)+m-1-((i:Int)+j)/2:=by omega
     have p1:(md:Int)+m-1-((i:Int)+j)/2<n0:=by omega
     have pt:((md:Int)+m-1-((i:Int)+j)/2).toNat=md+m-1-(i+j)/2:=by omega
     have C1:=hy' (Ext.call (w:=wr) fun W hW=>HC.o W (zA0 a7 (Ss.grown_below hW)) y x);have x1:=Ext.cells c1 gl;have x2:=Ext.cells c2 gl;have bk:=hy' ah;have bq:=hy' a7;have H1:=hy' h1;have H2:=hy' h2;have HX:=hy' hx;have HY:=hy' hy;clear h1 h2 hx hy ah a7 cg cn;go_wp2_with fail;refine zAa (by kernel_rfl) (by kernel_rfl) ?_;have ao:=dy.o
     repeat (go_big_quiet_step (with_reducible exact C1.o _))
     clear ao;refine wpQuiet_nil ?_;intro xw;have bh:=hy' (bk.o.below xw.below);have dk:=hy' (zA0 bq.o (Ss.grown_below xw.below));clear x1 x2 c1 c2 gl m0 m1 p0 p1 pt
     by_cases hk:k y<k x
     · have hv:decide (zCl (k y) (k x)<0)=true:=Zr ((zD9 _ _).2 hk);rw[hv,Q2];have HK:=hy' hk;clear hk hv;go_wp2_with fail;refine⟨⟨i,(i+j)/2,cc,by omega,by omega,rfl,by go_num,H1.o,fun u v _ hu hv=>?_,bh.o,dk.o⟩,by simp[intOf];omega⟩;rw[HX.o]at hu;rw[HY.o]at hv;cases hu
       cases hv
       exact HK.o
     have hv:decide (zCl (k y) (k x)<0)=false:=Zu fun h=>hk ((zD9 _ _).1 h)
     rw[hv,JE];have HK:=hy' hk;clear hk hv;go_wp2_with fail;refine⟨⟨(i+j)/2+1,j,by omega,by omega,bw,by go_num,rfl,fun u v _ hu hv=>?_,H2.o,bh.o,dk.o⟩,by simp[intOf];omega⟩;rw[show (i+j)/2+1-1-a=(i+j)/2-a by omega,HX.o]at hu;rw[show md-((i+j)/2+1)=md-1-(i+j)/2 by omega,HY.o]at hv;cases hu
     cases hv
     have:=HK.o;omega
   as_aux_lemma =>
   obtain rfl:i=j:=by omega
   obtain⟨s,hs⟩:∃s,i=s:=⟨_,rfl⟩;subst hs;have cg:=HB.o;have cn:=HA.o;have eh:=dz.o;have iI:¬(i:Int)<i:=by omega
   obtain⟨f1,f2⟩:=Ss.sym (s:=i-a) (j:=md-i) (by omega) (by omega) dl.o dm.o
    (fun x y hx hj hy=>by
      have eu:=(List.getElem?_eq_some_iff.1 hx).1;have:i<hi:=by rcases b7.o with h|h <;> omega
      exact h2 x y this hx (by rw[show md-1-i=md-i-1 by omega];exact hy))
    (fun x y hs hx hy=>by
      have ew:=(List.getElem?_eq_some_iff.1 hy).1;have:lo<i:=by rcases bz.o with h|h <;> omega
      exact h1 x y this (by rw[show i-1-a=i-a-1 by omega];exact hx) hy)
   have eA:=(ZF (i-a) A).symm;have eB:=(ZF (md-i) B).symm;have ch:(A.take (i-a)).length=i-a:=by rw[Zq];omega
   have ck:(A.drop (i-a)).length=m-i:=by rw[ZO];omega
   have b1:(B.take (md-i)).length=md-i:=by rw[Zq];omega
   have cm:(B.drop (md-i)).length=b-m-(md-i):=by rw[ZO];omega
   obtain⟨A1,ct⟩:∃l,A.take (i-a)=l:=⟨_,rfl⟩;obtain⟨A2,hA2⟩:∃l,A.drop (i-a)=l:=⟨_,rfl⟩;obtain⟨B1,dt⟩:∃l,B.take (md-i)=l:=⟨_,rfl⟩;obtain⟨B2,hB2⟩:∃l,B.drop (md-i)=l:=⟨_,rfl⟩;rw[ct]at f2 ch eA;rw[hA2]at f1 ck eA;rw[dt]at f1 b1 eB;rw[hB2]at f2 cm eB;have sA:=dl.o;have sB:=dm.o;rw[eA]at sA;rw[eB]at sB
   have ae:Ss.At wr g sz ((P++A1)++(A2++(B1++(B2++Q)))):=by
    have h:=ah;rw[eA,eB]at h;simpa using h
   obtain⟨en,ao⟩:∃en,md+m-i=en:=⟨_,rfl⟩;have a8:md+(m-i)=en:=by omega
   have bi:en+(b-m-(md-i))=b:=by omega
   have az:m+(md-i)=en:=by omega
   have bb:(md:Int)+m-i=en:=by omega
   have ek:a≤i:=Zi b2 cc;have ep:i≤m:=Zi bw b8;have ed:i≤md:=Zi bw b4;have cp:en≤b:=by omega
   have dw:md≤en:=by omega
   have ea:m≤en:=by omega
   have di:=hy' (fun c1 c2 s1 q1 s2 q2=>zPY (c1:=c1) (c2:=c2) sA sB f1 f2 s1 q1 s2 q2);have cu:=hy' sA.left;have dx:=hy' sA.right;have dc:=hy' sB.left;have cy:=hy' sB.right;have bt:=hy' ch;have bs:=hy' ck;have bj:=hy' b1;have c8:=hy' cm;have ax:=hy' a8;have aq:=hy' bi;have ba:=hy' az;have cj:=hy' bb;have EA:=hy' eA;have EB:=hy' eB;have bk:=hy' ae;have bq:=hy' a7;clear h1 h2 f1 f2 eA eB ch ck b1 cm ct hA2 dt hB2 sA sB ah ae a7 ao a8 bi az bb cg cn eh cc hij;obtain⟨wl,rfl⟩:∃wl:World,wl=wr:=⟨_,rfl⟩;go_upto_region 38 with (fail)
   go_cut [24] (fun v wx=>v=.int .i64 en∧wx=wl)
   case first=>as_aux_lemma =>
    go_wp2_with fail;go_meet;exact⟨Yb (Value.int .i64) cj.o,rfl⟩
   case rest=>as_aux_lemma =>
    obtain⟨rfl,aa⟩:=hcut;replace aa:=aa.symm;subst aa;go_upto_region 39 with (fail)
    obtain⟨z1,c6⟩:∃z,(decide (i<m)&&decide (m<en))=z:=⟨_,rfl⟩;have bp:=hy' c6;clear c6;go_cut [185] (fun s wx=>s=.bool z1∧wx=wl)
    case first=>as_aux_lemma =>
     by_cases h1:i<m
     · have bc:(i:Int)<m:=by omega
       by_cases h2:m<en
       · have a1:(m:Int)<en:=by omega
         have hs:z1=true:=by rw[←bp.o];simp[h1,h2]
         subst hs;go_wp2_with fail;go_meet;exact⟨rfl,rfl⟩
       have a1:¬(m:Int)<en:=by omega
       have hs:z1=false:=by rw[←bp.o];simp[h2]
       subst hs;go_wp2_with fail;go_meet;exact⟨rfl,rfl⟩
     have bc:¬(i:Int)<m:=by omega
     have hs:z1=false:=by rw[←bp.o];simp[h1]
     subst hs;go_wp2_with fail;go_meet;exact⟨rfl,rfl⟩
    case rest=>as_aux_lemma =>
     obtain⟨rfl,aa⟩:=hcut;replace aa:=aa.symm;subst aa;go_upto_if 185 with (fail)
     go_cut [] (fun wx=>Ss.At wx g sz (P++(A1++(B1++(A2++(B2++Q)))))∧w.grownBy wx (some g))
     case first=>as_aux_lemma =>
      cases z1 with
      | true =>
        have hzz:=bp.o;rw[Zy,ZW,ZW]at hzz;have hR:=hy' (dv.o i en (P++A1) A2 B1 (B2++Q) wl bk.o (by rw[Zd,HP.o,bt.o];omega) (by rw[bs.o];omega) (by rw[bj.o];exact ba.o) hzz.1 hzz.2 (Zi cp hn));clear hzz;go_wp2_with fail;refine hR.out.mono ?_;rintro e w2 ⟨rfl,ae,ag⟩;have b3:=hy' ae;have av:=hy' (zA0 bq.o ag);clear ae ag hR;go_wp2_with fail;go_meet;exact⟨by simpa using b3.o,av.o⟩
      | false =>
        have hzz:=bp.o;rw[XL,Z0,Z0]at hzz
        have bg:Ss.At wl g sz (P++(A1++(B1++(A2++(B2++Q))))):=by
         have h:=bk.o;rcases hzz with hzz|hzz
         · have:A2=[]:=Zz (by rw[bs.o];omega);subst this;simpa using h
         have:B1=[]:=Zz (by rw[bj.o];have:=ba.o;omega);subst this;simpa using h
        have HF:=hy' bg;clear hzz bg;go_wp2_with fail;go_meet;exact⟨HF.o,bq.o⟩
     case rest=>as_aux_lemma =>
      obtain⟨ap,bm⟩:=hcut;obtain⟨wm,rfl⟩:∃wm:World,wm=wc:=⟨_,rfl⟩;have aj:=hy' ap;have af:=hy' bm;clear ap bm bk bq dv;go_upto_region 41 with (fail)
      obtain⟨z2,cz⟩:∃z,(decide (a<i)&&decide (i<md))=z:=⟨_,rfl⟩;have a6:=hy' cz;clear cz;go_cut [199] (fun s wx=>s=.bool z2∧wx=wm)
      case first=>as_aux_lemma =>
       by_cases h1:a<i
       · have bc:(a:Int)<i:=by omega
         by_cases h2:i<md
         · have a1:(i:Int)<md:=by omega
           have hs:z2=true:=by rw[←a6.o];simp[h1,h2]
           subst hs;go_wp2_with fail;go_meet;exact⟨rfl,rfl⟩
         have a1:¬(i:Int)<md:=by omega
         have hs:z2=false:=by rw[←a6.o];simp[h2]
         subst hs;go_wp2_with fail;go_meet;exact⟨rfl,rfl⟩
       have bc:¬(a:Int)<i:=by omega
       have hs:z2=false:=by rw[←a6.o];simp[h1]
       subst hs;go_wp2_with fail;go_meet;exact⟨rfl,rfl⟩
      case rest=>as_aux_lemma =>
       obtain⟨rfl,aa⟩:=hcut;replace aa:=aa.symm;subst aa;go_upto_if 199 with (fail)
       go_cut [] (fun wx=>(∃C1,Ss.so k C1∧Ss.eqv k (A1++B1) C1∧Ss.At wx g sz (P++(C1++(A2++(B2++Q)))))∧w.grownBy wx (some g))
       case first=>as_aux_lemma =>
        cases z2 with
        | true =>
          have hzz:=a6.o;rw[Zy,ZW,ZW]at hzz;have hR:=hy' (dp.o sz g o n0 cap a i md P A1 B1 (A2++(B2++Q)) wm (HC.o.grown af.o) aj.o HP.o (by rw[bt.o];omega) (by rw[bj.o];omega) hzz.1 hzz.2 (by omega) bx cf cu.o dc.o);clear hzz;go_wp2_with fail;refine hR.out.mono ?_;rintro e w2 ⟨rfl,bo,ag⟩;have cb:=hy' bo;have av:=hy' (zA0 af.o ag);clear bo ag hR;go_wp2_with fail;go_meet;exact⟨cb.o,av.o⟩
        | false =>
          have hzz:=a6.o;rw[XL,Z0,Z0]at hzz
          have bl:Ss.so k (A1++B1):=by
           rcases hzz with hzz|hzz
           · have:A1=[]:=Zz (by rw[bt.o];omega);rw[this,ZH];exact dc.o
           have:B1=[]:=Zz (by rw[bj.o];omega);rw[this,Z4];exact cu.o
          have b6:=hy' bl;clear hzz bl;go_wp2_with fail;go_meet;exact⟨⟨A1++B1,b6.o,Ss.eqv.refl _ _,by simpa using aj.o⟩,af.o⟩
       case rest=>as_aux_lemma =>
        obtain⟨⟨C1,du,b5,ay⟩,bf⟩:=hcut;obtain⟨wn,rfl⟩:∃wn:World,wn=wc:=⟨_,rfl⟩;have dr:(P++C1).length=o+md:=by rw[Zd,HP.o,b5.length,Zd,bt.o,bj.o];omega
        have au:Hy (Ss.At wn g sz ((P++C1)++(A2++(B2++Q)))):=hy' (by simpa using ay);have ai:=hy' bf;have cr:=hy' du;have df:=hy' b5;have ej:=hy' dr;clear ay bf du b5 dr aj af;go_upto_region 43 with (fail)
        obtain⟨z3,dn⟩:∃z,(decide (md<en)&&decide (en<b))=z:=⟨_,rfl⟩;have aw:=hy' dn;clear dn;go_cut [213] (fun s wx=>s=.bool z3∧wx=wn)
        case first=>as_aux_lemma =>
         by_cases h1:md<en
         · have bc:(md:Int)<en:=by omega
           by_cases h2:en<b
           · have a1:(en:Int)<b:=by omega
             have hs:z3=true:=by rw[←aw.o];simp[h1,h2]
             subst hs;go_wp2_with fail;go_meet;exact⟨rfl,rfl⟩
           have a1:¬(en:Int)<b:=by omega
           have hs:z3=false:=by rw[←aw.o];simp[h2]
           subst hs;go_wp2_with fail;go_meet;exact⟨rfl,rfl⟩
         have bc:¬(md:Int)<en:=by omega
         have hs:z3=false:=by rw[←aw.o];simp[h1]
         subst hs;go_wp2_with fail;go_meet;exact⟨rfl,rfl⟩
        case rest=>as_aux_lemma =>
         obtain⟨rfl,aa⟩:=hcut;replace aa:=aa.symm;subst aa;go_upto_if 213 with (fail)
         cases z3 with
         | true =>
           have hzz:=aw.o;rw[Zy,ZW,ZW]at hzz;have hR:=hy' (dp.o sz g o n0 cap md en b (P++C1) A2 B2 Q wn (HC.o.grown ai.o) au.o ej.o (by rw[bs.o];exact ax.o) (by rw[c8.o];exact aq.o) hzz.1 hzz.2 hn bx cq dx.o cy.o);clear hzz;go_wp2_with fail;refine hR.out.mono ?_;rintro e w2 ⟨rfl,bo,ag⟩;have cb:=hy' bo;have av:=hy' (zA0 ai.o ag);clear bo ag hR;go_wp2_with fail;go_end0;obtain⟨C2,s2,q2,a2⟩:=cb.o;obtain⟨r1,r2⟩:=di.o C1 C2 cr.o df.o s2 q2;rw[←EA.o,←EB.o]at r2;exact⟨rfl,⟨C1++C2,r1,r2,by simpa using a2⟩,av.o⟩
         | false =>
           have hzz:=aw.o;rw[XL,Z0,Z0]at hzz
           have bl:Ss.so k (A2++B2):=by
            rcases hzz with hzz|hzz
            · have:A2=[]:=Zz (by rw[bs.o];have:=ax.o;omega);rw[this,ZH];exact cy.o
            have:B2=[]:=Zz (by rw[c8.o];have:=aq.o;omega);rw[this,Z4];exact dx.o
           have b6:=hy' bl;clear hzz bl;go_wp2_with fail;go_end0;obtain⟨r1,r2⟩:=di.o C1 (A2++B2) cr.o df.o b6.o (Ss.eqv.refl _ _);rw[←EA.o,←EB.o]at r2;exact⟨rfl,⟨C1++(A2++B2),r1,r2,by simpa using au.o⟩,ai.o⟩
theorem zKi (aa:FuncId) (cd:Option Addr) (k:Int→Int) (ae:∀(args:Array Value) (w:World),(callFunc aa args).run prog w=.ok (.enter aa args) w):∀N,zEi aa cd k N
 | 0=>fun sz g o n0 cap a m b P A B Q w hC hZ hP hA hB h1 h2 hn af hN ah ag=>by omega
 | N+1=>fun sz g o n0 cap a m b P A B Q w hC hZ hP hA hB h1 h2 hn af hN ah ag=>by
   rcases ZY A.length 2 with hA2|hA2
   · match A,hA,ah,hZ,hA2 with
     | [],hA,_,_,_=>simp at hA;omega
     | [x],hA,_,hZ,_=>exact zPm aa cd k ae sz g o n0 cap a m b P x B Q w hC hZ hP (by simpa using hA) hB hn af ag
     | x::y::l,_,_,_,h=>simp at h;omega
   rcases ZY B.length 2 with hB2|hB2
   · match B,hB,ag,hZ,hB2 with
     | [],hB,_,_,_=>simp at hB;omega
     | [x],hB,_,hZ,_=>exact zNz aa cd k ae sz g o n0 cap a m b P A x Q w hC hZ hP hA hA2 (by simpa using hB) hn af ah
     | x::y::l,_,_,_,h=>simp at h;omega
   exact zNA aa cd k ae N (zKi aa cd k ae N) sz g o n0 cap a m b P A B Q w hC hZ hP hA hB hA2 hB2 hn af (by omega) ah ag
def zKj (k:Int→Int) (sz g:Nat) (P L Q:List Int) (w:World) (e:Ending) (w':World):Prop:=e=.returned (.tuple #[])∧(∃C,Ss.so k C∧Ss.eqv k L C∧Ss.At w' g sz (P++(C++Q)))∧w.grownBy w' (some g)
theorem zL0 (bn:FuncId) (cd:Option Addr) (k:Int→Int) (ch:∀(args:Array Value) (w:World),(callFunc bn args).run prog w=.ok (.enter bn args) w) (bx:∀N,zEi bn cd k N)
 (sz g o n cap:Nat) (P L Q:List Int) (w:World) (hC:Ss.Cmp bn cd k g w) (hZ:Ss.At w g sz (P++(L++Q))) (hP:P.length=o) (hL:L.length=n) (hn:n≤500000) :
 Calls prog 161 #[.slice (some ⟨g,o,none⟩) n cap,.int .i64 n,.func (.func bn) #[] #[.pointer cd]] w (zKj k sz g P L Q w):=by
 have HC:=hy' hC;have HZ:=hy' hZ;have HP:=hy' hP;have HL:=hy' hL;have cb:=hy' (fun a b P B Q W hC h1 h2 h3 h4=>zIb bn cd k ch sz g o n cap a b P B Q W hC h1 h2 h3 h4 (Zi hn (by decide)));have cj:=hy' (fun a m b P A B Q W hC h1 h2 h3 h4 h5 h6 h7 h8 h9=>bx b sz g o n cap a m b P A B Q W hC h1 h2 h3 h4 h5 h6 h7 (Zi hn (by decide)) (Nat.le_add_left b a) h8 h9);clear ch bx hC hZ hP hL;go_enter func161,ntmps161;go_wp2_with fail;go_loopw [7,8] (fun va vb wr=>∃(t a b:Nat) (L1:List Int),a=20*t∧b=a+20∧a≤n∧va=.int .i64 a∧vb=.int .i64 b∧L1.length=20*t∧Ss.chk k 20 L1∧Ss.eqv k (L.take (20*t)) L1∧Ss.At wr g sz (P++(L1++(L.drop (20*t)++Q)))∧w.grownBy wr (some g)) (fun va _ _=>n+1-(intOf va).toNat)
 case atStart=>exact⟨0,0,20,[],rfl,rfl,by omega,rfl,rfl,rfl,zJQ k 20,Ss.eqv.refl _ _,by simpa using HZ.o,zAU _ _⟩
 obtain⟨t,a,b,L1,ba,bf,ht,rfl,rfl,ap,a1,bh,ax,av⟩:=hrel;have bm:=hy' a1;have bj:=hy' bh;have bg:=hy' ap;have bq:=hy' av;have ar:=hy' ba;have aq:=hy' bf
 by_cases hlt:b≤n
 · have bc:((L.drop (20*t)).take 20).length=20:=by rw[Zq,ZO,HL.o];omega
   have bi:L.drop (20*t)=(L.drop (20*t)).take 20++L.drop (20*t+20):=by rw[←XS,ZF]
   have ag:L.take (20*t+20)=L.take (20*t)++(L.drop (20*t)).take 20:=Qy ..;obtain⟨B,a6⟩:∃B,(L.drop (20*t)).take 20=B:=⟨_,rfl⟩;rw[a6]at bc bi ag;have aa:Ss.At wr g sz ((P++L1)++(B++(L.drop (20*t+20)++Q))):=by rw[bi]at ax;simpa using ax
   have hI:=hy' (cb.o a b (P++L1) B _ wr (HC.o.grown av) aa (by rw[Zd,HP.o,ap];omega) (by omega) hlt);have c1:(b:Int)≤n:=by omega
   have bo:=hy' bc;have b1:=hy' ag;clear ax aa bi ag a6 bc a1 bh ap av ba bf;go_wp2_with fail;refine hI.out.mono ?_;rintro e w1 ⟨rfl,⟨B',hs,he,ae⟩,aj⟩;have h1:=zD3 (k:=t) (l:=L1) (c:=B') (by rw[bg.o];omega) bm.o hs (by rw[he.length,bo.o];exact Za _);have h2:=bj.o.app he;rw[←b1.o]at h2;have H1:=hy' h1;have H2:=hy' h2;have H3:Hy ((L1++B').length=20*(t+1)):=hy' (by rw[Zd,bg.o,he.length,bo.o];omega);have H4:Hy (Ss.At w1 g sz (P++((L1++B')++(L.drop (20*(t+1))++Q)))):=hy' (by rw[show 20*(t+1)=20*t+20 by omega];simpa using ae);have H5:=hy' (zA0 bq.o aj);clear h1 h2 hs he ae aj hI;go_wp2_with fail;refine⟨⟨t+1,b,b+20,L1++B',by have:=ar.o;have:=aq.o;omega,rfl,hlt,rfl,Yb (Value.int .i64) (by omega),H3.o,H1.o,by rw[show 20*(t+1)=20*t+20 by omega];exact H2.o,H4.o,H5.o⟩,by have:=aq.o;simp[intOf];omega⟩
 have bc:(L.drop (20*t)).length=n-20*t:=by rw[ZO,HL.o]
 have aa:Ss.At wr g sz ((P++L1)++(L.drop (20*t)++Q)):=by simpa using ax
 have hI:=hy' (cb.o a n (P++L1) (L.drop (20*t)) Q wr (HC.o.grown av) aa (by rw[Zd,HP.o,ap];omega) (by rw[bc];omega) (Za _));have c1:¬(b:Int)≤n:=by omega
 have bo:=hy' bc;clear ax aa bc a1 bh ap av ba bf;go_wp2_with fail;refine hI.out.mono ?_;rintro e w1 ⟨rfl,⟨B',hs,he,ae⟩,aj⟩;have h1:=zD3 (k:=t) (l:=L1) (c:=B') (by rw[bg.o];omega) bm.o hs (by rw[he.length,bo.o];have:=ar.o;have:=aq.o;omega);have h2:=bj.o.app he;rw[ZF]at h2;have h3:(L1++B').length=n:=by rw[Zd,bg.o,he.length,bo.o];have:=ar.o;omega
 have h4:Ss.At w1 g sz (P++((L1++B')++Q)):=by simpa using ae
 have H5:=hy' (zA0 bq.o aj);obtain⟨M0,cc⟩:∃M,L1++B'=M:=⟨_,rfl⟩;rw[cc]at h1 h2 h3 h4;have H1:=hy' h1;have H2:=hy' h2;have H3:=hy' h3;have H4:=hy' h4;clear h1 h2 h3 h4 cc hs he ae aj hI bq bg bj bm bo c1 hlt ht ar aq;go_wp2_with fail;go_loopw [6,7,8,9] (fun vs _ _ _ wr=>∃(bs:Nat) (L1:List Int),20≤bs∧bs≤1000000∧vs=.int .i64 bs∧L1.length=n∧Ss.chk k bs L1∧Ss.eqv k L L1∧Ss.At wr g sz (P++(L1++Q))∧w.grownBy wr (some g)) (fun vs _ _ _ _=>n+1-(intOf vs).toNat)
 case atStart=>exact⟨20,M0,Za _,by decide,rfl,H3.o,H1.o,H2.o,H4.o,H5.o⟩
 obtain⟨bs,L1,cp,cn,rfl,ap,a1,bh,ax,av⟩:=hrel;have bm:=hy' a1;have bj:=hy' bh;have bg:=hy' ap;have bq:=hy' av;have cf:=hy' ax
 by_cases hlt:bs<n
 rotate_left
 · have sI:¬(bs:Int)<n:=by omega
   have cg:=zOM a1 (by rw[ap];omega);have cm:=hy' cg;clear a1 bh ap ax av cg;go_wp2_with fail;go_end0;exact⟨rfl,⟨L1,cm.o,bj.o,cf.o⟩,bq.o⟩
 have sI:(bs:Int)<n:=by omega
 clear a1 bh ap ax av;go_wp2_with fail;obtain⟨wl,rfl⟩:∃wl:World,wl=wr:=⟨_,rfl⟩;go_loopw [7,8] (fun va vb wq=>∃(t a e:Nat) (L2:List Int),t*(2*bs)=a∧e=a+2*bs∧a≤n∧va=.int .i64 a∧vb=.int .i64 e∧L2.length=a∧Ss.chk k (2*bs) L2∧Ss.eqv k (L1.take a) L2∧Ss.At wq g sz (P++(L2++(L1.drop a++Q)))∧w.grownBy wq (some g)) (fun va _ _=>n+1-(intOf va).toNat)
 case atStart=>exact⟨0,0,2*bs,[],Nat.zero_mul _,by omega,by omega,rfl,congrArg (Value.int .i64) (by omega),rfl,zJQ _ _,by simpa using Ss.eqv.refl _ _,by simpa using cf.o,bq.o⟩
 obtain⟨t,a,e0,L2,ha,b6,ht,rfl,rfl,bp,ay,aw,aa,ah⟩:=hrel;have a7:=hy' b6;have b4:t*2*bs=a:=by rw[Nat.mul_assoc];exact ha
 have b7:(t*2+1)*bs=a+bs:=by rw[Kj,b4]
 have b8:(t+1)*(2*bs)=a+2*bs:=by rw[Kj,ha]
 have ao:=bm.o (t*2);have au:=bm.o (t*2+1);rw[b4]at ao;rw[b7]at au;have bk:=hy' ay;have bb:=hy' aw;have br:=hy' bp;have a8:=hy' ah;have ck:=hy' b8;have HA:=hy' ha;have ak:=bg.o
 by_cases hbn:e0≤n
 · have az:L1.drop a=(L1.drop a).take bs++L1.drop (a+bs):=by rw[←XS,ZF]
   have bi:L1.drop (a+bs)=(L1.drop (a+bs)).take bs++L1.drop (a+2*bs):=by rw[show a+2*bs=a+bs+bs by omega,←XS (i:=bs) (j:=a+bs),ZF]
   have bl:((L1.drop a).take bs).length=bs:=by rw[Zq,ZO];omega
   have af:((L1.drop (a+bs)).take bs).length=bs:=by rw[Zq,ZO];omega
   have ag:L1.take (a+2*bs)=L1.take a++((L1.drop a).take bs++(L1.drop (a+bs)).take bs):=by
    rw[show a+2*bs=a+bs+bs by omega,Qy,Qy,ZC]
   obtain⟨A,bt⟩:∃A,(L1.drop a).take bs=A:=⟨_,rfl⟩;obtain⟨B,a6⟩:∃B,(L1.drop (a+bs)).take bs=B:=⟨_,rfl⟩;rw[bt]at az bl ag ao;rw[a6]at bi af ag au;have ai:Ss.At wr g sz ((P++L2)++(A++(B++(L1.drop (a+2*bs)++Q)))):=by rw[az,bi]at aa;simpa using aa
   have hS:=hy' (cj.o a (a+bs) e0 (P++L2) A B _ wr (HC.o.grown ah) ai (by rw[Zd,HP.o,bp]) (by omega) (by omega) (by omega) (by omega) hbn ao au);have c1:(e0:Int)≤n:=by omega
   have b1:=hy' ag;have b2:=hy' bl;have b3:=hy' af;clear aa ai az bi ag bt a6 bl af ay aw bp ah ao au ha b4 b7 b8 ak b6;go_wp2_with fail;rw[show (a:Int)+bs=((a+bs:Nat):Int) from by omega];refine hS.out.mono ?_;rintro e w2 ⟨rfl,⟨D,hs,he,ae⟩,aj⟩;have h1:=zD3 (k:=t) (l:=L2) (c:=D) (by rw[br.o,HA.o]) bk.o hs (by rw[he.length,Zd,b2.o,b3.o];have:=a7.o;omega);have h2:=bb.o.app he;rw[←b1.o]at h2;have bw:=hy' h1;have bu:=hy' h2;have bz:Hy ((L2++D).length=a+2*bs):=hy' (by rw[Zd,br.o,he.length,Zd,b2.o,b3.o];omega);have b5:Hy (Ss.At w2 g sz (P++((L2++D)++(L1.drop (a+2*bs)++Q)))):=hy' (by simpa using ae);have b9:=hy' (zA0 a8.o aj);clear h1 h2 hs he ae aj hS;go_wp2_with fail;exact⟨⟨t+1,e0,e0+2*bs,L2++D,ck.o.trans a7.o.symm,rfl,hbn,rfl,Yb (Value.int .i64) (by omega),bz.o.trans a7.o.symm,bw.o,by rw[a7.o];exact bu.o,by rw[a7.o];exact b5.o,b9.o⟩,by have:=a7.o;simp[intOf];omega⟩
 have c1:¬(e0:Int)≤n:=by omega
 by_cases hmn:a+bs<n
 · have az:L1.drop a=(L1.drop a).take bs++L1.drop (a+bs):=by rw[←XS,ZF]
   have bl:((L1.drop a).take bs).length=bs:=by rw[Zq,ZO];omega
   have af:(L1.drop (a+bs)).length=n-(a+bs):=by rw[ZO];omega
   have ag:L1=L1.take a++((L1.drop a).take bs++L1.drop (a+bs)):=by rw[←az,ZF]
   rw[Zm (by rw[af];omega)]at au;obtain⟨A,bt⟩:∃A,(L1.drop a).take bs=A:=⟨_,rfl⟩;obtain⟨B,a6⟩:∃B,L1.drop (a+bs)=B:=⟨_,rfl⟩;rw[bt]at az bl ag ao;rw[a6]at az af ag au;have ai:Ss.At wr g sz ((P++L2)++(A++(B++Q))):=by rw[az]at aa;simpa using aa
   have hS:=hy' (cj.o a (a+bs) n (P++L2) A B Q wr (HC.o.grown ah) ai (by rw[Zd,HP.o,bp]) (by omega) (by omega) (by omega) hmn (Za _) ao au);have c4:(a:Int)+bs<n:=by omega
   have b1:=hy' ag;have b2:=hy' bl;have b3:=hy' af;clear aa ai az ag bt a6 bl af ay aw bp ah ao au ha b4 b7 b8 ak b6;go_wp2_with fail;rw[show (a:Int)+bs=((a+bs:Nat):Int) from by omega];refine hS.out.mono ?_;rintro e w2 ⟨rfl,⟨D,hs,he,ae⟩,aj⟩;have h1:=zD3 (k:=t) (l:=L2) (c:=D) (by rw[br.o,HA.o]) bk.o hs (by rw[he.length,Zd,b2.o,b3.o];have:=a7.o;omega);have h2:=bb.o.app he;rw[←b1.o]at h2;have bw:=hy' h1;have bu:=hy' (bj.o.trans h2);have bz:Hy ((L2++D).length=n):=hy' (by rw[Zd,br.o,he.length,Zd,b2.o,b3.o];omega);have b5:Hy (Ss.At w2 g sz (P++((L2++D)++Q))):=hy' (by simpa using ae);have b9:=hy' (zA0 a8.o aj);clear h1 h2 hs he ae aj hS;go_wp2_with fail;exact⟨⟨2*bs,L2++D,by omega,by omega,Yb (Value.int .i64) (by omega),bz.o,bw.o,bu.o,b5.o,b9.o⟩,by simp[intOf];omega⟩
 have af:(L1.drop a).length=n-a:=by rw[ZO];omega
 rw[Zm (by rw[af];omega)]at ao;have h1:=zD3 (k:=t) (l:=L2) (c:=L1.drop a) (by rw[br.o,HA.o]) bk.o ao (by rw[af];omega);have h2:=bb.o.app (Ss.eqv.refl k (L1.drop a));rw[ZF]at h2;have bw:=hy' h1;have bu:=hy' (bj.o.trans h2);have bz:Hy ((L2++L1.drop a).length=n):=hy' (by rw[Zd,br.o,af];omega);have b5:Hy (Ss.At wr g sz (P++((L2++L1.drop a)++Q))):=hy' (by simpa using aa);have c4:¬(a:Int)+bs<n:=by omega
 clear h1 h2 aa af ay aw bp ah ao au ha b4 b7 b8 ak b6;go_wp2_with fail;exact⟨⟨2*bs,L2++L1.drop a,by omega,by omega,Yb (Value.int .i64) (by omega),bz.o,bw.o,bu.o,b5.o,a8.o⟩,by simp[intOf];omega⟩
theorem zKk (x:Int) (w:World):Calls prog 160 #[.int .i64 x] w fun e w'=>e=.returned (.bool false)∧w=w':=by
 go_enter func160,ntmps160;go_wp2;go_ret;exact⟨by simp,rfl⟩
theorem zL1 (a b:Int) (w:World):Calls prog 130 #[.int .i64 a,.int .i64 b] w fun e w'=>e=.returned (.int .i64 (zCl a b))∧w=w':=by
 go_enter func130,ntmps130;go_wp2_with fail;refine (zKk _ _).mono ?_;rintro e w1 ⟨rfl,rfl⟩;go_wp2_with fail;refine (zKk _ _).mono ?_;rintro e w1 ⟨rfl,rfl⟩
 by_cases h1:a<b
 · have hc:Hy (zCl a b = -1):=hy' (Zo h1);go_wp2_with fail;go_ret;exact⟨by rw[hc.out];rfl,rfl⟩
 by_cases h2:b<a
 · have hc:Hy (zCl a b=1):=hy' (by unfold zCl;rw[if_neg h1,if_pos h2]);have h3:a > b:=h2;go_wp2_with fail;go_ret;exact⟨by rw[hc.out];rfl,rfl⟩
 have hc:Hy (zCl a b=0):=hy' (by unfold zCl;rw[if_neg h1,if_neg h2]);have h3:¬a > b:=h2;go_wp2_with fail;go_ret;exact⟨by rw[hc.out];rfl,rfl⟩
theorem zMi (v:Value) (T:List Rw.Row) (S:List Int) (db:Nat) (x y:Int) (w:World) (ok:Ud.Ok T S) (h:Ud.Is w v T S) (hd:w.cell? ⟨db,0,none⟩=some v) (aa:db<w.heap.size) :
 Calls prog 129 #[.int .i32 x,.int .i32 y,.pointer (some ⟨db,0,none⟩)] w fun e w'=>e=.returned (.int .i64 (zCl (Md.cls T x) (Md.cls T y)))∧Below w.heap.size w w':=by
 have C1:=hy' (Ext.call (w:=w) fun W hW=>Ud.class_any v T S x W ok (h.below hW));have C2:=hy' (Ext.call (w:=w) fun W hW=>Ud.class_any v T S y W ok (h.below hW));have C3:=hy' (Ext.same (w:=w) fun W hW=>zL1 (Md.cls T x) (Md.cls T y) W);have x1:=Ext.cells hd aa;clear h ok;go_enter func129,ntmps129;go_wp2_with fail;refine zAa (by kernel_rfl) (by kernel_rfl) ?_
 repeat (go_big_quiet_step ((first|(go_at_call 37;first|with_reducible exact C1.o _|with_reducible exact C2.o _)|(go_at_call 130;with_reducible exact C3.o _))))
 refine wpQuiet_nil ?_;intro xw;have HB:=hy' xw.below;go_wp2_with fail;go_ret;exact⟨rfl,HB.o⟩
theorem zMj (args:Array Value) (w:World):(callFunc 129 args).run prog w=.ok (.enter 129 args) w:=zRf func129 (by kernel_rfl) (by kernel_rfl) args w
theorem Or.sort_any (aa:FuncId) (cd:Option Addr) (k:Int→Int) (af:∀(args:Array Value) (w:World),(callFunc aa args).run prog w=.ok (.enter aa args) w) (ae:∀N,zEi aa cd k N)
 (sz g o n cap:Nat) (P L Q:List Int) (w:World) (hC:Ss.Cmp aa cd k g w) (hZ:Ss.At w g sz (P++(L++Q))) (hP:P.length=o) (hL:L.length=n) (hn:n≤500000) :
 Calls prog 131 #[.slice (some ⟨g,o,none⟩) n cap,.func (.func aa) #[] #[.pointer cd]] w (zKj k sz g P L Q w):=by
 have hS:=zL0 aa cd k af ae sz g o n cap P L Q w hC hZ hP hL hn;clear hC hZ hP hL ae af hn;go_enter func131,ntmps131;go_wp2_with fail;refine hS.mono ?_;rintro e w1 ⟨rfl,h1,h2⟩;have H1:=hy' h1;have H2:=hy' h2;clear h1 h2 hS;go_wp2_with fail;go_end0;exact⟨rfl,H1.o,H2.o⟩
end Go.Proofs.YtddbccflcekdpaaGreatDoor
