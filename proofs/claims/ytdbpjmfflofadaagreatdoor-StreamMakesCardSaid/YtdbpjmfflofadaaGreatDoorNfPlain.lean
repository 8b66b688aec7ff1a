/- Merging two sorted blocks in place (symMerge), by walking; and by induction. -/
import Derived.Test.YtdbpjmfflofadaaGreatDoorSsSymB
import Derived.Test.YtdbpjmfflofadaaGreatDoorUtfD
set_option maxRecDepth 100000
set_option maxHeartbeats 8000000
set_option linter.unusedVariables false
set_option linter.unusedSimpArgs false
namespace Go.Proofs.YtdbpjmfflofadaaGreatDoor
open Go.Proofs.Tryz
open Go.RowKit
def zEr (fid:FuncId) (cd:Option Addr) (k:Int→Int) (N:Nat):Prop:=∀(sz g o n0 cap a m b:Nat) (P A B Q:List Int) (w:World),Ss.Cmp fid cd k g w→Ss.At w g sz (P++(A++(B++Q)))→P.length=o+a→a+A.length=m→m+B.length=b→a<m→m<b→b≤n0→n0≤1000000→b≤a+N→Ss.so k A→Ss.so k B →
 Calls prog 241 #[.slice (some ⟨g,o,none⟩) n0 cap,.int .i64 a,.int .i64 m,.int .i64 b,.func (.func fid) #[] #[.pointer cd]] w (zGJ k sz g P A B Q w)
theorem zOg (fid:FuncId) (cd:Option Addr) (k:Int→Int) (ak:∀(args:Array Value) (w:World),(callFunc fid args).run prog w=.ok (.enter fid args) w) (N:Nat) (IH:zEr fid cd k N)
 (sz g o n0 cap a m b:Nat) (P A B Q:List Int) (w:World) (hC:Ss.Cmp fid cd k g w) (hZ:Ss.At w g sz (P++(A++(B++Q)))) (hP:P.length=o+a) (hA:a+A.length=m) (hB:m+B.length=b) (hA2:2≤A.length) (hB2:2≤B.length) (hn:b≤n0) (b9:n0≤1000000) (hN:b≤a+N+1) (cw:Ss.so k A) (di:Ss.so k B) :
 Calls prog 241 #[.slice (some ⟨g,o,none⟩) n0 cap,.int .i64 a,.int .i64 m,.int .i64 b,.func (.func fid) #[] #[.pointer cd]] w (zGJ k sz g P A B Q w):=by
 have ei:=hy' ak;have HC:=hy' hC;have HZ:=hy' hZ;have HP:=hy' hP;have HA:=hy' hA;have HB:=hy' hB;have cq:=hy' cw;have cr:=hy' di;have dm:=hy' IH;have dr:=hy' (fun s e P U V Q W h1 h2 h3 h4 h5 h6 h7=>zLp sz g o n0 cap s m e (.func (.func fid) #[] #[.pointer cd]) P U V Q W h1 h2 h3 h4 h5 h6 h7 b9);have e1:((m:Int)-a == 1)=false:=by simp;omega
 have e3:((b:Int)-m == 1)=false:=by simp;omega
 obtain⟨md,du⟩:∃md,(a+b)/2=md:=⟨_,rfl⟩;have a8:((a:Int)+b)/2=md:=by omega
 have ed:a+2≤md:=by omega
 have ec:md+2≤b:=by omega
 have cp:md≤a+N:=by omega
 have b3:b≤md+N:=by omega
 obtain⟨lo,hi,cy⟩:∃lo hi:Nat,(md<m∧lo=md+m-b∧hi=md)∨(¬md<m∧lo=a∧hi=m):=by
  by_cases h:md<m
  · exact⟨_,_,.inl ⟨h,rfl,rfl⟩⟩
  exact⟨_,_,.inr ⟨h,rfl,rfl⟩⟩
 have ch:a≤lo:=by omega
 have b6:lo≤hi:=by omega
 have ee:md+m≤lo+b:=by omega
 have b1:hi≤m:=by omega
 have b7:hi≤md:=by omega
 have bj:lo=a∨lo+b=md+m:=by omega
 have bg:hi=m∨hi=md:=by omega
 have eh:=hy' cy;have eg:=hy' du;have bx:=hy' a8;have bz:=hy' bj;have cg:=hy' bg;have ej:a<m:=by omega
 have hmb:m<b:=by omega
 have dx:=hy' hA2;have et:=hy' hB2;clear ak hC hZ hP cw di IH hA hB cy du a8 bj bg hA2 hB2;go_enter func241,ntmps241;go_upto_region 24 with (fail)
 clear e1 e3;go_cut [18] (fun v wx=>v=.int .i64 md∧wx=w)
 case first=>as_aux_lemma =>
  go_wp2_with fail;go_meet;exact⟨ZR (Value.int .i64) bx.o,rfl⟩
 case rest=>as_aux_lemma =>
  obtain⟨rfl,aa⟩:=hcut;replace aa:=aa.symm;subst aa;go_upto_if 140 with (fail)
  go_cut [20,21] (fun u v wx=>u=.int .i64 lo∧v=.int .i64 hi∧wx=w)
  case first=>as_aux_lemma =>
   rcases eh.o with ⟨h1,h2,h3⟩|⟨h1,h2,h3⟩
   · have HL:=hy' h2;have HH:=hy' h3;have c8:(md:Int)+m-b=lo:=by have:=eg.o;omega
     have ef:=hy' c8;clear h2 h3 c8;go_wp2_with fail;go_meet;exact⟨ZR (Value.int .i64) ef.o,ZR (fun x:Nat=>Value.int .i64 (x:Int)) HH.o.symm,rfl⟩
   have HL:=hy' h2;have HH:=hy' h3;clear h2 h3;go_wp2_with fail;go_meet;exact⟨ZR (fun x:Nat=>Value.int .i64 (x:Int)) HL.o.symm,ZR (fun x:Nat=>Value.int .i64 (x:Int)) HH.o.symm,rfl⟩
  case rest=>as_aux_lemma =>
   obtain⟨rfl,rfl,aa⟩:=hcut;replace aa:=aa.symm;subst aa;go_wp2_with fail;go_loopw [20,21,23] (fun vi vj _ wr=>∃i j:Nat,lo≤i∧i≤j∧j≤hi∧vi=.int .i64 i∧vj=.int .i64 j∧(∀x y,lo<i→A[i-1-a]?=some x→B[md-i]?=some y→k x≤k y)∧(∀x y,j<hi→A[j-a]?=some x→B[md-1-j]?=some y→k y<k x)∧Ss.At wr g sz (P++(A++(B++Q)))∧w.grownBy wr (some g)) (fun vi vj _ _=>(intOf vj).toNat-(intOf vi).toNat)
   case atStart=>exact⟨lo,hi,Za _,b6,Za _,rfl,rfl,fun x y h=>absurd h (JU _),fun x y h=>absurd h (JU _),HZ.o,zAT _ _⟩
   obtain⟨i,j,bu,hij,cc,rfl,rfl,h1,h2,aj,az⟩:=hrel
   by_cases hlt:i<j
   · as_aux_lemma =>
     have b5:=HB.o;have cb:=HA.o;obtain⟨x,hx⟩:∃x,A[(i+j)/2-a]?=some x:=⟨_,Zb (by omega)⟩;obtain⟨y,hy⟩:∃y,B[md-1-(i+j)/2]?=some y:=⟨_,Zb (by omega)⟩;have c1:=aj.cell (zGe (P:=P) (R:=B++Q) hx);rw[HP.o,show o+a+((i+j)/2-a)=o+(i+j)/2 by omega]at c1;have c2:=aj.cell (zF1 (P:=P) (A:=A) (Q:=Q) hy);rw[HP.o,show o+a+A.length+(md-1-(i+j)/2)=o+(md+m-1-(i+j)/2) by omega]at c2;have gl:=aj.lt;have iI:(i:Int)<j:=by omega
     have m0:(0:Int)≤((i:Int)+j)/2:=by omega
     have m1:((i:Int)+j)/2<n0:=by omega
     have p0:(0:Int)≤(md:Int)+m-1-((i:Int)+j)/2:=by omega
     have p1:(md:Int)+m-1-((i:Int)+j)/2<n0:=by omega
     have pt:((md:Int)+m-1-((i:Int)+j)/2).toNat=md+m-1-(i+j)/2:=by omega
     have C1:=hy' (Ext.call (w:=wr) fun W hW=>HC.o W (zA0 az (Ss.grown_below hW)) y x);have x1:=Ext.cells c1 gl;have x2:=Ext.cells c2 gl;have bc:=hy' aj;have ay:=hy' az;have H1:=hy' h1;have H2:=hy' h2;have HX:=hy' hx;have HY:=hy' hy;clear h1 h2 hx hy aj az b5 cb;go_wp2_with fail;refine zAa (by kernel_rfl) (by kernel_rfl) ?_;have ak:=ei.o
     repeat (go_big_quiet_step (with_reducible exact C1.o _))
     clear ak;refine wpQuiet_nil ?_;intro xw;have bp:=hy' (bc.o.below xw.below);have dl:=hy' (zA0 ay.o (Ss.grown_below xw.below));clear x1 x2 c1 c2 gl m0 m1 p0 p1 pt
     by_cases hk:k y<k x
     · have hv:decide (zCk (k y) (k x)<0)=true:=Zs ((zD8 _ _).2 hk);rw[hv,QZ];have HK:=hy' hk;clear hk hv;go_wp2_with fail;refine⟨⟨i,(i+j)/2,bu,by omega,by omega,rfl,by go_num,H1.o,fun u v _ hu hv=>?_,bp.o,dl.o⟩,by simp[intOf];omega⟩;rw[HX.o]at hu;rw[HY.o]at hv;cases hu
       cases hv
       exact HK.o
     have hv:decide (zCk (k y) (k x)<0)=false:=Zp fun h=>hk ((zD8 _ _).1 h)
     rw[hv,JE];have HK:=hy' hk;clear hk hv;go_wp2_with fail;refine⟨⟨(i+j)/2+1,j,by omega,by omega,cc,by go_num,rfl,fun u v _ hu hv=>?_,H2.o,bp.o,dl.o⟩,by simp[intOf];omega⟩;rw[show (i+j)/2+1-1-a=(i+j)/2-a by omega,HX.o]at hu;rw[show md-((i+j)/2+1)=md-1-(i+j)/2 by omega,HY.o]at hv;cases hu
     cases hv
     have:=HK.o;omega
   as_aux_lemma =>
   obtain rfl:i=j:=by omega
   obtain⟨s,hs⟩:∃s,i=s:=⟨_,rfl⟩;subst hs;have b5:=HB.o;have cb:=HA.o;have dz:=dx.o;have iI:¬(i:Int)<i:=by omega
   obtain⟨f1,f2⟩:=Ss.sym (s:=i-a) (j:=md-i) (by omega) (by omega) cq.o cr.o
    (fun x y hx hj hy=>by
      have ep:=(List.getElem?_eq_some_iff.1 hx).1;have:i<hi:=by rcases cg.o with h|h <;> omega
      exact h2 x y this hx (by rw[show md-1-i=md-i-1 by omega];exact hy))
    (fun x y hs hx hy=>by
      have er:=(List.getElem?_eq_some_iff.1 hy).1;have:lo<i:=by rcases bz.o with h|h <;> omega
      exact h1 x y this (by rw[show i-1-a=i-a-1 by omega];exact hx) hy)
   have eA:=(Zu (i-a) A).symm;have eB:=(Zu (md-i) B).symm;have cn:(A.take (i-a)).length=i-a:=by rw[Zn];omega
   have cj:(A.drop (i-a)).length=m-i:=by rw[ZH];omega
   have cf:(B.take (md-i)).length=md-i:=by rw[Zn];omega
   have ck:(B.drop (md-i)).length=b-m-(md-i):=by rw[ZH];omega
   obtain⟨A1,df⟩:∃l,A.take (i-a)=l:=⟨_,rfl⟩;obtain⟨A2,hA2⟩:∃l,A.drop (i-a)=l:=⟨_,rfl⟩;obtain⟨B1,dv⟩:∃l,B.take (md-i)=l:=⟨_,rfl⟩;obtain⟨B2,hB2⟩:∃l,B.drop (md-i)=l:=⟨_,rfl⟩;rw[df]at f2 cn eA;rw[hA2]at f1 cj eA;rw[dv]at f1 cf eB;rw[hB2]at f2 ck eB;have sA:=cq.o;have sB:=cr.o;rw[eA]at sA;rw[eB]at sB
   have ae:Ss.At wr g sz ((P++A1)++(A2++(B1++(B2++Q)))):=by
    have h:=aj;rw[eA,eB]at h;simpa using h
   obtain⟨en,ak⟩:∃en,md+m-i=en:=⟨_,rfl⟩;have bk:md+(m-i)=en:=by omega
   have ba:en+(b-m-(md-i))=b:=by omega
   have bn:m+(md-i)=en:=by omega
   have a7:(md:Int)+m-i=en:=by omega
   have ek:a≤i:=Zh ch bu;have eo:i≤m:=Zh cc b1;have eb:i≤md:=Zh cc b7;have bw:en≤b:=by omega
   have c6:md≤en:=by omega
   have ea:m≤en:=by omega
   have dc:=hy' (fun c1 c2 s1 q1 s2 q2=>zRh (c1:=c1) (c2:=c2) sA sB f1 f2 s1 q1 s2 q2);have dp:=hy' sA.left;have dw:=hy' sA.right;have cx:=hy' sB.left;have c7:=hy' sB.right;have br:=hy' cn;have bs:=hy' cj;have bm:=hy' cf;have cv:=hy' ck;have ar:=hy' bk;have aq:=hy' ba;have bf:=hy' bn;have b4:=hy' a7;have EA:=hy' eA;have EB:=hy' eB;have bc:=hy' ae;have ay:=hy' az;clear h1 h2 f1 f2 eA eB cn cj cf ck df hA2 dv hB2 sA sB aj ae az ak bk ba bn a7 b5 cb dz bu hij;obtain⟨wl,rfl⟩:∃wl:World,wl=wr:=⟨_,rfl⟩;go_upto_region 38 with (fail)
   go_cut [24] (fun v wx=>v=.int .i64 en∧wx=wl)
   case first=>as_aux_lemma =>
    go_wp2_with fail;go_meet;exact⟨ZR (Value.int .i64) b4.o,rfl⟩
   case rest=>as_aux_lemma =>
    obtain⟨rfl,aa⟩:=hcut;replace aa:=aa.symm;subst aa;go_upto_region 39 with (fail)
    obtain⟨z1,dt⟩:∃z,(decide (i<m)&&decide (m<en))=z:=⟨_,rfl⟩;have bo:=hy' dt;clear dt;go_cut [185] (fun s wx=>s=.bool z1∧wx=wl)
    case first=>as_aux_lemma =>
     by_cases h1:i<m
     · have av:(i:Int)<m:=by omega
       by_cases h2:m<en
       · have bl:(m:Int)<en:=by omega
         have hs:z1=true:=by rw[←bo.o];simp[h1,h2]
         subst hs;go_wp2_with fail;go_meet;exact⟨rfl,rfl⟩
       have bl:¬(m:Int)<en:=by omega
       have hs:z1=false:=by rw[←bo.o];simp[h2]
       subst hs;go_wp2_with fail;go_meet;exact⟨rfl,rfl⟩
     have av:¬(i:Int)<m:=by omega
     have hs:z1=false:=by rw[←bo.o];simp[h1]
     subst hs;go_wp2_with fail;go_meet;exact⟨rfl,rfl⟩
    case rest=>as_aux_lemma =>
     obtain⟨rfl,aa⟩:=hcut;replace aa:=aa.symm;subst aa;go_upto_if 185 with (fail)
     go_cut [] (fun wx=>Ss.At wx g sz (P++(A1++(B1++(A2++(B2++Q)))))∧w.grownBy wx (some g))
     case first=>as_aux_lemma =>
      cases z1 with
      | true =>
        have hzz:=bo.o;rw[Zr,YE,YE]at hzz;have hR:=hy' (dr.o i en (P++A1) A2 B1 (B2++Q) wl bc.o (by rw[Zc,HP.o,br.o];omega) (by rw[bs.o];omega) (by rw[bm.o];exact bf.o) hzz.1 hzz.2 (Zh bw hn));clear hzz;go_wp2_with fail;refine hR.out.mono ?_;rintro e w2 ⟨rfl,ae,ag⟩;have bt:=hy' ae;have bb:=hy' (zA0 ay.o ag);clear ae ag hR;go_wp2_with fail;go_meet;exact⟨by simpa using bt.o,bb.o⟩
      | false =>
        have hzz:=bo.o;rw[XS,Z2,Z2]at hzz
        have aw:Ss.At wl g sz (P++(A1++(B1++(A2++(B2++Q))))):=by
         have h:=bc.o;rcases hzz with hzz|hzz
         · have:A2=[]:=ZK (by rw[bs.o];omega);subst this;simpa using h
         have:B1=[]:=ZK (by rw[bm.o];have:=bf.o;omega);subst this;simpa using h
        have HF:=hy' aw;clear hzz aw;go_wp2_with fail;go_meet;exact⟨HF.o,ay.o⟩
     case rest=>as_aux_lemma =>
      obtain⟨bi,ap⟩:=hcut;obtain⟨wm,rfl⟩:∃wm:World,wm=wc:=⟨_,rfl⟩;have ai:=hy' bi;have af:=hy' ap;clear bi ap bc ay dr;go_upto_region 41 with (fail)
      obtain⟨z2,ct⟩:∃z,(decide (a<i)&&decide (i<md))=z:=⟨_,rfl⟩;have a1:=hy' ct;clear ct;go_cut [199] (fun s wx=>s=.bool z2∧wx=wm)
      case first=>as_aux_lemma =>
       by_cases h1:a<i
       · have av:(a:Int)<i:=by omega
         by_cases h2:i<md
         · have bl:(i:Int)<md:=by omega
           have hs:z2=true:=by rw[←a1.o];simp[h1,h2]
           subst hs;go_wp2_with fail;go_meet;exact⟨rfl,rfl⟩
         have bl:¬(i:Int)<md:=by omega
         have hs:z2=false:=by rw[←a1.o];simp[h2]
         subst hs;go_wp2_with fail;go_meet;exact⟨rfl,rfl⟩
       have av:¬(a:Int)<i:=by omega
       have hs:z2=false:=by rw[←a1.o];simp[h1]
       subst hs;go_wp2_with fail;go_meet;exact⟨rfl,rfl⟩
      case rest=>as_aux_lemma =>
       obtain⟨rfl,aa⟩:=hcut;replace aa:=aa.symm;subst aa;go_upto_if 199 with (fail)
       go_cut [] (fun wx=>(∃C1,Ss.so k C1∧Ss.eqv k (A1++B1) C1∧Ss.At wx g sz (P++(C1++(A2++(B2++Q)))))∧w.grownBy wx (some g))
       case first=>as_aux_lemma =>
        cases z2 with
        | true =>
          have hzz:=a1.o;rw[Zr,YE,YE]at hzz;have hR:=hy' (dm.o sz g o n0 cap a i md P A1 B1 (A2++(B2++Q)) wm (HC.o.grown af.o) ai.o HP.o (by rw[br.o];omega) (by rw[bm.o];omega) hzz.1 hzz.2 (by omega) b9 cp dp.o cx.o);clear hzz;go_wp2_with fail;refine hR.out.mono ?_;rintro e w2 ⟨rfl,a6,ag⟩;have b8:=hy' a6;have bb:=hy' (zA0 af.o ag);clear a6 ag hR;go_wp2_with fail;go_meet;exact⟨b8.o,bb.o⟩
        | false =>
          have hzz:=a1.o;rw[XS,Z2,Z2]at hzz
          have ax:Ss.so k (A1++B1):=by
           rcases hzz with hzz|hzz
           · have:A1=[]:=ZK (by rw[br.o];omega);rw[this,ZV];exact cx.o
           have:B1=[]:=ZK (by rw[bm.o];omega);rw[this,ZC];exact dp.o
          have b2:=hy' ax;clear hzz ax;go_wp2_with fail;go_meet;exact⟨⟨A1++B1,b2.o,Ss.eqv.refl _ _,by simpa using ai.o⟩,af.o⟩
       case rest=>as_aux_lemma =>
        obtain⟨⟨C1,cz,cm,bq⟩,bh⟩:=hcut;obtain⟨wn,rfl⟩:∃wn:World,wn=wc:=⟨_,rfl⟩;have dh:(P++C1).length=o+md:=by rw[Zc,HP.o,cm.length,Zc,br.o,bm.o];omega
        have au:Hy (Ss.At wn g sz ((P++C1)++(A2++(B2++Q)))):=hy' (by simpa using bq);have ah:=hy' bh;have dn:=hy' cz;have dk:=hy' cm;have dy:=hy' dh;clear bq bh cz cm dh ai af;go_upto_region 43 with (fail)
        obtain⟨z3,cu⟩:∃z,(decide (md<en)&&decide (en<b))=z:=⟨_,rfl⟩;have ao:=hy' cu;clear cu;go_cut [213] (fun s wx=>s=.bool z3∧wx=wn)
        case first=>as_aux_lemma =>
         by_cases h1:md<en
         · have av:(md:Int)<en:=by omega
           by_cases h2:en<b
           · have bl:(en:Int)<b:=by omega
             have hs:z3=true:=by rw[←ao.o];simp[h1,h2]
             subst hs;go_wp2_with fail;go_meet;exact⟨rfl,rfl⟩
           have bl:¬(en:Int)<b:=by omega
           have hs:z3=false:=by rw[←ao.o];simp[h2]
           subst hs;go_wp2_with fail;go_meet;exact⟨rfl,rfl⟩
         have av:¬(md:Int)<en:=by omega
         have hs:z3=false:=by rw[←ao.o];simp[h1]
         subst hs;go_wp2_with fail;go_meet;exact⟨rfl,rfl⟩
        case rest=>as_aux_lemma =>
         obtain⟨rfl,aa⟩:=hcut;replace aa:=aa.symm;subst aa;go_upto_if 213 with (fail)
         cases z3 with
         | true =>
           have hzz:=ao.o;rw[Zr,YE,YE]at hzz;have hR:=hy' (dm.o sz g o n0 cap md en b (P++C1) A2 B2 Q wn (HC.o.grown ah.o) au.o dy.o (by rw[bs.o];exact ar.o) (by rw[cv.o];exact aq.o) hzz.1 hzz.2 hn b9 b3 dw.o c7.o);clear hzz;go_wp2_with fail;refine hR.out.mono ?_;rintro e w2 ⟨rfl,a6,ag⟩;have b8:=hy' a6;have bb:=hy' (zA0 ah.o ag);clear a6 ag hR;go_wp2_with fail;go_end0;obtain⟨C2,s2,q2,a2⟩:=b8.o;obtain⟨r1,r2⟩:=dc.o C1 C2 dn.o dk.o s2 q2;rw[←EA.o,←EB.o]at r2;exact⟨rfl,⟨C1++C2,r1,r2,by simpa using a2⟩,bb.o⟩
         | false =>
           have hzz:=ao.o;rw[XS,Z2,Z2]at hzz
           have ax:Ss.so k (A2++B2):=by
            rcases hzz with hzz|hzz
            · have:A2=[]:=ZK (by rw[bs.o];have:=ar.o;omega);rw[this,ZV];exact c7.o
            have:B2=[]:=ZK (by rw[cv.o];have:=aq.o;omega);rw[this,ZC];exact dw.o
           have b2:=hy' ax;clear hzz ax;go_wp2_with fail;go_end0;obtain⟨r1,r2⟩:=dc.o C1 (A2++B2) dn.o dk.o b2.o (Ss.eqv.refl _ _);rw[←EA.o,←EB.o]at r2;exact⟨rfl,⟨C1++(A2++B2),r1,r2,by simpa using au.o⟩,ah.o⟩
theorem zKD (fid:FuncId) (cd:Option Addr) (k:Int→Int) (ae:∀(args:Array Value) (w:World),(callFunc fid args).run prog w=.ok (.enter fid args) w):∀N,zEr fid cd k N
 | 0=>fun sz g o n0 cap a m b P A B Q w hC hZ hP hA hB h1 h2 hn aa hN af ag=>by omega
 | N+1=>fun sz g o n0 cap a m b P A B Q w hC hZ hP hA hB h1 h2 hn aa hN af ag=>by
   rcases Z3 A.length 2 with hA2|hA2
   · match A,hA,af,hZ,hA2 with
     | [],hA,_,_,_=>simp at hA;omega
     | [x],hA,_,hZ,_=>exact zQ6 fid cd k ae sz g o n0 cap a m b P x B Q w hC hZ hP (by simpa using hA) hB hn aa ag
     | x::y::l,_,_,_,h=>simp at h;omega
   rcases Z3 B.length 2 with hB2|hB2
   · match B,hB,ag,hZ,hB2 with
     | [],hB,_,_,_=>simp at hB;omega
     | [x],hB,_,hZ,_=>exact zOf fid cd k ae sz g o n0 cap a m b P A x Q w hC hZ hP hA hA2 (by simpa using hB) hn aa af
     | x::y::l,_,_,_,h=>simp at h;omega
   exact zOg fid cd k ae N (zKD fid cd k ae N) sz g o n0 cap a m b P A B Q w hC hZ hP hA hB hA2 hB2 hn aa (by omega) af ag
def zKE (k:Int→Int) (sz g:Nat) (P L Q:List Int) (w:World) (e:Ending) (w':World):Prop:=e=.returned (.tuple #[])∧(∃C,Ss.so k C∧Ss.eqv k L C∧Ss.At w' g sz (P++(C++Q)))∧w.grownBy w' (some g)
theorem zLq (fid:FuncId) (cd:Option Addr) (k:Int→Int) (cg:∀(args:Array Value) (w:World),(callFunc fid args).run prog w=.ok (.enter fid args) w) (b1:∀N,zEr fid cd k N)
 (sz g o n cap:Nat) (P L Q:List Int) (w:World) (hC:Ss.Cmp fid cd k g w) (hZ:Ss.At w g sz (P++(L++Q))) (hP:P.length=o) (hL:L.length=n) (hn:n≤500000) :
 Calls prog 219 #[.slice (some ⟨g,o,none⟩) n cap,.int .i64 n,.func (.func fid) #[] #[.pointer cd]] w (zKE k sz g P L Q w):=by
 have HC:=hy' hC;have HZ:=hy' hZ;have HP:=hy' hP;have HL:=hy' hL;have b9:=hy' (fun a b P B Q W hC h1 h2 h3 h4=>zIu fid cd k cg sz g o n cap a b P B Q W hC h1 h2 h3 h4 (Zh hn (by decide)));have cc:=hy' (fun a m b P A B Q W hC h1 h2 h3 h4 h5 h6 h7 h8 h9=>b1 b sz g o n cap a m b P A B Q W hC h1 h2 h3 h4 h5 h6 h7 (Zh hn (by decide)) (Nat.le_add_left b a) h8 h9);clear cg b1 hC hZ hP hL;go_enter func219,ntmps219;go_wp2_with fail;go_loopw [7,8] (fun va vb wr=>∃(t a b:Nat) (L1:List Int),a=20*t∧b=a+20∧a≤n∧va=.int .i64 a∧vb=.int .i64 b∧L1.length=20*t∧Ss.chk k 20 L1∧Ss.eqv k (L.take (20*t)) L1∧Ss.At wr g sz (P++(L1++(L.drop (20*t)++Q)))∧w.grownBy wr (some g)) (fun va _ _=>n+1-(intOf va).toNat)
 case atStart=>exact⟨0,0,20,[],rfl,rfl,by omega,rfl,rfl,rfl,zKt k 20,Ss.eqv.refl _ _,by simpa using HZ.o,zAT _ _⟩
 obtain⟨t,a,b,L1,bb,a8,ht,rfl,rfl,ap,a6,bj,ay,aw⟩:=hrel;have bo:=hy' a6;have bg:=hy' bj;have bl:=hy' ap;have bq:=hy' aw;have av:=hy' bb;have au:=hy' a8
 by_cases hlt:b≤n
 · have bh:((L.drop (20*t)).take 20).length=20:=by rw[Zn,ZH,HL.o];omega
   have bc:L.drop (20*t)=(L.drop (20*t)).take 20++L.drop (20*t+20):=by rw[←X0,Zu]
   have af:L.take (20*t+20)=L.take (20*t)++(L.drop (20*t)).take 20:=XQ ..;obtain⟨B,a1⟩:∃B,(L.drop (20*t)).take 20=B:=⟨_,rfl⟩;rw[a1]at bh bc af;have aa:Ss.At wr g sz ((P++L1)++(B++(L.drop (20*t+20)++Q))):=by rw[bc]at ay;simpa using ay
   have hI:=hy' (b9.o a b (P++L1) B _ wr (HC.o.grown aw) aa (by rw[Zc,HP.o,ap];omega) (by omega) hlt);have c1:(b:Int)≤n:=by omega
   have bn:=hy' bh;have bu:=hy' af;clear ay aa bc af a1 bh a6 bj ap aw bb a8;go_wp2_with fail;refine hI.out.mono ?_;rintro e w1 ⟨rfl,⟨B',hs,he,ae⟩,ak⟩;have h1:=zD5 (k:=t) (l:=L1) (c:=B') (by rw[bl.o];omega) bo.o hs (by rw[he.length,bn.o];exact Za _);have h2:=bg.o.app he;rw[←bu.o]at h2;have H1:=hy' h1;have H2:=hy' h2;have H3:Hy ((L1++B').length=20*(t+1)):=hy' (by rw[Zc,bl.o,he.length,bn.o];omega);have H4:Hy (Ss.At w1 g sz (P++((L1++B')++(L.drop (20*(t+1))++Q)))):=hy' (by rw[show 20*(t+1)=20*t+20 by omega];simpa using ae);have H5:=hy' (zA0 bq.o ak);clear h1 h2 hs he ae ak hI;go_wp2_with fail;refine⟨⟨t+1,b,b+20,L1++B',by have:=av.o;have:=au.o;omega,rfl,hlt,rfl,ZR (Value.int .i64) (by omega),H3.o,H1.o,by rw[show 20*(t+1)=20*t+20 by omega];exact H2.o,H4.o,H5.o⟩,by have:=au.o;simp[intOf];omega⟩
 have bh:(L.drop (20*t)).length=n-20*t:=by rw[ZH,HL.o]
 have aa:Ss.At wr g sz ((P++L1)++(L.drop (20*t)++Q)):=by simpa using ay
 have hI:=hy' (b9.o a n (P++L1) (L.drop (20*t)) Q wr (HC.o.grown aw) aa (by rw[Zc,HP.o,ap];omega) (by rw[bh];omega) (Za _));have c1:¬(b:Int)≤n:=by omega
 have bn:=hy' bh;clear ay aa bh a6 bj ap aw bb a8;go_wp2_with fail;refine hI.out.mono ?_;rintro e w1 ⟨rfl,⟨B',hs,he,ae⟩,ak⟩;have h1:=zD5 (k:=t) (l:=L1) (c:=B') (by rw[bl.o];omega) bo.o hs (by rw[he.length,bn.o];have:=av.o;have:=au.o;omega);have h2:=bg.o.app he;rw[Zu]at h2;have h3:(L1++B').length=n:=by rw[Zc,bl.o,he.length,bn.o];have:=av.o;omega
 have h4:Ss.At w1 g sz (P++((L1++B')++Q)):=by simpa using ae
 have H5:=hy' (zA0 bq.o ak);obtain⟨M0,ch⟩:∃M,L1++B'=M:=⟨_,rfl⟩;rw[ch]at h1 h2 h3 h4;have H1:=hy' h1;have H2:=hy' h2;have H3:=hy' h3;have H4:=hy' h4;clear h1 h2 h3 h4 ch hs he ae ak hI bq bl bg bo bn c1 hlt ht av au;go_wp2_with fail;go_loopw [6,7,8,9] (fun vs _ _ _ wr=>∃(bs:Nat) (L1:List Int),20≤bs∧bs≤1000000∧vs=.int .i64 bs∧L1.length=n∧Ss.chk k bs L1∧Ss.eqv k L L1∧Ss.At wr g sz (P++(L1++Q))∧w.grownBy wr (some g)) (fun vs _ _ _ _=>n+1-(intOf vs).toNat)
 case atStart=>exact⟨20,M0,Za _,by decide,rfl,H3.o,H1.o,H2.o,H4.o,H5.o⟩
 obtain⟨bs,L1,cm,cn,rfl,ap,a6,bj,ay,aw⟩:=hrel;have bo:=hy' a6;have bg:=hy' bj;have bl:=hy' ap;have bq:=hy' aw;have cb:=hy' ay
 by_cases hlt:bs<n
 rotate_left
 · have sI:¬(bs:Int)<n:=by omega
   have cf:=zPZ a6 (by rw[ap];omega);have ck:=hy' cf;clear a6 bj ap ay aw cf;go_wp2_with fail;go_end0;exact⟨rfl,⟨L1,ck.o,bg.o,cb.o⟩,bq.o⟩
 have sI:(bs:Int)<n:=by omega
 clear a6 bj ap ay aw;go_wp2_with fail;obtain⟨wl,rfl⟩:∃wl:World,wl=wr:=⟨_,rfl⟩;go_loopw [7,8] (fun va vb wq=>∃(t a e:Nat) (L2:List Int),t*(2*bs)=a∧e=a+2*bs∧a≤n∧va=.int .i64 a∧vb=.int .i64 e∧L2.length=a∧Ss.chk k (2*bs) L2∧Ss.eqv k (L1.take a) L2∧Ss.At wq g sz (P++(L2++(L1.drop a++Q)))∧w.grownBy wq (some g)) (fun va _ _=>n+1-(intOf va).toNat)
 case atStart=>exact⟨0,0,2*bs,[],Nat.zero_mul _,by omega,by omega,rfl,congrArg (Value.int .i64) (by omega),rfl,zKt _ _,by simpa using Ss.eqv.refl _ _,by simpa using cb.o,bq.o⟩
 obtain⟨t,a,e0,L2,ha,b7,ht,rfl,rfl,bp,aq,ax,aa,ag⟩:=hrel;have ba:=hy' b7;have bz:t*2*bs=a:=by rw[Nat.mul_assoc];exact ha
 have b6:(t*2+1)*bs=a+bs:=by rw[Kn,bz]
 have b5:(t+1)*(2*bs)=a+2*bs:=by rw[Kn,ha]
 have ao:=bo.o (t*2);have az:=bo.o (t*2+1);rw[bz]at ao;rw[b6]at az;have bk:=hy' aq;have a7:=hy' ax;have bm:=hy' bp;have bf:=hy' ag;have cj:=hy' b5;have HA:=hy' ha;have ai:=bl.o
 by_cases hbn:e0≤n
 · have ar:L1.drop a=(L1.drop a).take bs++L1.drop (a+bs):=by rw[←X0,Zu]
   have bc:L1.drop (a+bs)=(L1.drop (a+bs)).take bs++L1.drop (a+2*bs):=by rw[show a+2*bs=a+bs+bs by omega,←X0 (i:=bs) (j:=a+bs),Zu]
   have bi:((L1.drop a).take bs).length=bs:=by rw[Zn,ZH];omega
   have ah:((L1.drop (a+bs)).take bs).length=bs:=by rw[Zn,ZH];omega
   have af:L1.take (a+2*bs)=L1.take a++((L1.drop a).take bs++(L1.drop (a+bs)).take bs):=by
    rw[show a+2*bs=a+bs+bs by omega,XQ,XQ,Zz]
   obtain⟨A,br⟩:∃A,(L1.drop a).take bs=A:=⟨_,rfl⟩;obtain⟨B,a1⟩:∃B,(L1.drop (a+bs)).take bs=B:=⟨_,rfl⟩;rw[br]at ar bi af ao;rw[a1]at bc ah af az;have aj:Ss.At wr g sz ((P++L2)++(A++(B++(L1.drop (a+2*bs)++Q)))):=by rw[ar,bc]at aa;simpa using aa
   have hS:=hy' (cc.o a (a+bs) e0 (P++L2) A B _ wr (HC.o.grown ag) aj (by rw[Zc,HP.o,bp]) (by omega) (by omega) (by omega) (by omega) hbn ao az);have c1:(e0:Int)≤n:=by omega
   have bu:=hy' af;have bx:=hy' bi;have bt:=hy' ah;clear aa aj ar bc af br a1 bi ah aq ax bp ag ao az ha bz b6 b5 ai b7;go_wp2_with fail;rw[show (a:Int)+bs=((a+bs:Nat):Int) from by omega];refine hS.out.mono ?_;rintro e w2 ⟨rfl,⟨D,hs,he,ae⟩,ak⟩;have h1:=zD5 (k:=t) (l:=L2) (c:=D) (by rw[bm.o,HA.o]) bk.o hs (by rw[he.length,Zc,bx.o,bt.o];have:=ba.o;omega);have h2:=a7.o.app he;rw[←bu.o]at h2;have b3:=hy' h1;have b4:=hy' h2;have bw:Hy ((L2++D).length=a+2*bs):=hy' (by rw[Zc,bm.o,he.length,Zc,bx.o,bt.o];omega);have b2:Hy (Ss.At w2 g sz (P++((L2++D)++(L1.drop (a+2*bs)++Q)))):=hy' (by simpa using ae);have b8:=hy' (zA0 bf.o ak);clear h1 h2 hs he ae ak hS;go_wp2_with fail;exact⟨⟨t+1,e0,e0+2*bs,L2++D,cj.o.trans ba.o.symm,rfl,hbn,rfl,ZR (Value.int .i64) (by omega),bw.o.trans ba.o.symm,b3.o,by rw[ba.o];exact b4.o,by rw[ba.o];exact b2.o,b8.o⟩,by have:=ba.o;simp[intOf];omega⟩
 have c1:¬(e0:Int)≤n:=by omega
 by_cases hmn:a+bs<n
 · have ar:L1.drop a=(L1.drop a).take bs++L1.drop (a+bs):=by rw[←X0,Zu]
   have bi:((L1.drop a).take bs).length=bs:=by rw[Zn,ZH];omega
   have ah:(L1.drop (a+bs)).length=n-(a+bs):=by rw[ZH];omega
   have af:L1=L1.take a++((L1.drop a).take bs++L1.drop (a+bs)):=by rw[←ar,Zu]
   rw[Zi (by rw[ah];omega)]at az;obtain⟨A,br⟩:∃A,(L1.drop a).take bs=A:=⟨_,rfl⟩;obtain⟨B,a1⟩:∃B,L1.drop (a+bs)=B:=⟨_,rfl⟩;rw[br]at ar bi af ao;rw[a1]at ar ah af az;have aj:Ss.At wr g sz ((P++L2)++(A++(B++Q))):=by rw[ar]at aa;simpa using aa
   have hS:=hy' (cc.o a (a+bs) n (P++L2) A B Q wr (HC.o.grown ag) aj (by rw[Zc,HP.o,bp]) (by omega) (by omega) (by omega) hmn (Za _) ao az);have c4:(a:Int)+bs<n:=by omega
   have bu:=hy' af;have bx:=hy' bi;have bt:=hy' ah;clear aa aj ar af br a1 bi ah aq ax bp ag ao az ha bz b6 b5 ai b7;go_wp2_with fail;rw[show (a:Int)+bs=((a+bs:Nat):Int) from by omega];refine hS.out.mono ?_;rintro e w2 ⟨rfl,⟨D,hs,he,ae⟩,ak⟩;have h1:=zD5 (k:=t) (l:=L2) (c:=D) (by rw[bm.o,HA.o]) bk.o hs (by rw[he.length,Zc,bx.o,bt.o];have:=ba.o;omega);have h2:=a7.o.app he;rw[←bu.o]at h2;have b3:=hy' h1;have b4:=hy' (bg.o.trans h2);have bw:Hy ((L2++D).length=n):=hy' (by rw[Zc,bm.o,he.length,Zc,bx.o,bt.o];omega);have b2:Hy (Ss.At w2 g sz (P++((L2++D)++Q))):=hy' (by simpa using ae);have b8:=hy' (zA0 bf.o ak);clear h1 h2 hs he ae ak hS;go_wp2_with fail;exact⟨⟨2*bs,L2++D,by omega,by omega,ZR (Value.int .i64) (by omega),bw.o,b3.o,b4.o,b2.o,b8.o⟩,by simp[intOf];omega⟩
 have ah:(L1.drop a).length=n-a:=by rw[ZH];omega
 rw[Zi (by rw[ah];omega)]at ao;have h1:=zD5 (k:=t) (l:=L2) (c:=L1.drop a) (by rw[bm.o,HA.o]) bk.o ao (by rw[ah];omega);have h2:=a7.o.app (Ss.eqv.refl k (L1.drop a));rw[Zu]at h2;have b3:=hy' h1;have b4:=hy' (bg.o.trans h2);have bw:Hy ((L2++L1.drop a).length=n):=hy' (by rw[Zc,bm.o,ah];omega);have b2:Hy (Ss.At wr g sz (P++((L2++L1.drop a)++Q))):=hy' (by simpa using aa);have c4:¬(a:Int)+bs<n:=by omega
 clear h1 h2 aa ah aq ax bp ag ao az ha bz b6 b5 ai b7;go_wp2_with fail;exact⟨⟨2*bs,L2++L1.drop a,by omega,by omega,ZR (Value.int .i64) (by omega),bw.o,b3.o,b4.o,b2.o,bf.o⟩,by simp[intOf];omega⟩
theorem zKF (x:Int) (w:World):Calls prog 218 #[.int .i64 x] w fun e w'=>e=.returned (.bool false)∧w=w':=by
 go_enter func218,ntmps218;go_wp2;go_ret;exact⟨by simp,rfl⟩
theorem zLr (a b:Int) (w:World):Calls prog 184 #[.int .i64 a,.int .i64 b] w fun e w'=>e=.returned (.int .i64 (zCk a b))∧w=w':=by
 go_enter func184,ntmps184;go_wp2_with fail;refine (zKF _ _).mono ?_;rintro e w1 ⟨rfl,rfl⟩;go_wp2_with fail;refine (zKF _ _).mono ?_;rintro e w1 ⟨rfl,rfl⟩
 by_cases h1:a<b
 · have hc:Hy (zCk a b = -1):=hy' (Zl h1);go_wp2_with fail;go_ret;exact⟨by rw[hc.out];rfl,rfl⟩
 by_cases h2:b<a
 · have hc:Hy (zCk a b=1):=hy' (by unfold zCk;rw[if_neg h1,if_pos h2]);have h3:a > b:=h2;go_wp2_with fail;go_ret;exact⟨by rw[hc.out];rfl,rfl⟩
 have hc:Hy (zCk a b=0):=hy' (by unfold zCk;rw[if_neg h1,if_neg h2]);have h3:¬a > b:=h2;go_wp2_with fail;go_ret;exact⟨by rw[hc.out];rfl,rfl⟩
theorem zMO (v:Value) (T:List Rw.Row) (S:List Int) (db:Nat) (x y:Int) (w:World) (ok:Ud.Ok T S) (h:Ud.Is w v T S) (hd:w.cell? ⟨db,0,none⟩=some v) (aa:db<w.heap.size) :
 Calls prog 183 #[.int .i32 x,.int .i32 y,.pointer (some ⟨db,0,none⟩)] w fun e w'=>e=.returned (.int .i64 (zCk (Md.cls T x) (Md.cls T y)))∧Below w.heap.size w w':=by
 have C1:=hy' (Ext.call (w:=w) fun W hW=>Ud.class_any v T S x W ok (h.below hW));have C2:=hy' (Ext.call (w:=w) fun W hW=>Ud.class_any v T S y W ok (h.below hW));have C3:=hy' (Ext.same (w:=w) fun W hW=>zLr (Md.cls T x) (Md.cls T y) W);have x1:=Ext.cells hd aa;clear h ok;go_enter func183,ntmps183;go_wp2_with fail;refine zAa (by kernel_rfl) (by kernel_rfl) ?_
 repeat (go_big_quiet_step ((first|(go_at_call 40;first|with_reducible exact C1.o _|with_reducible exact C2.o _)|(go_at_call 184;with_reducible exact C3.o _))))
 refine wpQuiet_nil ?_;intro xw;have HB:=hy' xw.below;go_wp2_with fail;go_ret;exact⟨rfl,HB.o⟩
theorem zMP (args:Array Value) (w:World):(callFunc 183 args).run prog w=.ok (.enter 183 args) w:=zSg func183 (by kernel_rfl) (by kernel_rfl) args w
theorem Or.sort_any (fid:FuncId) (cd:Option Addr) (k:Int→Int) (ae:∀(args:Array Value) (w:World),(callFunc fid args).run prog w=.ok (.enter fid args) w) (aa:∀N,zEr fid cd k N)
 (sz g o n cap:Nat) (P L Q:List Int) (w:World) (hC:Ss.Cmp fid cd k g w) (hZ:Ss.At w g sz (P++(L++Q))) (hP:P.length=o) (hL:L.length=n) (hn:n≤500000) :
 Calls prog 185 #[.slice (some ⟨g,o,none⟩) n cap,.func (.func fid) #[] #[.pointer cd]] w (zKE k sz g P L Q w):=by
 have hS:=zLq fid cd k ae aa sz g o n cap P L Q w hC hZ hP hL hn;clear hC hZ hP hL aa ae hn;go_enter func185,ntmps185;go_wp2_with fail;refine hS.mono ?_;rintro e w1 ⟨rfl,h1,h2⟩;have H1:=hy' h1;have H2:=hy' h2;clear h1 h2 hS;go_wp2_with fail;go_end0;exact⟨rfl,H1.o,H2.o⟩
theorem Ss.At.of_own {w:World} {base g n cap:Nat} {l:List Int} (hl:l.length=n) (h:w.ownsRow base 21 1 (.slice (some ⟨g,0,none⟩) n cap) n (l.map (Value.int .i32))):Ss.At w g cap l∧base≤g∧n≤cap∧cap≤maxLen:=by
 rcases h.2 with ⟨hv,_⟩|⟨g',ae,aa,hv,hg,hb,h1,h2,h3,h4⟩
 · cases hv
 simp only[ZX,Zg,YH,Yl,Qc]at hv;obtain⟨rfl,rfl⟩:=hv;refine⟨⟨aa.toList.drop n,?_,?_⟩,hg,h1,h2⟩
 · have e:aa.toList.length=aa.size:=Xk;rw[ZH,e,h3,hl];omega
 unfold Rw.At;rw[Y0]at h4;rw[←h4,Zu];simpa using hb
theorem Ss.At.own {w:World} {base g n cap:Nat} {Z:List Int} (h:Ss.At w g cap Z) (hl:Z.length=n) (hb:base≤g) (hc:n≤cap) (hm:cap≤maxLen):w.ownsRow base 21 1 (.slice (some ⟨g,0,none⟩) n cap) n (Z.map (Value.int .i32)):=by
 obtain⟨R,hs,ha⟩:=h;refine⟨by rw[Ze,hl,Y0],.inr ⟨g,cap,_,rfl,hb,ha,hc,hm,?_,?_⟩⟩
 · simp;omega
 rw[Y0];simp[hl]
theorem Or.of_any (v:Value) (T:List Rw.Row) (S:List Int) (A:Option Addr) (n c:Nat) (l:List Int) (w:World) (ok:Ud.Ok T S) (h:Ud.Is w v T S) (hl:l.length=n) (hn:n≤100000) (hA:Sl w w.heap.size A (l.map (Value.int .i32))) (bb:∀fid cd k N,(∀(args:Array Value) (w:World),(callFunc fid args).run prog w=.ok (.enter fid args) w)→zEr fid cd k N) :
 Calls prog 137 #[v,.slice A n c] w (zBc (Or.of (Md.cls T) l) w):=by
 have bc:Below w.heap.size w (w.alloc (.cells #[v] 23)):=(Zd _ _).alloc (Za _) _;obtain⟨wa,bi⟩:∃wa,w.alloc (.cells #[v] 23)=wa:=⟨_,rfl⟩;have cg:Rw.At wa w.heap.size 23 [v]:=by rw[←bi];exact Rw.At.new w 23 [v]
 rw[bi]at bc;have bu:=zC0 A n c w.heap.size l wa hl (Zh hn (by decide)) bc.size (hA.below bc (Za _));obtain⟨pv,ck,_⟩:=h.form;have cu:=hy' bi;have bj:=hy' bc;have cb:=hy' cg;have ch:=hy' h;have cc:=hy' ok;have HL:=hy' hl;have cp:=hy' bb;obtain⟨f,hf⟩:∃f,Md.cls T=f:=⟨_,rfl⟩;rw[hf];have HF:=hy' hf;subst ck;clear bi bc cg h ok hl bb hA hf;go_enter func137,ntmps137;go_upto_region 1 with (fail)
 rw[cu.o];go_wp2_with fail;refine bu.mono ?_;rintro e w1 ⟨A1,c1,rfl,ai,bh⟩;have br:=hy' (bj.o.trans (bh.mono bj.o.size));have bl:=hy' (cb.o.below bh);rcases ai.2 with ⟨hv,h0⟩|⟨g,cap,c8,hv,hg,cw,k1,k2,k3,k4⟩
 · simp only[ZX]at hv;obtain⟨rfl,rfl,rfl⟩:=hv;have cn:l=[]:=ZK HL.o;subst cn;clear ai bh bu;go_wp2_with fail;go_loopw [7,8] (fun vi _ wr=>vi=.int .i64 0∧wr=w1) (fun _ _ _=>0)
   case round =>
    obtain⟨rfl,rfl⟩:=hrel;go_wp2_with fail;go_ret;exact⟨none,0,rfl,ZG _ _ _ _,br.o⟩
   exact⟨rfl,rfl⟩
 simp only[ZX]at hv;obtain⟨rfl,_,bo⟩:=hv;replace bo:=bo.symm;subst bo;obtain⟨b8,b4,cx,ct⟩:=Ss.At.of_own HL.o ai;have cr:w.heap.size+1≤g:=Zh (show w.heap.size+1≤wa.heap.size from cb.o.lt) hg;have bq:∀W,w1.grownBy W (some g)→Below w.heap.size w W:=fun W hW=>br.o.grown hW br.o.size (by intro k hk;simp only[Zg]at hk;omega)
 have ah:∀W,w1.grownBy W (some g)→W.cell? ⟨w.heap.size,0,none⟩=some (.pointer (some ⟨pv,0,none⟩))∧w.heap.size<W.heap.size:=fun W hW=>by
  have:=bl.o.grown hW (by simp only[QE,Zg];omega);exact⟨this.cell 0 rfl,this.lt⟩
 have ap:Ss.Cmp 183 (some ⟨w.heap.size,0,none⟩) f g w1:=fun W hW x y=>by
  have:=zMO _ T S w.heap.size x y W cc.o (ch.o.below (bq W hW)) (ah W hW).1 (ah W hW).2;rw[HF.o]at this;exact this
 have a6:=fun (o n1 bp:Nat) (P1 L1 Q1:List Int) (W:World) (hW:w1.grownBy W (some g))=>Or.sort_any 183 (some ⟨w.heap.size,0,none⟩) f zMP (fun N=>cp.o _ _ _ N zMP) cap g o n1 bp P1 L1 Q1 W (ap.grown hW)
 have au:=hy' a6;have cf:=hy' bq;have bs:=hy' ah;have cz:=hy' ap;have bz:=hy' b8;have bt:Hy (w.heap.size≤g∧n≤cap∧cap≤maxLen):=hy' ⟨Zh (by have:=bj.o.size;exact this) b4,cx,ct⟩;clear ai bh bu cw k3 k4 k1 k2 bq ah ap b8 b4 cr hg a6;go_wp2_with fail;go_loopw [7,8] (fun vi _ wr=>∃(j:Nat) (Z:List Int),vi=.int .i64 j∧Z.length=n∧j≤n+1∧((j≤n∧∃q,Or.Pre f (l.take j) q∧Z=q++l.drop j)∨(n<j∧Or.R f l Z))∧Ss.At wr g cap Z∧w1.grownBy wr (some g)) (fun vi _ _=>n+1-(intOf vi).toNat)
 case atStart=>exact⟨0,l,rfl,HL.o,by omega,.inl ⟨by omega,[],by simpa using Or.Pre.nil,by simp⟩,bz.o,zAT _ _⟩
 obtain⟨j,Z,rfl,bx,hj,ak,ag,bg⟩:=hrel
 by_cases hlt:j<n
 rotate_left
 · have jI:¬(j:Int)<n:=by omega
   have hR:Or.R f l Z:=by
    rcases ak with ⟨cj,q,af,rfl⟩|⟨_,h⟩
    · obtain rfl:j=n:=by omega
      rw[YP (by rw[HL.o];exact Za _)];have h:=af.app (Or.R.run (f:=f) (a:=[]) (b:=[]) (fun x hx=>by simp at hx) (zGB f) (Ss.eqv.refl _ _));rw[ZC,Zi (by rw[HL.o];exact Za _)]at h;exact h
    exact h
   have hZ:Z=Or.of f l:=(Or.R.unique (zCo f l) hR);have bn:(Or.of f l).length=n:=by rw[←hZ];exact bx
   rw[hZ]at ag;have ao:=ag.own (n:=n) (base:=w.heap.size) bn bt.o.1 bt.o.2.1 bt.o.2.2;have HO:=hy' ao;have c6:=hy' (cf.o wr bg);have cm:=hy' bn;clear hR hZ ag ao bg bn bx;go_wp2_with fail;go_ret;unfold zBc;rw[cm.o];exact⟨_,_,rfl,HO.o,c6.o⟩
 rcases ak with ⟨_,q,af,rfl⟩|⟨cj,_⟩
 rotate_left
 · omega
 have b7:q.length=j:=by rw[af.length,Zn,HL.o];omega
 have aw:=hy' b7;have bf:=hy' af;have bw:=hy' ag;have cq:=hy' bg;have jI:(j:Int)<n:=by omega
 clear b7 af ag bg bx;go_wp2_with fail;obtain⟨wo,rfl⟩:∃wo:World,wo=wr:=⟨_,rfl⟩;go_loopw [8] (fun vi wq=>∃i:Nat,j≤i∧i≤n∧vi=.int .i64 i∧(∀x∈(l.drop j).take (i-j),0<f x)∧Ss.At wq g cap (q++l.drop j)∧w1.grownBy wq (some g)) (fun vi _=>n-(intOf vi).toNat)
 case atStart=>exact⟨j,Za _,by omega,rfl,by simp,bw.o,cq.o⟩
 obtain⟨i,cv,c7,rfl,hpos,aa,av⟩:=hrel;have ay:=hy' hpos;have bm:=hy' av;have ar:=hy' aa;obtain⟨b1,b2⟩:=bs.o wr av;have xb:=Ext.cells b1 b2;have gl:=aa.lt
 by_cases hie:i<n
 rotate_left
 · obtain rfl:i=n:=by omega
   have iI:¬(i:Int)<i:=by omega
   have aj:(l.drop j).take (i-j)=l.drop j:=Zi (by rw[ZH,HL.o];exact Za _);rw[aj]at hpos;have az:=hy' hpos;have hlen:(l.drop j).length=i-j:=by rw[ZH,HL.o]
   have hS:=hy' (au.o j (i-j) (cap-j) q (l.drop j) [] wr av (by simpa using aa) aw.o hlen (by omega));have aq:=hy' hlen;clear xb b1 aj hpos hlen aa av hS;go_wp2_with fail;refine zAa (by kernel_rfl) (by kernel_rfl) ?_
   repeat (go_big_quiet_step (fail))
   refine wpQuiet_nil ?_;intro xw;have h1:=ar.o.below xw.below;have h2:=zA0 bm.o (Ss.grown_below xw.below);have hS:=hy' (au.o j (i-j) (cap-j) q (l.drop j) [] xw.val h2 (by simpa using h1) aw.o aq.o (by omega));have H2:=hy' h2;clear h1 h2;go_wp2_with fail;refine hS.out.mono ?_;rintro e w2 ⟨rfl,⟨C,sC,eC,ae⟩,ba⟩;have a7:Ss.At w2 g cap (q++C):=by simpa using ae
   have ax:Or.R f l (q++C):=by
    have h:=bf.o.app (Or.R.run az.o sC eC);rw[Zu]at h;exact h
   have a1:(q++C).length=i:=ax.length.trans HL.o;have N1:=hy' a7;have N2:=hy' ax;have N3:=hy' a1;have N4:=hy' (zA0 H2.o ba);clear a7 ax a1 sC eC ae ba hS;go_wp2_with fail;exact⟨⟨i+1,q++C,by first|rfl|go_num,N3.o,by omega,.inr ⟨by omega,N2.o⟩,N1.o,N4.o⟩,by simp[intOf];omega⟩
 obtain⟨y,hy⟩:∃y,l[i]?=some y:=⟨_,Zb (by rw[HL.o];exact hie)⟩
 have b6:(q++l.drop j)[i]?=some y:=by
  rw[ZO (by rw[aw.o];exact cv),aw.o,XI,show j+(i-j)=i by omega];exact hy
 have cy:=aa.cell b6;have xy:=Ext.cells cy gl
 have CC:=hy' (Ext.call (w:=wr) fun W hW=>by
  have:=Ud.class_any _ T S y W cc.o (ch.o.below (cf.o W (zA0 av (Ss.grown_below hW))));rw[HF.o]at this;exact this)
 have iI:(i:Int)<n:=by omega
 have i0:(0:Int)≤i:=by omega
 have b5:(l.drop j).take (i+1-j)=(l.drop j).take (i-j)++[y]:=by
  rw[show i+1-j=i-j+1 by omega,Zy,XI,show j+(i-j)=i by omega,hy];rfl
 have b9:=hy' b5;have HY:=hy' hy;obtain⟨u,hu⟩:∃u,f y=u:=⟨_,rfl⟩;rw[hu]at CC;have HU:=hy' hu;clear hpos av aa hy b6 b5 hu
 by_cases hup:0<u
 · have b3:u > 0:=hup;go_wp2_with fail;refine zAa (by kernel_rfl) (by kernel_rfl) ?_
   repeat (go_big_quiet_step ((go_at_call 40;with_reducible exact CC.o _)))
   refine wpQuiet_nil ?_;intro xw;have H1:=hy' (ar.o.below xw.below);have H2:=hy' (zA0 bm.o (Ss.grown_below xw.below));clear xb xy b1 cy;go_wp2_with fail;refine⟨⟨i+1,by omega,by omega,by go_num,?_,H1.o,H2.o⟩,by simp[intOf];omega⟩;rw[b9.o];intro x hx;rcases List.mem_append.1 hx with hx|hx
   · exact ay.o x hx
   rw[ZE]at hx;rw[hx,HU.o];exact hup
 have b3:¬u > 0:=hup;go_wp2_with fail;refine zAa (by kernel_rfl) (by kernel_rfl) ?_
 repeat (go_big_quiet_step ((go_at_call 40;with_reducible exact CC.o _)))
 refine wpQuiet_nil ?_;intro xw
 have hdr:l.drop j=(l.drop j).take (i-j)++y::l.drop (i+1):=by
  obtain⟨u1,u2⟩:=List.getElem?_eq_some_iff.1 HY.o;have h1:l.drop i=y::l.drop (i+1):=by rw[ZJ u1,u2]
  rw[←h1];have h2:=(Zu (i-j) (l.drop j)).symm;rw[X0,show j+(i-j)=i by omega]at h2;exact h2
 have hlen:((l.drop j).take (i-j)).length=i-j:=by rw[Zn,ZH,HL.o];omega
 have a8:l.take (i+1)=l.take j++((l.drop j).take (i-j)++[y]):=by
  have h:=b9.o;rw[←h,←XQ,show j+(i+1-j)=i+1 by omega]
 have h1:=ar.o.below xw.below;rw[hdr]at h1;have h2:=zA0 bm.o (Ss.grown_below xw.below);have hS:=hy' (au.o j (i-j) (cap-j) q ((l.drop j).take (i-j)) (y::l.drop (i+1)) xw.val h2 h1 aw.o hlen (by omega));have H2:=hy' h2;have bk:=hy' a8;have aq:=hy' hlen;clear xb xy b1 cy hdr hlen a8 h1 h2;go_wp2_with fail;refine hS.out.mono ?_;rintro e w2 ⟨rfl,⟨C,sC,eC,ae⟩,ba⟩;have a7:Ss.At w2 g cap ((q++(C++[y]))++l.drop (i+1)):=by simpa using ae
 have ax:Or.Pre f (l.take (i+1)) (q++(C++[y])):=by
  rw[bk.o];exact Or.Pre.snoc bf.o ay.o sC eC (by rw[HU.o];omega)
 have a1:((q++(C++[y]))++l.drop (i+1)).length=n:=by
  have h1:=eC.length;rw[aq.o]at h1;have h2:=aw.o;have h3:=HL.o;simp;omega
 have N1:=hy' a7;have N2:=hy' ax;have N3:=hy' a1;have N4:=hy' (zA0 H2.o ba);clear a7 ax a1 sC eC ae ba hS;go_wp2_with fail;exact⟨⟨i+1,(q++(C++[y]))++l.drop (i+1),by first|rfl|go_num,N3.o,by omega,.inl ⟨by omega,_,N2.o,rfl⟩,N1.o,N4.o⟩,by simp[intOf];omega⟩
theorem zHp:∀(rs:List Rw.Row) (ads:List (Option Addr × Nat)) (r:Rw.Row) (a:Option Addr × Nat),ads.length=rs.length →
 zBr (rs++[r]) (ads++[a])=zBr rs ads++[.int .i64 r.1,.int .i64 r.2.1,.slice a.1 r.2.2.length a.2]
 | [],[],r,a,_=>rfl
 | [],_::_,_,_,h=>by simp at h
 | q::rs,[],r,a,h=>by simp at h
 | q::rs,b::ads,r,a,h=>by
   simp only[ZN,zBr];rw[zHp rs ads r a (by simpa using h)]
def Rw.MapsI (w:World) (rs:List Rw.Row) (ads:List (Option Addr × Nat)):Prop:=∀(i:Nat) (r:Rw.Row) (a:Option Addr × Nat),rs[i]?=some r→ads[i]?=some a→Slt w 3 a.1 (r.2.2.map (Value.int .i64))
theorem Rw.MapsI.app {w:World} {rs:List Rw.Row} {ads:List (Option Addr × Nat)} (h:Rw.MapsI w rs ads) (hl:ads.length=rs.length) {r:Rw.Row} {a:Option Addr × Nat} (hr:Slt w 3 a.1 (r.2.2.map (Value.int .i64))):Rw.MapsI w (rs++[r]) (ads++[a]):=by
 intro i q x hq hx;rcases Z3 i rs.length with hi|hi
 · rw[Z1 hi]at hq;rw[Z1 (by omega)]at hx;exact h i q x hq hx
 rw[ZO hi]at hq;rw[ZO (by omega)]at hx;obtain⟨j,hj⟩:∃j,i-rs.length=j:=⟨_,rfl⟩;rw[hl,hj]at hx;rw[hj]at hq;rcases j with _|j
 · simp at hq hx;subst hq hx;exact hr
 simp at hq
theorem Rw.MapsI.below {w w':World} {rs:List Rw.Row} {ads:List (Option Addr × Nat)} (h:Rw.MapsI w rs ads) (hb:Below w.heap.size w w'):Rw.MapsI w' rs ads:=fun i r a h1 h2=>(h i r a h1 h2).below hb
theorem Rw.MapsI.grown {w w':World} {rs:List Rw.Row} {ads:List (Option Addr × Nat)} {row:Option Nat} (h:Rw.MapsI w rs ads) (hg:w.grownBy w' row) (hr:∀k,row=some k→∀cs z,w.heap[k]?≠some (.cells cs 3 z)):Rw.MapsI w' rs ads :=
 fun i r a h1 h2=>(h i r a h1 h2).grown hg hr
theorem zJi {w:World} {A:Option Addr} {rs:List Rw.Row} {ads:List (Option Addr × Nat)} (hl:ads.length=rs.length) (hs:Slt w 73 A (zBr rs ads)) (hm:Rw.MapsI w rs ads):Rw.SeesI w A rs :=
 ⟨ads,hl,hs.sl,fun i r a h1 h2=>(hm i r a h1 h2).sl⟩
theorem Rw.At.slt {w:World} {b:Nat} {t:TypeId} {cs:List Value} (h:Rw.At w b t cs):Slt w t (some ⟨b,0,none⟩) cs :=
 fun _=>⟨b,0,cs.toArray,rfl,h,fun i _=>by simp⟩
theorem zPl:(prog.info? 73).map (fun i=>(i.zero,i.size,i.bytes))=some (some (.agg #[.int .i64 0,.int .i64 0,.slice none 0 0]),3,40):=by kernel_rfl
def Md.Doc (w:World) (v:Value) (T:List Rw.Row) (E:List Int):Prop:=∃A c XA xc,v=zB8 A T.length c XA E.length xc∧Rw.SeesI w A T∧Sl w w.heap.size XA (E.map (Value.int .i64))
theorem Md.Doc.below {w w':World} {v:Value} {T:List Rw.Row} {E:List Int} (h:Md.Doc w v T E) (hb:Below w.heap.size w w'):Md.Doc w' v T E:=by
 obtain⟨A,c,XA,xc,h1,h2,h3⟩:=h;exact⟨A,c,XA,xc,h1,h2.below hb,h3.below hb hb.size⟩
theorem Md.in_any (A:Option Addr) (n c:Nat) (l:List Int) (d:Int) (w:World) (hn:l.length=n) (aj:n≤1000000) (hA:Sl w w.heap.size A (l.map (Value.int .i64))) :
 Calls prog 145 #[.slice A n c,.int .i64 d] w fun e w'=>e=.returned (.bool (decide (d∈l)))∧w=w':=by
 obtain⟨o,ho⟩:∃o,decide (d∈l)=o:=⟨_,rfl⟩;rw[ho];have HO:=hy' ho;have HN:=hy' hn;have HA:=hy' hA;clear ho hn hA;go_enter func145,ntmps145;go_wp2_with fail;go_loop [9] (fun i=>∃k:Nat,k≤n∧i=.int .i64 k∧d∉l.take k) (fun i=>n-(intOf i).toNat)
 case atStart=>exact⟨0,Zq _,rfl,by simp⟩
 obtain⟨k,hk,rfl,ah⟩:=hrel;have ag:=hy' ah;clear ah
 by_cases hlt:k<n
 rotate_left
 · obtain rfl:n=k:=by omega
   have aa:o=false:=by
    rw[←HO.o];have:=ag.o;rw[Zi (by rw[HN.o];exact Za _)]at this;exact Zp this
   have ae:=hy' aa;clear aa hlt;go_wp2_with fail;go_ret;exact⟨by rw[ae.o];rfl,rfl⟩
 obtain⟨x,hx⟩:∃x,l[k]?=some x:=⟨_,Zb (by rw[HN.o];exact hlt)⟩;obtain⟨ab,ao,rfl,ap,af⟩:=HA.o (by rw[Ze,HN.o];omega);have hc:=af k (by rw[Ze,HN.o];exact hlt);rw[Zt,hx,Zw]at hc;have ak:(k:Int)<n:=by omega
 have HX:=hy' hx;clear af hx;rcases hxd:(x == d) with _|_
 · have hne:¬x=d:=by simpa using hxd
   have ai:Hy (d∉l.take (k+1)):=hy' (by
    rw[Zy,HX.o];intro h;rcases List.mem_append.1 h with h|h
    · exact ag.o h
    simp at h;exact hne h.symm)
   clear hne;go_wp2_with fail;go_round
   case rel=>exact⟨k+1,by omega,by go_num,ai.o⟩
   simp[intOf];omega
 have he:x=d:=beq_iff_eq.1 hxd
 have aa:o=true:=by
  rw[←HO.o];exact Zs (by rw[←he];exact Zj HX.o)
 have ae:=hy' aa;clear he aa;go_wp2_with fail;go_ret;exact⟨by rw[ae.o];rfl,rfl⟩
theorem Md.find_take {T:List Rw.Row} {k:Nat} {r:Rw.Row} {c:Int} (hr:T[k]?=some r) (aa:∀q∈T.take k,q.1≠c) (he:r.1=c):Md.find T c=some r:=by
 obtain⟨h1,h2⟩:=List.getElem?_eq_some_iff.1 hr;rw[←Zu k T,ZJ h1,h2];unfold Md.find;rw[List.find?_append,List.find?_eq_none.2 (fun q hq=>by simpa using aa q hq)];simp[he]
theorem zKG {T:List Rw.Row} {k:Nat} {c:Int} (hk:T.length≤k) (aa:∀q∈T.take k,q.1≠c):Md.find T c=none:=by
 rw[Zi hk]at aa;exact zDs aa
theorem Md.no_succ {T:List Rw.Row} {k:Nat} {r:Rw.Row} {c:Int} (hr:T[k]?=some r) (aa:∀q∈T.take k,q.1≠c) (he:¬r.1=c):∀q∈T.take (k+1),q.1≠c:=by
 rw[Zy,hr];intro q hq;rcases List.mem_append.1 hq with hq|hq
 · exact aa q hq
 simp at hq;subst hq;exact he
theorem zGf (v:Value) (T:List Rw.Row) (E:List Int) (d:Int) (w:World) (a1:T.length≤1000000) (h:Md.Doc w v T E) :
 Calls prog 70 #[v,.int .i64 d] w fun e w'=>e=.returned (.int .i64 (Md.cls T d))∧Below w.heap.size w w':=by
 obtain⟨A,c,XA,xc,rfl,h2,hX⟩:=h;obtain⟨n,hn⟩:∃k,T.length=k:=⟨_,rfl⟩;obtain⟨xn,hxn⟩:∃k,E.length=k:=⟨_,rfl⟩;rw[hn]at a1 ⊢;rw[hxn];obtain⟨res,ae⟩:∃k,Md.cls T d=k:=⟨_,rfl⟩;rw[ae];have aj:Below w.heap.size w (w.alloc (.cells #[.slice A n c,.slice XA xn xc] 38)):=(Zd _ _).alloc (Za _) _;have ar:Rw.At (w.alloc (.cells #[.slice A n c,.slice XA xn xc] 38)) w.heap.size 38 [.slice A n c,.slice XA xn xc]:=Rw.At.new w 38 [.slice A n c,.slice XA xn xc];obtain⟨wa,aq⟩:∃wa,w.alloc (.cells #[.slice A n c,.slice XA xn xc] 38)=wa:=⟨_,rfl⟩;rw[aq]at aj ar;have z0:=ar.cell 0 rfl;have a6:=hy' aq;have ai:=hy' aj;have ao:=hy' (h2.below aj);have HN:=hy' hn;have ah:=hy' ae;clear aq aj ar hn hxn ae h2 hX;unfold zB8;go_enter func70,ntmps70;go_upto_region 1 with (fail)
 rw[a6.o];go_wp2_with fail;go_loopw [10] (fun i wr=>∃k:Nat,k≤n∧i=.int .i64 k∧(∀q∈T.take k,q.1≠d)∧Below wa.heap.size wa wr) (fun i _=>n-(intOf i).toNat)
 case atStart=>exact⟨0,Zq _,rfl,by simp,Zd _ _⟩
 obtain⟨k,hk,rfl,aw,aa⟩:=hrel;have au:=hy' aw;have ap:=hy' aa;clear aw
 by_cases hlt:k<n
 · obtain⟨r,hr⟩:∃r,T[k]?=some r:=⟨_,Zb (by rw[HN.o];exact hlt)⟩;obtain⟨b,o,a,az,hb,c0,c1,c2,ax⟩:=(ao.o.below aa).row hr;have a7:(k:Int)<n:=by omega
   have af:=Rw.At.new wr 73 [.int .i64 r.1,.int .i64 r.2.1,.slice a.1 r.2.2.length a.2];obtain⟨x0,x1,x2,_,_,_⟩:=af.three;have av:=hy' (aa.alloc aa.size (.cells #[.int .i64 r.1,.int .i64 r.2.1,.slice a.1 r.2.2.length a.2] 73));have HR:=hy' hr;subst az;clear hr ax aa af;rcases hxd:(r.1 == d) with _|_
   · have ay:=hy' (Md.no_succ HR.o au.o (by simpa using hxd));go_wp2_with fail;exact⟨⟨k+1,by omega,by go_num,ay.o,av.o⟩,by simp[intOf];omega⟩
   have ag:res=r.2.1:=by
    rw[←ah.o];unfold Md.cls;rw[Md.find_take HR.o au.o (beq_iff_eq.1 hxd)];rfl
   have ak:=hy' ag;clear ag;go_wp2_with fail;go_ret;exact⟨by rw[ak.o];rfl,ai.o.trans (av.o.mono ai.o.size)⟩
 obtain rfl:n=k:=by omega
 have ag:res=0:=by
  rw[←ah.o];unfold Md.cls;rw[zKG (by rw[HN.o];exact Za _) au.o];rfl
 have ak:=hy' ag;clear ag hlt;go_wp2_with fail;go_ret;exact⟨by rw[ak.o];rfl,ai.o.trans (ap.o.mono ai.o.size)⟩
theorem zOh (T:List Rw.Row) (c:Int):(∃a b,zA9 c=[a,b]∧Md.mp T c=[a,b])∨(∃a b t,zA9 c=[a,b,t]∧Md.mp T c=[c-(t-4519),t]∧0≤t∧t≤60000∧0≤c∧c≤60000)∨(zA9 c=[]∧Md.mp T c=zB3 T c):=by
 by_cases h4:zA2 c=4
 · have hs:=zAy c (.inl h4);refine .inl ⟨4352+(c-44032)/588,4449+(c-44032)%588/28,?_,?_⟩
   · unfold zA9;grind
   unfold Md.mp;rw[zAY c h4];simp
 by_cases h5:zA2 c=5
 · have hs:=zAy c (.inr h5);refine .inr (.inl ⟨4352+(c-44032)/588,4449+(c-44032)%588/28,4519+(c-44032)%28,?_,?_,by omega,by omega,by omega,by omega⟩)
   · unfold zA9;grind
   unfold Md.mp;rw[zBb c h5];simp;omega
 refine .inr (.inr ⟨?_,?_⟩)
 · unfold zA9;grind
 unfold Md.mp;rw[zBR c h4 h5];simp
theorem zHT {w:World} {e:TypeId} {xs:List Value}:Sl (w.alloc (.cells xs.toArray e)) (w.alloc (.cells xs.toArray e)).heap.size (some ⟨w.heap.size,0,none⟩) xs:=Sl.lit rfl e (0,0) (ZW w _)
theorem zJj (v:Value) (T:List Rw.Row) (E:List Int) (d:Int) (w:World) (bl:T.length≤1000000) (h:Md.Doc w v T E) (h3 : -2147483648≤d) (h4:d≤2147483647) :
 Calls prog 106 #[v,.int .i64 d] w (zD1 .i64 (Md.mp T d) w):=by
 obtain⟨A,c,XA,xc,rfl,h2,hX⟩:=h;obtain⟨n,hn⟩:∃k,T.length=k:=⟨_,rfl⟩;obtain⟨xn,hxn⟩:∃k,E.length=k:=⟨_,rfl⟩;rw[hn]at bl ⊢;rw[hxn];have av:=zOh T d;obtain⟨res,ak⟩:∃k,Md.mp T d=k:=⟨_,rfl⟩;rw[ak]at av ⊢;have az:Below w.heap.size w (w.alloc (.cells #[.slice A n c,.slice XA xn xc] 38)):=(Zd _ _).alloc (Za _) _;have bc:Rw.At (w.alloc (.cells #[.slice A n c,.slice XA xn xc] 38)) w.heap.size 38 [.slice A n c,.slice XA xn xc]:=Rw.At.new w 38 [.slice A n c,.slice XA xn xc];have HP:=hy' (zHH d (w.alloc (.cells #[.slice A n c,.slice XA xn xc] 38)) h3 h4);have a6:=hy' az;have ap:=hy' (h2.below az);have a8:=hy' bc;have HN:=hy' hn;have ag:=hy' av;obtain⟨sp,af⟩:∃l,zA9 d=l:=⟨_,rfl⟩;rw[af]at HP ag;clear az bc hn hxn ak h2 hX av af;unfold zB8;go_enter func106,ntmps106;go_wp2_with fail;refine HP.o.mono ?_;rintro e w1 ⟨A1,c1,rfl,bg,ar⟩;have ba:=hy' bg;have ae:=hy' (a6.o.trans (ar.mono a6.o.size));have aw:=hy' (a8.o.below ar);have ai:=hy' (ap.o.below ar);clear bg ar HP a8 ap;rcases ag.o with ⟨a,b,hs,hm⟩|⟨a,b,t,hs,hm,t0,t1,d0,d1⟩|⟨hs,hm⟩
 · subst hs hm;clear ag;go_wp2_with fail;go_ret;exact⟨A1,c1,rfl,ba.o,ae.o⟩
 · subst hs hm;obtain⟨ab,ao,hA,bp,bb⟩:=ba.o (by simp);have hc:w1.cell? ⟨ab,ao+2,none⟩=some (.int .i64 t):=by simpa using bb 2 (by simp)
   have e1:IntKind.i64.wrap (t-4519)=t-4519:=by rw[Ya];omega
   have e2:IntKind.i64.wrap (d-(t-4519))=d-(t-4519):=by rw[Ya];omega
   have bn:w1.drew.cell? ⟨ab,ao+2,none⟩=some (.int .i64 t):=hc;subst hA;clear ag bb;go_wp2_with fail;go_region
   all_goals
    go_wp2_with fail;go_ret;have bi:Below w1.heap.size w1 (w1.alloc (.cells #[.int .i64 (d-(t-4519)),.int .i64 t] 3)).drew:=((Zd _ _).alloc (Za _) _).drew;exact⟨_,_,rfl,(zHT (w:=w1) (e:=3) (xs:=[.int .i64 (d-(t-4519)),.int .i64 t])),ae.o.trans (bi.mono ae.o.size)⟩
 subst hs hm;clear ag;have aj:=aw.o;have z0:=aj.cell 0 rfl;clear aj;go_wp2_with fail;go_loopw [30] (fun i wr=>∃k:Nat,k≤n∧i=.int .i64 k∧(∀q∈T.take k,q.1≠d)∧Below w1.heap.size w1 wr) (fun i _=>n-(intOf i).toNat)
 case atStart=>exact⟨0,Zq _,rfl,by simp,Zd _ _⟩
 obtain⟨k,hk,rfl,bh,aa⟩:=hrel;have ax:=hy' bh;have au:=hy' aa;clear bh
 by_cases hlt:k<n
 · obtain⟨r,hr⟩:∃r,T[k]?=some r:=⟨_,Zb (by rw[HN.o];exact hlt)⟩;obtain⟨b,o,a,bk,hb,c0,c1,c2,a7⟩:=(ai.o.below aa).row hr;have bo:(k:Int)<n:=by omega
   have ah:=Rw.At.new wr 73 [.int .i64 r.1,.int .i64 r.2.1,.slice a.1 r.2.2.length a.2];obtain⟨x0,x1,x2,_,_,_⟩:=ah.three;have a1:Below wr.heap.size wr (wr.alloc (.cells #[.int .i64 r.1,.int .i64 r.2.1,.slice a.1 r.2.2.length a.2] 73)):=(Zd _ _).alloc (Za _) _;have bm:=hy' (a7.below a1 a1.size);have bf:=hy' (aa.alloc aa.size (.cells #[.int .i64 r.1,.int .i64 r.2.1,.slice a.1 r.2.2.length a.2] 73));have HR:=hy' hr;subst bk;clear hr a7 aa ah a1;rcases hxd:(r.1 == d) with _|_
   · have bj:=hy' (Md.no_succ HR.o ax.o (by simpa using hxd));go_wp2_with fail;exact⟨⟨k+1,by omega,by go_num,bj.o,bf.o⟩,by simp[intOf];omega⟩
   have aq:zB3 T d=r.2.2:=by
    unfold zB3;rw[Md.find_take HR.o ax.o (beq_iff_eq.1 hxd)];rfl
   have ay:=hy' aq;clear aq;go_wp2_with fail;go_ret;rw[ay.o];exact⟨a.1,a.2,rfl,bm.o,ae.o.trans (bf.o.mono ae.o.size)⟩
 obtain rfl:n=k:=by omega
 have aq:zB3 T d=[]:=by
  unfold zB3;rw[zKG (by rw[HN.o];exact Za _) ax.o];rfl
 have ay:=hy' aq;clear aq hlt;go_wp2_with fail;go_ret;rw[ay.o];exact⟨none,0,rfl,Sl.nil _ _ _,ae.o.trans (au.o.mono ae.o.size)⟩
def zKH (l:List Int) (b:Bool) (w:World) (e:Ending) (w':World):Prop :=
 ∃A c,e=.returned (.tuple #[.slice A l.length c,.bool b])∧Sl w' w'.heap.size A (l.map (Value.int .i64))∧Below w.heap.size w w'
theorem zMQ {mp:Int→List Int} {L:List Int} {k:Nat} {x:Int} (h:L[k]?=some x):Md.step mp (L.take (k+1))=Md.step mp (L.take k)++Md.one mp x:=by
 unfold Md.step;rw[Zy,h];simp
theorem zLs {mp:Int→List Int} {L:List Int} {k:Nat} {x:Int} (h:L[k]?=some x):Md.plain mp (L.take (k+1))=(Md.plain mp (L.take k)&&(mp x).isEmpty):=by
 unfold Md.plain;rw[Zy,h];simp
theorem Md.step_len {mp:Int→List Int} (h:∀c,(mp c).length≤1000) (L:List Int):(Md.step mp L).length≤1000*L.length:=by
 induction L with
 | nil=>simp[Md.step]
 | cons x l ih =>
   have:(Md.one mp x).length≤1000:=by
    unfold Md.one;split
    · simp
    exact h x
   unfold Md.step at ih ⊢;rw[Xu,Zc,ZB];omega
theorem Md.step_bd {mp:Int→List Int} (h:∀c,∀d∈mp c,-2147483648≤d∧d≤2147483647) {L:List Int} (hL:∀c∈L,-2147483648≤c∧c≤2147483647):∀c∈Md.step mp L,-2147483648≤c∧c≤2147483647:=by
 intro c hc;unfold Md.step at hc;obtain⟨x,hx,aa⟩:=List.mem_flatMap.1 hc;unfold Md.one at aa;split at aa
 · simp at aa;subst aa;exact hL c hx
 exact h x c aa
theorem zDA (w:World) (e:TypeId) (hs:0<1):(w.alloc (.cells #[] e)).ownsRow w.heap.size e 1 (.slice (some ⟨w.heap.size,0,none⟩) 0 0) 0 [] :=
 ⟨rfl,.inr ⟨w.heap.size,0,#[],rfl,Za _,ZW w _,Za _,by decide,rfl,rfl⟩⟩
theorem zMR (v:Value) (T:List Rw.Row) (E:List Int) (A:Option Addr) (n c:Nat) (L:List Int) (w:World) (b9:T.length≤1000000) (h:Md.Doc w v T E) (a8:∀c,(Md.mp T c).length≤1000) (hn:L.length=n) (cd:n≤1000) (hL:∀c∈L,-2147483648≤c∧c≤2147483647) (hA:Sl w w.heap.size A (L.map (Value.int .i64))) :
 Calls prog 69 #[v,.slice A n c] w (zKH (Md.step (Md.mp T) L) (!Md.plain (Md.mp T) L) w):=by
 obtain⟨i0,br,bu,bt,bm⟩:=Z9 zG1;have HM:Hy (∀(d:Int) (W:World),Below w.heap.size w W → -2147483648≤d→d≤2147483647→Calls prog 106 #[v,.int .i64 d] W (zD1 .i64 (Md.mp T d) W)):=hy' fun d W hW a b=>zJj v T E d W b9 (h.below hW) a b
 obtain⟨AT,cT,XA,xc,rfl,h2,hX⟩:=h;obtain⟨tn,bz⟩:∃k,T.length=k:=⟨_,rfl⟩;obtain⟨xn,hxn⟩:∃k,E.length=k:=⟨_,rfl⟩;rw[bz,hxn]at HM ⊢
 have hlen:∀k,k≤n→(Md.step (Md.mp T) (L.take k)).length≤1000*k:=fun k hk=>by
  have:=Md.step_len a8 (L.take k);rw[Zn,hn]at this;omega
 have bi:=hy' hlen;have cc:=hy' a8;have HN:=hy' hn;have HL:=hy' hL;obtain⟨res,ak⟩:∃r,Md.step (Md.mp T) L=r:=⟨_,rfl⟩;obtain⟨rb,ba⟩:∃r,Md.plain (Md.mp T) L=r:=⟨_,rfl⟩;rw[ak,ba];have bc:=hy' ak;have b6:=hy' ba;obtain⟨wa,ax⟩:∃wa,(w.alloc (.cells #[.slice AT tn cT,.slice XA xn xc] 38)).alloc (.cells #[] 3)=wa:=⟨_,rfl⟩;have bh:Below w.heap.size w wa:=by rw[←ax];exact ((Zd _ _).alloc (Za _) _).alloc (by simp) _
 have az:Rw.At wa w.heap.size 38 [.slice AT tn cT,.slice XA xn xc]:=by
  rw[←ax];exact (Rw.At.new w 38 [.slice AT tn cT,.slice XA xn xc]).alloc _
 have aj:wa.ownsRow (w.heap.size+1) 3 1 (.slice (some ⟨w.heap.size+1,0,none⟩) 0 0) 0 []:=by
  have:=zDA (w.alloc (.cells #[.slice AT tn cT,.slice XA xn xc] 38)) 3 (by decide);rw[ZD]at this;rw[←ax];exact this
 have bk:=hy' bh;have HA:=hy' (hA.below bh (Za _));have b5:w.heap.size+1≤wa.heap.size:=az.lt;have cb:=hy' ax;clear hlen a8 hn hL ak ba bz hxn ax bh hA h2 hX;unfold zB8 at *;go_enter func69,ntmps69;go_upto_region 2 with (fail)
 rw[cb.o];go_wp2_with fail;go_loopw [6,7,14] (fun v6 v7 i wr=>∃(k:Nat) (v:Value),k≤n∧i=.int .i64 k∧v6=v∧v7=.bool (!Md.plain (Md.mp T) (L.take k))∧Rw.At wr w.heap.size 38 [.slice AT tn cT,.slice XA xn xc]∧wr.ownsRow (w.heap.size+1) 3 1 v (Md.step (Md.mp T) (L.take k)).length ((Md.step (Md.mp T) (L.take k)).map (Value.int .i64))∧Below (w.heap.size+1) wa wr) (fun _ _ i _=>n-(intOf i).toNat)
 case atStart=>exact⟨0,_,Zq _,rfl,rfl,rfl,az,aj,Zd _ _⟩
 obtain⟨k,v,hk,rfl,rfl,rfl,af,aa,ae⟩:=hrel;have bo:w.heap.size+1≤wr.heap.size:=af.lt;have bn:=bi.o k hk
 by_cases hlt:k<n
 · obtain⟨x,hx⟩:∃x,L[k]?=some x:=⟨_,Zb (by rw[HN.o];exact hlt)⟩;have hxb:=HL.o x (Zj hx);obtain⟨ab,ao,hA2,ch,bs⟩:=HA.o (by rw[Ze,HN.o];omega);have hc:=bs k (by rw[Ze,HN.o];exact hlt);rw[Zt,hx,Zw,←(zAU ae).1 _ _ (by omega)]at hc;have hM:=HM.o x wr (bk.o.trans (ae.mono (ZZ _))) hxb.1 hxb.2;have ay:=zMQ (mp:=Md.mp T) hx;have a6:=zLs (mp:=Md.mp T) hx;have bp:=cc.o x;unfold Md.one at ay;obtain⟨S,hS⟩:∃S,Md.step (Md.mp T) (L.take k)=S:=⟨_,rfl⟩;obtain⟨p,hp⟩:∃p,Md.plain (Md.mp T) (L.take k)=p:=⟨_,rfl⟩;obtain⟨m,hm⟩:∃m,Md.mp T x=m:=⟨_,rfl⟩;obtain⟨sl,a7⟩:∃sl,S.length=sl:=⟨_,rfl⟩;rw[hS,hm]at ay;rw[hp,hm]at a6;rw[hS]at aa bn;rw[hm]at hM bp;rw[a7]at aa bn;rw[hp];have kI:(k:Int)<n:=by omega
   have k0:(0:Int)≤k:=by omega
   have z0:=af.cell 0 rfl;have z1:=af.cell 1 rfl;have bq:=hy' ay;have bl:=hy' a6;have aw:=hy' aa;have bf:=hy' af;have a1:=hy' ae;have b2:=hy' a7;subst hA2;clear az aj hx bs ay a6 hS hp hm a7 aa af ae;go_wp2_with fail;refine hM.mono ?_;rintro e w1 ⟨A1,c1,rfl,b1,ar⟩;have ah:=zA6 aw.o ar (Za _);have av:=bf.o.below ar;have bb:=ar.size;have ai:=hy' ah;have au:=hy' av;have b4:=hy' b1;have bj:=hy' (a1.o.trans (ar.mono bo));have bw:w.heap.size+1≤w1.heap.size:=Zh bo bb;clear ah av b1 ar hM z0 z1 hc;rcases m with _|⟨m0,mr⟩
   · go_wp2_with (first|(at_builtin;refine zAg _ rfl _ _ _ rfl (w.heap.size+1) 3 i0 _ 8 underlying36 br bu bt bm rfl _ sl _ rfl ai.o _ rfl rfl (by simp only[maxLen];omega) (by omega) bw ?_;intro v1 w4 ag aq)|fail);refine⟨⟨k+1,v1,by omega,by go_num,rfl,by rw[bl.o];simp,au.o.below' aq (ZM _),?_,bj.o.trans aq⟩,by simp[intOf];omega⟩;rw[bq.o,Zl trivial,Zc,b2.o,ZL];exact ag
   have ap:((m0::mr).map (Value.int .i64)).length=(m0::mr).length*1:=by simp
   obtain⟨q,hq⟩:∃q,(m0::mr).length=q:=⟨_,rfl⟩;have b7:¬q=0:=by rw[←hq];simp
   have cf:((q:Int) == 0)=false:=by simp;omega
   rw[hq]at bp ap ⊢;have HQ:=hy' hq;have bx:∀u∈(m0::mr).map (Value.int .i64),u.oneCell'=true:=zFq .i64 _;have b8:=hy' bx;have bg:=hy' ap;clear hq b7 bx ap;go_wp2_with (first|(at_builtin;refine zAh _ rfl _ _ _ rfl (w.heap.size+1) 3 i0 _ 1 8 underlying36 br bu bt bm rfl (by omega) _ sl _ rfl ai.o _ A1 q c1 ((m0::mr).map (Value.int .i64)) rfl bg.o b4.o b8.o (by simp only[maxLen];omega) (by omega) bw ?_;intro v1 w4 ag aq cg)|fail);refine⟨⟨k+1,v1,by omega,by go_num,rfl,by rw[bl.o];simp,au.o.below' aq (ZM _),?_,bj.o.trans aq⟩,by simp[intOf];omega⟩;rw[bq.o,Zk (by simp),Zc,b2.o,ZL,HQ.o];exact ag
 obtain rfl:n=k:=by omega
 rw[Zi (by rw[HN.o];exact Za _),bc.o]at aa;rw[Zi (by rw[HN.o];exact Za _),b6.o];obtain⟨A4,c4,rfl⟩:=zA3 aa;have HS:=hy' (Sl.of_own aa);have b3:=hy' (bk.o.trans (ae.mono (ZZ _)));clear aa ae af az aj hlt;go_wp2_with fail;go_ret2;exact⟨A4,c4,rfl,HS.o,b3.o⟩
def zFz (o:Option (List Int)) (w:World) (e:Ending) (w':World):Prop :=
 ∃A c,e=.returned (.tuple #[.slice A (o.getD []).length c,.bool o.isSome])∧Sl w' w'.heap.size A ((o.getD []).map (Value.int .i64))∧Below w.heap.size w w'
theorem zMS {T:List Rw.Row} (h:∀r∈T,r.2.2.length≤1000) (c:Int):(Md.mp T c).length≤1000:=by
 unfold Md.mp zB3;split
 · simp
 cases hf:Md.find T c with
 | none=>decide
 | some r=>exact h r (zAx hf).1
theorem zHU (v:Value) (T:List Rw.Row) (E:List Int) (d:Int) (w:World) (bu:T.length≤100000) (h:Md.Doc w v T E) (hbd:Md.bd T) (bf:∀r∈T,r.2.2.length≤1000) (h3 : -2147483648≤d) (h4:d≤2147483647) :
 Calls prog 35 #[v,.int .i64 d] w (zFz (Md.full T d) w):=by
 have bb:=zMS bf;have hmb:=zIz hbd;have ar:zEe (Md.mp T) (T.length+4) [d]=Md.full T d:=zPx (Md.mp T) (T.length+3) d
 have HS:Hy (∀(A:Option Addr) (c:Nat) (L:List Int) (W:World),Below w.heap.size w W→L.length≤32→(∀c∈L,-2147483648≤c∧c≤2147483647)→Sl W W.heap.size A (L.map (Value.int .i64)) →
  Calls prog 69 #[v,.slice A L.length c] W (zKH (Md.step (Md.mp T) L) (!Md.plain (Md.mp T) L) W)):=hy' fun A c L W hW hl hb hs=>zMR v T E A L.length c L W (by omega) (h.below hW) bb rfl (by omega) hb hs
 obtain⟨AT,cT,XA,xc,rfl,h2,hX⟩:=h;obtain⟨tn,a1⟩:∃k,T.length=k:=⟨_,rfl⟩;obtain⟨xn,hxn⟩:∃k,E.length=k:=⟨_,rfl⟩;rw[a1]at bu ar;rw[a1,hxn]at HS ⊢;obtain⟨o,ho⟩:∃o,Md.full T d=o:=⟨_,rfl⟩;rw[ho]at ar ⊢;obtain⟨wa,ap⟩:∃wa,(w.alloc (.cells #[.slice AT tn cT,.slice XA xn xc] 38)).alloc (.cells #[.int .i64 d] 3)=wa:=⟨_,rfl⟩;have bh:Below w.heap.size w wa:=by rw[←ap];exact ((Zd _ _).alloc (Za _) _).alloc (by simp) _
 have bk:Rw.At wa w.heap.size 38 [.slice AT tn cT,.slice XA xn xc]:=by
  rw[←ap];exact (Rw.At.new w 38 [.slice AT tn cT,.slice XA xn xc]).alloc _
 have ba:Sl wa wa.heap.size (some ⟨w.heap.size+1,0,none⟩) ([d].map (Value.int .i64)):=by
  have:=zHT (w:=w.alloc (.cells #[.slice AT tn cT,.slice XA xn xc] 38)) (e:=3) (xs:=[.int .i64 d]);simp only[ZD]at this;rw[←ap];simp only[ZD];exact this
 have ag:=hy' bh;have bx:=hy' ap;have bp:=hy' bk;have bo:=hy' hmb;have bn:=hy' ar;have b1:=hy' ba;clear bb hmb ar a1 hxn ho ap bh bk ba h2 hX hbd bf;unfold zB8 at *;go_enter func35,ntmps35;go_upto_region 2 with (fail)
 rw[bx.o];go_wp2_with fail;go_loopw [6,7] (fun v6 i wr=>∃(k:Nat) (A:Option Addr) (c:Nat) (L:List Int),k≤tn+4∧i=.int .i64 k∧v6=.slice A L.length c∧Sl wr wr.heap.size A (L.map (Value.int .i64))∧L.length≤32∧(∀c∈L,-2147483648≤c∧c≤2147483647)∧zEe (Md.mp T) (tn+4-k) L=o∧Below wa.heap.size wa wr) (fun _ i _=>tn+4-(intOf i).toNat)
 case atStart=>exact⟨0,some ⟨w.heap.size+1,0,none⟩,1,[d],Zq _,rfl,rfl,b1.o,by simp,by simp;omega,bn.o,Zd _ _⟩
 obtain⟨k,A,c,L,hk,rfl,rfl,hs,hl,hb,ak,aa⟩:=hrel;have af:=bp.o.below aa;have z0:=af.cell 0 rfl;have z1:=af.cell 1 rfl;have aj:=hy' aa;have ao:=hy' ak;have hS:=HS.o A c L wr (ag.o.trans (aa.mono ag.o.size)) hl hb hs;have br:=hy' hs;have HB:=hy' hb;have e1:IntKind.i64.wrap ((tn:Int)+3)=(tn:Int)+3:=by rw[Ya];omega
 by_cases hlt:k<tn+4
 · obtain⟨q,hq⟩:∃q,tn+4-k=q+1:=⟨tn+4-k-1,by omega⟩;have av:=ao.o;rw[hq,zEe]at av;have bc:tn+4-(k+1)=q:=by omega
   have ay:=Md.step_bd bo.o HB.o;obtain⟨nx,ai⟩:∃nx,Md.step (Md.mp T) L=nx:=⟨_,rfl⟩;obtain⟨pl,a8⟩:∃pl,Md.plain (Md.mp T) L=pl:=⟨_,rfl⟩;rw[ai,a8]at av hS;rw[ai]at ay;have bi:=hy' av;have bt:=hy' bc;have bm:=hy' ay;have bz:(k:Int)≤(tn:Int)+3:=by omega
   have bw:decide ((k:Int)≤(tn:Int)+3)=true:=Zs bz;clear hs hb ak aa af av bc hq ai a8 ay;go_wp2_with fail;refine hS.mono ?_;rintro e w1 ⟨A1,c1,rfl,bl,au⟩;have ax:=hy' (aj.o.trans (au.mono aj.o.size));have aq:=br.o.below au au.size;have az:=hy' aq;have bq:=hy' bl;clear bl au hS z0 z1 aq;cases pl
   · obtain⟨nl,aw⟩:∃nl,nx.length=nl:=⟨_,rfl⟩;have a7:=hy' aw;have a6:=bi.o;rw[Zk (by decide),aw]at a6;rw[aw];have bj:=hy' a6;clear aw a6
     by_cases hbig:32<nl
     · have ae:o=none:=by rw[←bj.o,Zl hbig]
       have bs:decide ((32:Int)<nl)=true:=Zs (by omega);have ah:=hy' ae;clear ae;go_wp2_with fail;go_ret2;rw[ah.o];exact⟨none,0,rfl,Sl.nil _ _ _,ag.o.trans (ax.o.mono ag.o.size)⟩
     have ae:zEe (Md.mp T) q nx=o:=by rw[←bj.o,Zk hbig]
     have bs:decide ((32:Int)<nl)=false:=Zp (by omega);have ah:=hy' ae;clear ae;go_wp2_with fail;exact⟨⟨k+1,A1,c1,nx,by omega,by go_num,by rw[a7.o],bq.o,by rw[a7.o];omega,bm.o,by rw[bt.o];exact ah.o,ax.o⟩,by simp[intOf];omega⟩
   have ae:o=some L:=by rw[←bi.o,Zl rfl]
   have ah:=hy' ae;clear ae;go_wp2_with fail;go_ret2;rw[ah.o];exact⟨A,c,rfl,az.o,ag.o.trans (ax.o.mono ag.o.size)⟩
 have bg:k=tn+4:=by omega
 have ae:o=none:=by
  rw[←ao.o,bg,Yu];rfl
 have ah:=hy' ae;have bw:decide ((k:Int)≤(tn:Int)+3)=false:=Zp (by omega);clear ae bg hs hb ak aa af hS;go_wp2_with fail;go_ret2;rw[ah.o];exact⟨none,0,rfl,Sl.nil _ _ _,ag.o.trans (aj.o.mono ag.o.size)⟩
def Nf.At (w:World) (g sz:Nat) (Z:List Int):Prop:=∃R:List Value,Z.length+R.length=sz∧Rw.At w g 3 (Z.map (Value.int .i64)++R)
theorem Nf.At.cell {w:World} {g sz:Nat} {Z:List Int} (h:Nf.At w g sz Z) {i:Nat} {x:Int} (hx:Z[i]?=some x):w.cell? ⟨g,i,none⟩=some (.int .i64 x):=by
 obtain⟨R,hs,h⟩:=h;refine Rw.At.cell h i ?_;rw[Z1 (by rw[Ze];exact (List.getElem?_eq_some_iff.1 hx).1),Zt,hx];rfl
theorem Nf.At.fro {w:World} {g sz:Nat} {Z:List Int} (h:Nf.At w g sz Z) (i:Nat):w.frozen? ⟨g,i,none⟩=false:=by
 obtain⟨R,hs,h⟩:=h;exact Rw.At.frozen h i
theorem Nf.At.lt {w:World} {g sz:Nat} {Z:List Int} (h:Nf.At w g sz Z):g<w.heap.size:=by
 obtain⟨R,hs,h⟩:=h;exact Rw.At.lt h
theorem Nf.At.set {w:World} {g sz:Nat} {Z:List Int} (h:Nf.At w g sz Z) (i:Nat) (hi:i<Z.length) (x:Int):Nf.At (w.setCell ⟨g,i,none⟩ (.int .i64 x)) g sz (Z.set i x):=by
 obtain⟨R,hs,h⟩:=h;refine⟨R,by rw[YF];exact hs,?_⟩;rw[QH,←JD _ _ (by rw[Ze];exact hi)];exact Rw.At.set h i _
theorem Nf.At.swap {w:World} {g sz:Nat} {P Q:List Int} {x y:Int} (h:Nf.At w g sz (P++x::y::Q)):Nf.At ((w.setCell ⟨g,P.length,none⟩ (.int .i64 y)).setCell ⟨g,P.length+1,none⟩ (.int .i64 x)) g sz (P++y::x::Q):=by
 have:=(h.set P.length (by simp) y).set (P.length+1) (by simp) x;have e:=zLi P [] Q x y;simp only[ZV,ZY,YQ]at e;rw[e]at this;exact this
theorem Nf.At.below {w w':World} {g sz:Nat} {Z:List Int} (h:Nf.At w g sz Z) (hb:Below w.heap.size w w'):Nf.At w' g sz Z:=by
 obtain⟨R,hs,h⟩:=h;exact⟨R,hs,Rw.At.below h hb⟩
theorem Nf.At.of_own {w:World} {base g n cap:Nat} {l:List Int} (hl:l.length=n) (h:w.ownsRow base 3 1 (.slice (some ⟨g,0,none⟩) n cap) n (l.map (Value.int .i64))):Nf.At w g cap l∧base≤g∧n≤cap∧cap≤maxLen:=by
 rcases h.2 with ⟨hv,_⟩|⟨g',ae,aa,hv,hg,hb,h1,h2,h3,h4⟩
 · cases hv
 simp only[ZX,Zg,YH,Yl,Qc]at hv;obtain⟨rfl,rfl⟩:=hv;refine⟨⟨aa.toList.drop n,?_,?_⟩,hg,h1,h2⟩
 · have e:aa.toList.length=aa.size:=Xk;rw[ZH,e,h3,hl];omega
 unfold Rw.At;rw[Y0]at h4;rw[←h4,Zu];simpa using hb
theorem Nf.At.own {w:World} {base g n cap:Nat} {Z:List Int} (h:Nf.At w g cap Z) (hl:Z.length=n) (hb:base≤g) (hc:n≤cap) (hm:cap≤maxLen):w.ownsRow base 3 1 (.slice (some ⟨g,0,none⟩) n cap) n (Z.map (Value.int .i64)):=by
 obtain⟨R,hs,ha⟩:=h;refine⟨by rw[Ze,hl,Y0],.inr ⟨g,cap,_,rfl,hb,ha,hc,hm,?_,?_⟩⟩
 · simp;omega
 rw[Y0];simp[hl]
def zBS (l:List Int) (w:World) (e:Ending) (w':World):Prop :=
 ∃A c,e=.returned (.slice A l.length c)∧w'.ownsRow w.heap.size 3 1 (.slice A l.length c) l.length (l.map (Value.int .i64))∧Below w.heap.size w w'
theorem Nf.go_len (f:Int→Int):∀(R:List Int) (x:Int),(zBU f x R).length=R.length+1
 | [],x=>rfl
 | y::R,x=>by
   unfold zBU;split <;> simp[Nf.go_len f R]
theorem zOi (f:Int→Int):∀(n:Nat) (l:List Int),(zBx f n l).length=l.length:=fun n l=>(zC2 f n l).length
theorem zQ8 (v:Value) (T:List Rw.Row) (E:List Int) (A:Option Addr) (n c:Nat) (l:List Int) (w:World) (cn:T.length≤1000000) (h:Md.Doc w v T E) (hl:l.length=n) (hn:n≤100000) (hA:Sl w w.heap.size A (l.map (Value.int .i64))) :
 Calls prog 36 #[v,.slice A n c] w (zBS (Or.of (Md.cls T) l) w):=by
 obtain⟨i0,c7,df,du,cu⟩:=Z9 zG1;have hd:=h;obtain⟨AT,cT,XA,xc,rfl,_⟩:=hd;obtain⟨tn,cd⟩:∃k,T.length=k:=⟨_,rfl⟩;obtain⟨xn,hxn⟩:∃k,E.length=k:=⟨_,rfl⟩;rw[cd,hxn]at h ⊢;have av:∀d W,Below w.heap.size w W→Calls prog 70 #[zB8 AT tn cT XA xn xc,.int .i64 d] W fun e w'=>e=.returned (.int .i64 (Md.cls T d))∧Below W.heap.size W w':=fun d W hW=>zGf _ T E d W cn (h.below hW)
 obtain⟨f,hf⟩:∃f,Md.cls T=f:=⟨_,rfl⟩;rw[hf]at av ⊢;unfold zB8 at *;obtain⟨wa,bb⟩:∃wa,(w.alloc (.cells #[.slice AT tn cT,.slice XA xn xc] 38)).alloc (.cells #[] 3)=wa:=⟨_,rfl⟩;have bw:Below w.heap.size w wa:=by rw[←bb];exact ((Zd _ _).alloc (Za _) _).alloc (by simp) _
 have b5:Rw.At wa w.heap.size 38 [.slice AT tn cT,.slice XA xn xc]:=by
  rw[←bb];exact (Rw.At.new w 38 [.slice AT tn cT,.slice XA xn xc]).alloc _
 have a7:wa.ownsRow (w.heap.size+1) 3 1 (.slice (some ⟨w.heap.size+1,0,none⟩) 0 0) 0 []:=by
  have:=zDA (w.alloc (.cells #[.slice AT tn cT,.slice XA xn xc] 38)) 3 (by decide);rw[ZD]at this;rw[←bb];exact this
 have di:w.heap.size+1≤wa.heap.size:=b5.lt;have dm:=hy' bb;have ct:=hy' bw;have dr:=hy' b5;have bz:=hy' a7;have HL:=hy' hl;have cp:=hy' (hA.below bw (Za _));have a1:=hy' av;have ck:(l.map (Value.int .i64)).length=n*1:=by rw[Ze,hl];omega
 have cb:∀u∈l.map (Value.int .i64),u.oneCell'=true:=zFq .i64 _;have dh:=hy' cb;have dl:=hy' ck;clear bb bw b5 a7 hl hA av h cd hxn cn hf ck cb;go_enter func36,ntmps36;go_wp2_with (first|(at_builtin;(rw[dm.o]);refine zAh _ rfl _ _ _ rfl (w.heap.size+1) 3 i0 _ 1 8 underlying36 c7 df du cu rfl (by omega) _ 0 _ rfl bz.o _ A n c (l.map (Value.int .i64)) rfl dl.o cp.o dh.o (by simp only[maxLen];omega) (by omega) di ?_;intro v1 w1 aa bo ah;have ar:=hy' aa;have bn:=hy' (ct.o.trans (bo.mono (ZZ _)));have bj:=hy' (dr.o.below' bo (ZM _));clear aa bo ah)|fail);rw[ZV,Z4]at ar;have aa:=ar.o;rcases aa.2 with ⟨hv,h0⟩|⟨g,cap,eb,hv,hg,dp,k1,k2,k3,k4⟩
 · subst hv;obtain rfl:n=0:=h0;have cy:l=[]:=ZK HL.o;subst cy;clear aa;go_loopw [6,7,8,9] (fun vi _ _ _ wr=>vi=.int .i64 0∧wr=w1) (fun _ _ _ _ _=>0)
   case round =>
    obtain⟨rfl,c8⟩:=hrel;subst c8;go_wp2_with fail;go_ret;exact⟨none,0,rfl,ZG _ _ _ _,bn.o⟩
   exact⟨rfl,rfl⟩
 subst hv;obtain⟨cg,cw,ch,cc⟩:=Nf.At.of_own HL.o aa;have cf:∀W,w1.grownBy W (some g)→Below w.heap.size w W:=fun W hW=>bn.o.grown hW bn.o.size (by intro k hk;simp only[Zg]at hk;omega)
 have a6:∀W,w1.grownBy W (some g)→W.cell? ⟨w.heap.size,0,none⟩=some (.slice AT tn cT)∧W.cell? ⟨w.heap.size,1,none⟩=some (.slice XA xn xc)∧w.heap.size<W.heap.size:=fun W hW=>by
  have:=bj.o.grown hW (by simp only[QE,Zg];omega);exact⟨this.cell 0 rfl,this.cell 1 rfl,this.lt⟩
 have b4:=hy' cf;have a8:=hy' a6;have bx:=hy' cg;have bs:Hy (w.heap.size≤g∧n≤cap∧cap≤maxLen):=hy' ⟨by omega,ch,cc⟩;have cr:=hy' (zOi f);clear aa dp k1 k2 k3 k4 cf a6 cg cw ch cc hg;go_loopw [6,7,8,9] (fun vi _ _ _ wr=>∃(t:Nat) (Z:List Int),t≤n∧vi=.int .i64 t∧Z.length=n∧zBx f (n-t) Z=Or.of f l∧Nf.At wr g cap Z∧w1.grownBy wr (some g)) (fun vi _ _ _ _=>n-(intOf vi).toNat)
 case atStart=>exact⟨0,l,Zq _,rfl,HL.o,by rw[Ji,←HL.o];rfl,bx.o,zAT _ _⟩
 obtain⟨t,Z,ht,rfl,ay,hit,ai,bg⟩:=hrel
 by_cases hlt:t<n
 rotate_left
 · obtain rfl:t=n:=by omega
   have tI:¬(t:Int)<t:=by omega
   rw[Yu]at hit;have hZ:Z=Or.of f l:=hit;subst hZ;have ao:=ai.own (n:=t) (base:=w.heap.size) ay bs.o.1 bs.o.2.1 bs.o.2.2;have HO:=hy' ao;have dw:=hy' (b4.o wr bg);have cx:=hy' ay;clear hit ai ao bg ay;go_wp2_with fail;go_ret;unfold zBS;rw[cx.o];exact⟨_,_,rfl,HO.o,dw.o⟩
 have tI:(t:Int)<n:=by omega
 obtain⟨x0,R0,rfl⟩:∃x R,Z=x::R:=by
  cases Z with
  | nil=>simp at ay;omega
  | cons x R=>exact⟨x,R,rfl⟩
 have cq:=hy' hit;have dn:=hy' ay;have bt:=hy' ai;have dk:=hy' bg;clear hit ay ai bg;go_wp2_with fail;obtain⟨wo,rfl⟩:∃wo:World,wo=wr:=⟨_,rfl⟩;go_loopw [7,8,9] (fun vi _ _ wr=>∃(i:Nat) (P:List Int) (x:Int) (R:List Int),1≤i∧i≤n∧vi=.int .i64 i∧P.length+1=i∧P.length+1+R.length=n∧P++zBU f x R=zC1 f (x0::R0)∧Nf.At wr g cap (P++x::R)∧w1.grownBy wr (some g)) (fun vi _ _ _=>n-(intOf vi).toNat)
 case atStart=>exact⟨1,[],x0,R0,Za _,by omega,rfl,rfl,by have:=dn.o;simp at this ⊢;omega,rfl,bt.o,dk.o⟩
 obtain⟨i,P,x,R,dx,dy,rfl,bc,bh,af,ae,aw⟩:=hrel
 by_cases hie:i<n
 rotate_left
 · obtain rfl:i=n:=by omega
   have iI:¬(i:Int)<i:=by omega
   obtain rfl:R=[]:=ZK (by omega);have b6:P++[x]=zC1 f (x0::R0):=af;have b8:(P++[x]).length=i:=by simp;omega
   have az:zBx f (i-(t+1)) (P++[x])=Or.of f l:=by
    have h:=cq.o;rw[show i-t=i-(t+1)+1 by omega]at h;rw[b6];exact h
   have H1:=hy' b8;have H2:=hy' az;have H3:=hy' ae;have H4:=hy' aw;clear b6 b8 az ae aw af bc bh;go_wp2_with fail;exact⟨⟨t+1,P++[x],by omega,by first|rfl|go_num,H1.o,H2.o,H3.o,H4.o⟩,by simp[intOf];omega⟩
 have iI:(i:Int)<n:=by omega
 obtain⟨y,R,rfl⟩:∃y R',R=y::R':=by
  cases R with
  | nil=>simp at bh;omega
  | cons y R'=>exact⟨y,R',rfl⟩
 have c1:=ae.cell (zC7 _ _ _);have c2:=ae.cell (zBw P [] R x y);rw[ZY,YQ,bc]at c2;have ak:P.length=i-1:=by omega
 rw[ak]at c1;have f1:=ae.fro (i-1);have f2:=ae.fro i;have gl:=ae.lt;have aq:=ae.swap;rw[bc,ak]at aq;obtain⟨b1,b2,b3⟩:=a8.o wr aw;have bq:=Ext.cells b1 b3;have bl:=Ext.cells b2 b3;have dt:=Ext.cells c1 gl;have xc2:=Ext.cells c2 gl;obtain⟨u,hu⟩:∃u,f x=u:=⟨_,rfl⟩;obtain⟨q,hq⟩:∃q,f y=q:=⟨_,rfl⟩
 have C1:=hy' (Ext.call (w:=wr) fun W hW=>by
  have:=a1.o x W (b4.o W (zA0 aw (Ss.grown_below hW)));rw[hu]at this;exact this)
 have C2:=hy' (fun (wq:World) (dv:w1.grownBy wq (some g))=>Ext.call (w:=wq) fun W hW=>by
  have:=a1.o y W (b4.o W (zA0 dv (Ss.grown_below hW)));rw[hq]at this;exact this)
 have HU:=hy' hu;have HQ:=hy' hq;have ap:=hy' af;have au:=hy' bc;have bp:=hy' bh;have bm:=hy' ae;have cz:=hy' aw;have j0:(0:Int)≤(i:Int)-1:=by omega
 have j1:(i:Int)-1<n:=by omega
 have jt:((i:Int)-1).toNat=i-1:=by omega
 clear hu hq af bc bh ae aw aq ak;go_wp2_with fail;refine zAa (by kernel_rfl) (by kernel_rfl) ?_
 repeat (go_big_quiet_step ((go_at_call 70;with_reducible exact C1.o _)))
 refine wpQuiet_nil ?_;intro xw;obtain⟨wx,cm⟩:∃wx,xw.val=wx:=⟨_,rfl⟩;have aj:=xw.below;rw[cm]at aj ⊢;have ah:=zA0 cz.o (Ss.grown_below (row:=some g) aj);have ag:=bm.o.below aj;clear bq bl dt xc2 b1 b2 b3 c1 c2 f1 f2 gl cm xw aj;have c2:=ag.cell (zBw P [] R x y);rw[ZY,YQ,au.o]at c2;have gl:=ag.lt;obtain⟨b1,b2,b3⟩:=a8.o wx ah;have bq:=Ext.cells b1 b3;have bl:=Ext.cells b2 b3;have xc2:=Ext.cells c2 gl;have C3:=hy' (C2.o wx ah);have cv:=hy' ag;have c6:=hy' ah;have ec:(0:Int)≤(i:Int):=by omega
 clear ag ah;go_wp2_with fail;refine zAa (by kernel_rfl) (by kernel_rfl) ?_
 repeat (go_big_quiet_step ((go_at_call 70;with_reducible exact C3.o _)))
 refine wpQuiet_nil ?_;intro xw;obtain⟨wy,b9⟩:∃wy,xw.val=wy:=⟨_,rfl⟩;have aj:=xw.below;rw[b9]at aj ⊢;have ah:=zA0 c6.o (Ss.grown_below (row:=some g) aj);have ag:=cv.o.below aj;clear bq bl xc2 b1 b2 b3 c2 gl b9 xw aj;have ak:P.length=i-1:=by have:=au.o;omega
 have br:=hy' ah
 by_cases aq:0<q∧q<u
 · obtain⟨ax,cj⟩:=aq;have ba:q > 0:=ax;have bk:u > q:=cj
   have bf:P++zBU f x (y::R)=(P++[y])++zBU f x R:=by
    rw[zBU,Zl (by rw[HU.o,HQ.o];exact⟨ax,cj⟩)];simp
   have c1:=ag.cell (zC7 P (y::R) x);have c2:=ag.cell (zBw P [] R x y);rw[ZY,YQ,au.o]at c2;rw[ak]at c1;have f1:=ag.fro (i-1);have f2:=ag.fro i;have gl:=ag.lt;have bu:=ag.swap;rw[au.o,ak]at bu;have ea:¬i-1=i:=by omega
   have dz:¬i=i-1:=by omega
   have dc:Hy (Nf.At ((wy.setCell ⟨g,i-1,none⟩ (.int .i64 y)).setCell ⟨g,i,none⟩ (.int .i64 x)) g cap ((P++[y])++x::R)):=hy' (by simpa using bu);have bi:Hy ((P++[y])++zBU f x R=zC1 f (x0::R0)):=hy' (bf.symm.trans ap.o);clear ag ah bf bu ak;go_wp2_with fail;go_region;go_wp2;exact⟨⟨i+1,P++[y],x,R,by omega,by omega,by first|rfl|go_num,by have:=au.o;simp;omega,by have:=bp.o;simp at this ⊢;omega,bi.o,dc.o,Ss.grown_drew (Ss.grown_set (Ss.grown_set br.o _ _) _ _)⟩,by simp[intOf];omega⟩
 have bf:P++zBU f x (y::R)=(P++[x])++zBU f y R:=by
  rw[zBU,Zk (by rw[HU.o,HQ.o];exact aq)];simp
 have bi:Hy ((P++[x])++zBU f y R=zC1 f (x0::R0)):=hy' (bf.symm.trans ap.o);have b7:Hy (Nf.At wy g cap ((P++[x])++y::R)):=hy' (by simpa using ag);clear ag ah bf ak
 by_cases ax:0<q
 · have ba:q > 0:=ax;have bk:¬u > q:=fun h=>aq ⟨ax,h⟩
   clear aq;go_wp2_with fail;exact⟨⟨i+1,P++[x],y,R,by omega,by omega,by first|rfl|go_num,by have:=au.o;simp;omega,by have:=bp.o;simp at this ⊢;omega,bi.o,b7.o,br.o⟩,by simp[intOf];omega⟩
 have ba:¬q > 0:=ax;clear aq;go_wp2_with fail;exact⟨⟨i+1,P++[x],y,R,by omega,by omega,by first|rfl|go_num,by have:=au.o;simp;omega,by have:=bp.o;simp at this ⊢;omega,bi.o,b7.o,br.o⟩,by simp[intOf];omega⟩
def RetOwn2 (el:TypeId) (k:IntKind) (l:List Int) (n:Int) (w:World) (e:Ending) (w':World):Prop :=
 ∃A c,e=.returned (.tuple #[.slice A l.length c,.int .i64 n])∧w'.ownsRow w.heap.size el 1 (.slice A l.length c) l.length (l.map (Value.int k))∧Below w.heap.size w w'
theorem RetOwn2.mk {el:TypeId} {k:IntKind} {l:List Int} {n:Int} {w w':World} {v:Value} {m:Nat} {xs:List Value} (h:w'.ownsRow w.heap.size el 1 v m xs) (hm:m=l.length) (hx:xs=l.map (Value.int k)) (hb:Below w.heap.size w w') :
 RetOwn2 el k l n w (.returned (.tuple #[v,.int .i64 n])) w':=by
 subst hm hx;obtain⟨A,c,rfl⟩:=zA3 h;exact⟨A,c,rfl,h,hb⟩
def zPm (r:List UInt8):Int:=if r=[] then 0 else 6
def zKI (cs:List Int) (r:List UInt8):List Int:=if r=[] then cs else []
theorem zJk (a:UInt8) (r:List UInt8):zPm (a::r)=6:=rfl
theorem zJl (cs:List Int) (a:UInt8) (r:List UInt8):zKI cs (a::r)=[]:=rfl
theorem zHV (s:ByteArray) (w:World) (hs:s.size≤1000000000000) (hH:Heads w) (cs:List Int) (r:List UInt8) (hd:zRs s.data.toList cs r) :
 Calls prog 61 #[.string s] w (RetOwn2 21 .i32 (zKI cs r) (zPm r) w):=by
 obtain⟨d1,d2,d3⟩:=hd;have hlen:s.size=(zA4 cs).length+r.length:=by rw[←zRr,d1,Zc]
 have D1:=hy' d1;have D2:=hy' d2;have D3:=hy' d3;have HL:=hy' hlen;clear d1 d2 d3 hlen;obtain⟨i0,hi,ay,a1,ax⟩:=Z9 zCv;go_enter func61,ntmps61;go_wp2;go_loopw [0,4] (fun x v wr=>∃a b y,cs=a++b∧x=.string y∧y.data.toList=zA4 b++r∧y.size≤s.size∧wr.ownsRow w.heap.size 21 1 v a.length (a.map (Value.int .i32))∧Below w.heap.size w wr) (fun x _ _=>match x with | .string y=>y.size|_=>0)
 case atStart=>exact⟨[],cs,s,rfl,rfl,D1.o,Za _,ZG _ _ _ _,Zd _ _⟩
 obtain⟨a,b,y,ap,rfl,hy,bg,af,ae⟩:=hrel;have au:=ae.size;have aq:=hH.next ae;have bc:(zA4 a).length≤s.size:=by rw[HL.o,ap,zAq,Zc];omega
 have aw:=U.encs_len a;have ak:=hy' ap;have HY:=hy' hy;have av:y.size≤maxLen:=by unfold maxLen;omega
 clear ap hy;rcases b with _|⟨c,b⟩
 · have ha:cs=a:=by rw[ak.o,ZC]
   rcases r with _|⟨r0,r'⟩
   · have he:y.toList.isEmpty=true:=by rw[zL4,HY.o];rfl
     have ar:=hy' ha;clear ha;go_wp2;go_ret2;exact RetOwn2.mk af (by rw[show zKI cs []=cs from rfl,ar.o]) (by rw[show zKI cs []=cs from rfl,ar.o]) ae
   have he:y.toList.isEmpty=false:=by rw[zL4,HY.o];rfl
   have h3:zAw y.data.toList=(0,0,false):=by rw[HY.o];exact zF3 D3.o
   have H3:=hy' h3;clear h3 ha;go_wp2_with fail;refine (zFo _ _ av aq).mono ?_;rintro e w1 ⟨rfl,aa⟩;rw[H3.o];go_wp2;go_ret2;rw[zJl,zJk];exact RetOwn2.mk (ZG _ _ _ _) rfl rfl (ae.trans (aa.mono au))
 have hc:=D2.o c (by rw[ak.o];simp);obtain⟨l1,l2⟩:=zCf c;have ao:y.size=(zAp c).length+((zA4 b).length+r.length):=by rw[←zRr,HY.o,zAW,Zc,Zc,Yi]
 have h3:zAw y.data.toList=(c,(zAp c).length,true):=by rw[HY.o];exact zF2 (zQ7 hc)
 have he:y.toList.isEmpty=false:=zCm y (by omega);obtain⟨k,hk⟩:∃k,(zAp c).length=k:=⟨_,rfl⟩;obtain⟨z,hz⟩:∃z:ByteArray,y.extract k y.size=z:=⟨_,rfl⟩
 have aj:z.data.toList=zA4 b++r:=by
  rw[←hz,zSY,HY.o,zAW,Zz,←hk,QM]
 have az:z.size<y.size:=by
  rw[ao,←zRr,aj,Zc];omega
 have H3:=hy' h3;have a7:=hy' aj;rw[hk]at l1 l2 H3 ao;have bf:k≤y.size:=by omega
 have bb:=(U.isC_iff c).1 hc;obtain⟨c1,c2,-⟩:=bb;clear hk h3 aj ao;have a6:a.length+1≤1000000000001:=by omega
 go_wp2_with fail;refine (zFo _ _ av aq).mono ?_;rintro e w1 ⟨rfl,aa⟩;rw[H3.o];have ag:=zA6 af aa (Za _);have ah:=ae.trans (aa.mono au);have ba:=ah.size;clear af aa;go_wp2_with (at_builtin;refine zAg _ rfl _ _ _ rfl w.heap.size 21 i0 _ 4 underlying79 hi ay a1 ax rfl _ a.length _ rfl ag _ rfl rfl (by simp only[maxLen];omega) (by omega) ba ?_;intro v1 w2 ai a8);exact⟨⟨a++[c],b,z,by rw[ak.o,Zz];rfl,rfl,a7.o,by omega,by rw[Zc,ZL];exact ai,ah.trans a8⟩,az⟩
theorem zSZ:∀x:Fin 32,bits BinOp.or IntKind.u8 192 ((x.val:Nat):Int)=192+((x.val:Nat):Int):=by decide +kernel
theorem zT0:∀x:Fin 16,bits BinOp.or IntKind.u8 224 ((x.val:Nat):Int)=224+((x.val:Nat):Int):=by decide +kernel
theorem zT1:∀x:Fin 8,bits BinOp.or IntKind.u8 240 ((x.val:Nat):Int)=240+((x.val:Nat):Int):=by decide +kernel
theorem U.or0:∀x:Fin 128,bits BinOp.or IntKind.u8 0 ((x.val:Nat):Int)=((x.val:Nat):Int):=by decide +kernel
theorem zSn (x:Int) (h1:0≤x) (h2:x<32):bits BinOp.or IntKind.u8 192 x=192+x:=by
 obtain⟨n,rfl⟩:=YJ h1;exact zSZ ⟨n,by omega⟩
theorem zSo (x:Int) (h1:0≤x) (h2:x<16):bits BinOp.or IntKind.u8 224 x=224+x:=by
 obtain⟨n,rfl⟩:=YJ h1;exact zT0 ⟨n,by omega⟩
theorem zSp (x:Int) (h1:0≤x) (h2:x<8):bits BinOp.or IntKind.u8 240 x=240+x:=by
 obtain⟨n,rfl⟩:=YJ h1;exact zT1 ⟨n,by omega⟩
theorem zTJ (x:Int) (h1:0≤x) (h2:x<128):bits BinOp.or IntKind.u8 0 x=x:=by
 obtain⟨n,rfl⟩:=YJ h1;exact U.or0 ⟨n,by omega⟩
theorem zLt (x:Int) (h1:0≤x) (h2:x<256):IntKind.u8.wrap x=x:=by
 exact IntWalk.u8_in x (by omega)
def zFS (l:List UInt8):List Value:=l.map fun b=>Value.int .u8 (b.toNat:Int)
theorem zT2 (c:Int) (v:Value) (n base:Nat) (xs:List Value) (w:World) (h1:0≤c) (h2:c<128) (hc:U.isC c=true) (hH:Heads w) (ag:w.ownsRow base 5 1 v n xs) (hn:n≤1000000000000) (aj:base≤w.heap.size) :
 Calls prog 97 #[v,.int .i32 c] w fun e w'=>∃v',e=.returned v'∧w'.ownsRow base 5 1 v' (n+1) (xs++[.int .u8 (c)])∧Below base w w':=by
 have hw:zAC c=1:=by unfold zAC;grind
 have HW:=hy' hw;clear hw hc;have m0:=hH.cell 0;have m1:=hH.cell 1;have m2:=hH.cell 2;simp[U.row]at m0 m1 m2;obtain⟨i0,hi,au,av,ar⟩:=Z9 infoByte;go_enter func97,ntmps97;go_wp2_with fail;refine (zAV _ _ (by omega) (by omega) hH).mono ?_;rintro e w' ⟨rfl,rfl⟩;rw[HW.o];go_wp2;have ao:=zLt (c) (by omega) (by omega);have aw:=zTJ (c) (by omega) (by omega);have aq:IntKind.i64.wrap 0=0:=by decide
 have ap:IntKind.i64.wrap 0=0:=by decide
 have hne:v.ownBlock≠some w.heap.size:=fun h=>by have:=(ag.lt _ h).2;omega
 go_region_held3 (fun w'=>w'.cell? ⟨w.heap.size,0,none⟩=some (.int .u8 0)) (first|go_keep|(rw[aa.cell_far _ (by simp;omega) (Yc hne)];assumption))
  ((refine zCP _ rfl _ _ _ rfl base 5 i0 _ 1 underlying30 hi au av ar rfl v n xs rfl (((ag.alloc _).alloc _).drew) _ rfl (w.heap.size+1) rfl (zPC _ _ _ _ (zEg _ _)) (by simp only[maxLen];omega) (by omega) (by simp;omega) ?_;intro v1 w1 af ae aa))
 have ak:Below base w w1:=(((Zd _ _).alloc aj _).alloc (by simp;omega) _).drew.trans ae;have ax:=ak.size;clear aa ae ao aw aq ap;go_wp2;go_loopw [7,0] (fun i v wr=>Below base w wr∧((i=.int .i64 (-1)∧wr.ownsRow base 5 1 v (n+1) (xs++[.int .u8 (c)])))) (fun i _ _=>(intOf i+1).toNat)
 case atStart=>exact⟨ak,⟨rfl,af⟩⟩
 obtain⟨ah,hrel⟩:=hrel;have ay:=ah.size;rcases hrel with ⟨rfl,ai⟩
 go_wp2;go_ret;exact⟨_,rfl,ai,ah⟩
theorem zT3 (c:Int) (v:Value) (n base:Nat) (xs:List Value) (w:World) (h1:128≤c) (h2:c<2048) (hc:U.isC c=true) (hH:Heads w) (aj:w.ownsRow base 5 1 v n xs) (hn:n≤1000000000000) (ak:base≤w.heap.size) :
 Calls prog 97 #[v,.int .i32 c] w fun e w'=>∃v',e=.returned v'∧w'.ownsRow base 5 1 v' (n+2) (xs++[.int .u8 (192+c/64),.int .u8 (128+c%64)])∧Below base w w':=by
 have hw:zAC c=2:=by unfold zAC;grind
 have HW:=hy' hw;clear hw hc;have m0:=hH.cell 3;have m1:=hH.cell 4;have m2:=hH.cell 5;simp[U.row]at m0 m1 m2;obtain⟨i0,hi,aq,ar,ao⟩:=Z9 infoByte;go_enter func97,ntmps97;go_wp2_with fail;refine (zAV _ _ (by omega) (by omega) hH).mono ?_;rintro e w' ⟨rfl,rfl⟩;rw[HW.o];go_wp2;have au:=zLt (c/64) (by omega) (by omega);have ax:=zSn (c/64) (by omega) (by omega);have aw:IntKind.i64.wrap 1=1:=by decide
 have av:IntKind.i64.wrap 6=6:=by decide
 have hne:v.ownBlock≠some w.heap.size:=fun h=>by have:=(aj.lt _ h).2;omega
 go_region_held3 (fun w'=>w'.cell? ⟨w.heap.size,0,none⟩=some (.int .u8 192)) (first|go_keep|(rw[ae.cell_far _ (by simp;omega) (Yc hne)];assumption))
  ((refine zCP _ rfl _ _ _ rfl base 5 i0 _ 1 underlying30 hi aq ar ao rfl v n xs rfl (((aj.alloc _).alloc _).drew) _ rfl (w.heap.size+1) rfl (zPC _ _ _ _ (zEg _ _)) (by simp only[maxLen];omega) (by omega) (by simp;omega) ?_;intro v1 w1 ai af ae))
 have ap:Below base w w1:=(((Zd _ _).alloc ak _).alloc (by simp;omega) _).drew.trans af;have az:=ap.size;clear ae af au ax aw av;go_wp2;go_loopw [7,0] (fun i v wr=>Below base w wr∧((i=.int .i64 0∧wr.ownsRow base 5 1 v (n+1) (xs++[.int .u8 (192+c/64)]))∨(i=.int .i64 (-1)∧wr.ownsRow base 5 1 v (n+2) (xs++[.int .u8 (192+c/64),.int .u8 (128+c%64)])))) (fun i _ _=>(intOf i+1).toNat)
 case atStart=>exact⟨ap,.inl ⟨rfl,ai⟩⟩
 obtain⟨ah,hrel⟩:=hrel;have a1:=ah.size;rcases hrel with ⟨rfl,aa⟩|⟨rfl,aa⟩
 · go_wp2_with (at_builtin;refine zAg _ rfl _ _ _ rfl base 5 i0 _ 1 underlying30 hi aq ar ao rfl _ (n+1) _ rfl aa _ rfl rfl (by simp only[maxLen];omega) (by omega) (by omega) ?_;intro v1 w2 ag ay);rw[Zz]at ag;exact⟨⟨ah.trans ay,.inr (⟨rfl,ag⟩)⟩,by simp[intOf]⟩
 go_wp2;go_ret;exact⟨_,rfl,aa,ah⟩
theorem zT4 (c:Int) (v:Value) (n base:Nat) (xs:List Value) (w:World) (h1:2048≤c) (h2:c<65536) (hc:U.isC c=true) (hH:Heads w) (aj:w.ownsRow base 5 1 v n xs) (hn:n≤1000000000000) (ak:base≤w.heap.size) :
 Calls prog 97 #[v,.int .i32 c] w fun e w'=>∃v',e=.returned v'∧w'.ownsRow base 5 1 v' (n+3) (xs++[.int .u8 (224+c/4096),.int .u8 (128+c/64%64),.int .u8 (128+c%64)])∧Below base w w':=by
 have hw:zAC c=3:=by unfold zAC;grind
 have HW:=hy' hw;clear hw hc;have m0:=hH.cell 6;have m1:=hH.cell 7;have m2:=hH.cell 8;simp[U.row]at m0 m1 m2;obtain⟨i0,hi,ap,aq,ao⟩:=Z9 infoByte;go_enter func97,ntmps97;go_wp2_with fail;refine (zAV _ _ (by omega) (by omega) hH).mono ?_;rintro e w' ⟨rfl,rfl⟩;rw[HW.o];go_wp2;have av:=zLt (c/4096) (by omega) (by omega);have ay:=zSo (c/4096) (by omega) (by omega);have ax:IntKind.i64.wrap 2=2:=by decide
 have aw:IntKind.i64.wrap 12=12:=by decide
 have hne:v.ownBlock≠some w.heap.size:=fun h=>by have:=(aj.lt _ h).2;omega
 go_region_held3 (fun w'=>w'.cell? ⟨w.heap.size,0,none⟩=some (.int .u8 224)) (first|go_keep|(rw[ag.cell_far _ (by simp;omega) (Yc hne)];assumption))
  ((refine zCP _ rfl _ _ _ rfl base 5 i0 _ 1 underlying30 hi ap aq ao rfl v n xs rfl (((aj.alloc _).alloc _).drew) _ rfl (w.heap.size+1) rfl (zPC _ _ _ _ (zEg _ _)) (by simp only[maxLen];omega) (by omega) (by simp;omega) ?_;intro v1 w1 ai ah ag))
 have au:Below base w w1:=(((Zd _ _).alloc ak _).alloc (by simp;omega) _).drew.trans ah;have az:=au.size;clear ag ah av ay ax aw;go_wp2;go_loopw [7,0] (fun i v wr=>Below base w wr∧((i=.int .i64 1∧wr.ownsRow base 5 1 v (n+1) (xs++[.int .u8 (224+c/4096)]))∨(i=.int .i64 0∧wr.ownsRow base 5 1 v (n+2) (xs++[.int .u8 (224+c/4096),.int .u8 (128+c/64%64)]))∨(i=.int .i64 (-1)∧wr.ownsRow base 5 1 v (n+3) (xs++[.int .u8 (224+c/4096),.int .u8 (128+c/64%64),.int .u8 (128+c%64)])))) (fun i _ _=>(intOf i+1).toNat)
 case atStart=>exact⟨au,.inl ⟨rfl,ai⟩⟩
 obtain⟨af,hrel⟩:=hrel;have a1:=af.size;rcases hrel with ⟨rfl,aa⟩|⟨rfl,aa⟩|⟨rfl,aa⟩
 · go_wp2_with (at_builtin;refine zAg _ rfl _ _ _ rfl base 5 i0 _ 1 underlying30 hi ap aq ao rfl _ (n+1) _ rfl aa _ rfl rfl (by simp only[maxLen];omega) (by omega) (by omega) ?_;intro v1 w2 ae ar);rw[Zz]at ae;exact⟨⟨af.trans ar,.inr (.inl ⟨rfl,ae⟩)⟩,by simp[intOf]⟩
 · go_wp2_with (at_builtin;refine zAg _ rfl _ _ _ rfl base 5 i0 _ 1 underlying30 hi ap aq ao rfl _ (n+2) _ rfl aa _ rfl rfl (by simp only[maxLen];omega) (by omega) (by omega) ?_;intro v1 w2 ae ar);rw[Zz]at ae;exact⟨⟨af.trans ar,.inr (.inr (⟨rfl,ae⟩))⟩,by simp[intOf]⟩
 go_wp2;go_ret;exact⟨_,rfl,aa,af⟩
theorem zT5 (c:Int) (v:Value) (n base:Nat) (xs:List Value) (w:World) (h1:65536≤c) (h2:c≤1114111) (hc:U.isC c=true) (hH:Heads w) (aj:w.ownsRow base 5 1 v n xs) (hn:n≤1000000000000) (ak:base≤w.heap.size) :
 Calls prog 97 #[v,.int .i32 c] w fun e w'=>∃v',e=.returned v'∧w'.ownsRow base 5 1 v' (n+4) (xs++[.int .u8 (240+c/262144),.int .u8 (128+c/4096%64),.int .u8 (128+c/64%64),.int .u8 (128+c%64)])∧Below base w w':=by
 have hw:zAC c=4:=by unfold zAC;grind
 have HW:=hy' hw;clear hw hc;have m0:=hH.cell 9;have m1:=hH.cell 10;have m2:=hH.cell 11;simp[U.row]at m0 m1 m2;obtain⟨i0,hi,aq,ar,ap⟩:=Z9 infoByte;go_enter func97,ntmps97;go_wp2_with fail;refine (zAV _ _ (by omega) (by omega) hH).mono ?_;rintro e w' ⟨rfl,rfl⟩;rw[HW.o];go_wp2;have av:=zLt (c/262144) (by omega) (by omega);have ay:=zSp (c/262144) (by omega) (by omega);have ax:IntKind.i64.wrap 3=3:=by decide
 have aw:IntKind.i64.wrap 18=18:=by decide
 have hne:v.ownBlock≠some w.heap.size:=fun h=>by have:=(aj.lt _ h).2;omega
 go_region_held3 (fun w'=>w'.cell? ⟨w.heap.size,0,none⟩=some (.int .u8 240)) (first|go_keep|(rw[ag.cell_far _ (by simp;omega) (Yc hne)];assumption))
  ((refine zCP _ rfl _ _ _ rfl base 5 i0 _ 1 underlying30 hi aq ar ap rfl v n xs rfl (((aj.alloc _).alloc _).drew) _ rfl (w.heap.size+1) rfl (zPC _ _ _ _ (zEg _ _)) (by simp only[maxLen];omega) (by omega) (by simp;omega) ?_;intro v1 w1 ai ah ag))
 have au:Below base w w1:=(((Zd _ _).alloc ak _).alloc (by simp;omega) _).drew.trans ah;have az:=au.size;clear ag ah av ay ax aw;go_wp2;go_loopw [7,0] (fun i v wr=>Below base w wr∧((i=.int .i64 2∧wr.ownsRow base 5 1 v (n+1) (xs++[.int .u8 (240+c/262144)]))∨(i=.int .i64 1∧wr.ownsRow base 5 1 v (n+2) (xs++[.int .u8 (240+c/262144),.int .u8 (128+c/4096%64)]))∨(i=.int .i64 0∧wr.ownsRow base 5 1 v (n+3) (xs++[.int .u8 (240+c/262144),.int .u8 (128+c/4096%64),.int .u8 (128+c/64%64)]))∨(i=.int .i64 (-1)∧wr.ownsRow base 5 1 v (n+4) (xs++[.int .u8 (240+c/262144),.int .u8 (128+c/4096%64),.int .u8 (128+c/64%64),.int .u8 (128+c%64)])))) (fun i _ _=>(intOf i+1).toNat)
 case atStart=>exact⟨au,.inl ⟨rfl,ai⟩⟩
 obtain⟨af,hrel⟩:=hrel;have a1:=af.size;rcases hrel with ⟨rfl,ae⟩|⟨rfl,ae⟩|⟨rfl,ae⟩|⟨rfl,ae⟩
 · go_wp2_with (at_builtin;refine zAg _ rfl _ _ _ rfl base 5 i0 _ 1 underlying30 hi aq ar ap rfl _ (n+1) _ rfl ae _ rfl rfl (by simp only[maxLen];omega) (by omega) (by omega) ?_;intro v1 w2 aa ao);rw[Zz]at aa;exact⟨⟨af.trans ao,.inr (.inl ⟨rfl,aa⟩)⟩,by simp[intOf]⟩
 · go_wp2_with (at_builtin;refine zAg _ rfl _ _ _ rfl base 5 i0 _ 1 underlying30 hi aq ar ap rfl _ (n+2) _ rfl ae _ rfl rfl (by simp only[maxLen];omega) (by omega) (by omega) ?_;intro v1 w2 aa ao);rw[Zz]at aa;exact⟨⟨af.trans ao,.inr (.inr (.inl ⟨rfl,aa⟩))⟩,by simp[intOf]⟩
 · go_wp2_with (at_builtin;refine zAg _ rfl _ _ _ rfl base 5 i0 _ 1 underlying30 hi aq ar ap rfl _ (n+3) _ rfl ae _ rfl rfl (by simp only[maxLen];omega) (by omega) (by omega) ?_;intro v1 w2 aa ao);rw[Zz]at aa;exact⟨⟨af.trans ao,.inr (.inr (.inr (⟨rfl,aa⟩)))⟩,by simp[intOf]⟩
 go_wp2;go_ret;exact⟨_,rfl,ae,af⟩
theorem zK0 (x:Int) (h0:0≤x) (h1:x<256):Value.int .u8 (((U.u8 x).toNat:Nat):Int)=.int .u8 x:=by rw[zBl x h0 h1]
theorem U.put_any (c:Int) (v:Value) (n base:Nat) (xs:List Value) (w:World) (hc:U.isC c=true) (hH:Heads w) (ae:w.ownsRow base 5 1 v n xs) (hn:n≤1000000000000) (aa:base≤w.heap.size) :
 Calls prog 97 #[v,.int .i32 c] w fun e w'=>∃v',e=.returned v'∧w'.ownsRow base 5 1 v' (n+(zAp c).length) (xs++zFS (zAp c))∧Below base w w':=by
 obtain⟨h1,h2,h3⟩:=(U.isC_iff c).1 hc;unfold zAp zFS
 by_cases c1:c<128
 · rw[Zl c1];simp only[ZU,Ym,ZB,ZY];rw[zK0 c (by omega) (by omega)];exact zT2 c v n base xs w h1 c1 hc hH ae hn aa
 by_cases c2:c<2048
 · rw[Zk c1,Zl c2];simp only[ZU,Ym,ZB,ZY];rw[zK0 (192+c/64) (by omega) (by omega),zK0 (128+c%64) (by omega) (by omega)];exact zT3 c v n base xs w (by omega) c2 hc hH ae hn aa
 by_cases c3:c<65536
 · rw[Zk c1,Zk c2,Zl c3];simp only[ZU,Ym,ZB,ZY];rw[zK0 (224+c/4096) (by omega) (by omega),zK0 (128+c/64%64) (by omega) (by omega),zK0 (128+c%64) (by omega) (by omega)];exact zT4 c v n base xs w (by omega) c3 hc hH ae hn aa
 rw[Zk c1,Zk c2,Zk c3];simp only[ZU,Ym,ZB,ZY];rw[zK0 (240+c/262144) (by omega) (by omega),zK0 (128+c/4096%64) (by omega) (by omega),zK0 (128+c/64%64) (by omega) (by omega),zK0 (128+c%64) (by omega) (by omega)];exact zT5 c v n base xs w (by omega) h2 hc hH ae hn aa
theorem zQ9 (l:List UInt8):strOfNums (l.map fun b=>((b.toNat:Nat):Int))=⟨l.toArray⟩:=by
 unfold strOfNums;rw[Xd];congr 1
 have:l.map ((fun n:Int=>UInt8.ofNat n.toNat) ∘ fun b:UInt8=>((b.toNat:Nat):Int))=l:=by
  conv=>rhs;rw[←List.map_id l]
  refine YR fun b _=>?_
  simp
 rw[this]
theorem zSq {w:World} {base m c:Nat} {A:Option Addr} {l:List UInt8} (h:w.ownsRow base 5 1 (.slice A m c) m (zFS l)) :
 (convert 30 9 (.slice A m c)).run prog w=.ok (.string ⟨l.toArray⟩) w:=by
 obtain⟨hl,hr⟩:=h;rcases hr with ⟨hv,hm⟩|⟨g,cap,ae,hv,_,hg,hc,_,hcs,aa⟩
 · simp only[ZX]at hv;obtain⟨rfl,rfl,rfl⟩:=hv;have:l=[]:=List.eq_nil_of_length_eq_zero (by unfold zFS at hl;simpa using hl);subst this;exact run_convert_bytes_nil _ _ 5 underlying30 underlying5 _ _ _ underlying9
 simp only[ZX]at hv;obtain⟨rfl,_,rfl⟩:=hv;unfold zFS at hl aa;rw[Ze]at hl;rw[←zQ9];refine Qs _ _ 5 underlying30 underlying5 g 0 m c _ (by rw[Ze];omega) (fun i hi=>?_) _ underlying9;have af:i<l.length:=by omega
 have ag:ae.toList[i]?=some (Value.int .u8 ((l[i].toNat:Nat):Int)):=by
  have e:(ae.toList.take (m*1))[i]?=(l.map fun b=>Value.int .u8 ((b.toNat:Nat):Int))[i]?:=by rw[aa]
  rw[Yv,Zl (by omega),Zt,Zb af]at e;exact e
 simp only[World.cell?,hg,Z4];have:ae[i]?=some (Value.int .u8 ((l[i].toNat:Nat):Int)):=by rw[←ag];simp
 simp[this,List.getD,af]
def zHW (l:List Int):Bool:=l.all U.isC
def zA5 (l:List Int):ByteArray:=if zHW l then ⟨(zA4 l).toArray⟩ else ⟨#[]⟩
def zJm (l:List Int):Int:=if zHW l then 0 else 1
theorem zLu (a b:List UInt8):zFS (a++b)=zFS a++zFS b:=by unfold zFS;rw[List.map_append]
theorem zCA (l:List Int):(zA4 l).length≤4*l.length:=by
 induction l with
 | nil=>simp[zA4]
 | cons c l ih=>rw[zAW,Zc,ZB];have:=(zCf c).2;omega
theorem zGK {α:Type} {l:List α} {k:Nat} {x:α} (h:l[k]?=some x):l.take (k+1)=l.take k++[x]:=by
 rw[Zy,h];rfl
theorem zF4 {α:Type} {l:List α} {k:Nat} {x:α} (h:l[k]?=some x):x∈l:=Zj h
theorem zHX (A:Option Addr) (cap B:Nat) (l:List Int) (w:World) (hB:B≤w.heap.size) (hA:Sl w B A (l.map (Value.int .i32))) (hl:l.length≤100000000000) (hb:∀c∈l,-2147483648≤c∧c≤2147483647) (hH:Heads w) :
 Calls prog 60 #[.slice A l.length cap] w fun e w'=>e=.returned (.tuple #[.string (zA5 l),.int .i64 (zJm l)])∧Below w.heap.size w w':=by
 have hg:=hH.lt;obtain⟨n,hn⟩:∃n,l.length=n:=⟨_,rfl⟩;have HN:=hy' hn;rw[hn]at hl ⊢;clear hn;have HB:=hy' hb;clear hb;go_enter func60,ntmps60;go_wp2;go_loopw [9,4] (fun i v wr=>∃k:Nat,k≤n∧i=.int .i64 k∧(∀x∈l.take k,U.isC x=true)∧wr.ownsRow w.heap.size 5 1 v (zA4 (l.take k)).length (zFS (zA4 (l.take k)))∧Below w.heap.size w wr) (fun i _ _=>n-(intOf i).toNat)
 case atStart=>exact⟨0,by omega,rfl,by simp,ZG _ _ _ _,Zd _ _⟩
 obtain⟨k,hk,rfl,af,ae,aa⟩:=hrel;have av:=aa.size;have aq:=hH.next aa;have HG:=hy' af;clear af;have ar:=zCA (l.take k);rw[Zn,HN.o]at ar
 by_cases hkn:(k:Int)<n
 rotate_left
 · obtain rfl:k=n:=by omega
   have ah:l.take k=l:=Zi (by rw[HN.o];omega);rw[ah]at ae;have hG:=HG.o;rw[ah]at hG;have ak:zHW l=true:=by unfold zHW;rw[List.all_eq_true];exact hG
   have H1:zA5 l=⟨(zA4 l).toArray⟩:=by unfold zA5;rw[if_pos ak]
   have H2:zJm l=0:=by unfold zJm;rw[if_pos ak]
   have K1:=hy' H1;have K2:=hy' H2;clear H1 H2 ak hG ah;obtain⟨A',c',rfl⟩:=zA3 ae;have hcv:=zSq ae;go_wp2;go_ret2;rw[K1.o,K2.o];exact⟨rfl,aa⟩
 obtain⟨x,hx⟩:∃x,l[k]?=some x:=⟨_,Zb (by rw[HN.o];omega)⟩;obtain⟨x1,x2⟩:=HB.o x (zF4 hx);obtain⟨b,o,rfl,aw,hc⟩:=hA.belowN aa hB (Za _) (by rw[Ze,HN.o];omega);have hcell:=hc k (by rw[Ze,HN.o];omega);rw[Zt,hx]at hcell;simp only[Option.map]at hcell;have ap:=zGK hx;have HX:=hy' hx;have ao:=hy' ap;clear hx ap hc
 by_cases hch:U.isC x=true
 · have HC:=hy' hch;go_wp2_with (go_at_call 38;refine (zIw _ _ x1 x2).mono ?_;rintro e w' ⟨rfl,rfl⟩);refine (U.put_any x _ _ w.heap.size _ _ HC.o aq ae (by omega) av).mono ?_;rintro e w2 ⟨v',rfl,ai,au⟩;go_wp2;refine⟨⟨k+1,by omega,by go_num,?_,?_,aa.trans au⟩,by simp[intOf];omega⟩
   · rw[ao.o];intro y hy;rcases List.mem_append.1 hy with hy|hy
     · exact HG.o y hy
     rw[ZE]at hy;subst hy;exact HC.o
   rw[ao.o,zAq,Zc,zLu];have e:zA4 [x]=zAp x:=by simp[zA4]
   rw[e];exact ai
 have aj:U.isC x=false:=by simpa using hch
 have ag:zHW l=false:=by
  unfold zHW;rw[List.all_eq_false];exact⟨x,zF4 HX.o,by simp[aj]⟩
 have H1:zA5 l=⟨#[]⟩:=by unfold zA5;rw[if_neg (by rw[ag];decide)]
 have H2:zJm l=1:=by unfold zJm;rw[if_neg (by rw[ag];decide)]
 have H1:=hy' H1;have H2:=hy' H2;rename_i h1' h2';clear h1' h2' ag hch;go_wp2_with (go_at_call 38;refine (zIw _ _ x1 x2).mono ?_;rintro e w' ⟨rfl,rfl⟩);go_ret2;rw[H1.o,H2.o];exact⟨rfl,aa⟩
theorem zRt (a b:List UInt8):(⟨a.toArray⟩++⟨b.toArray⟩:ByteArray)=⟨(a++b).toArray⟩:=by
 apply Xw
 simp
theorem zLv (A:Option Addr) (cap B:Nat) (l:List Int) (w:World) (hB:B≤w.heap.size) (hA:Sl w B A (l.map (Value.int .i64))) (hl:l.length≤100000000000) (hb:∀c∈l,U.isC c=true) :
 Calls prog 17 #[.slice A l.length cap] w fun e w'=>e=.returned (.string ⟨(zA4 l).toArray⟩)∧Below w.heap.size w w':=by
 obtain⟨n,hn⟩:∃n,l.length=n:=⟨_,rfl⟩;have HN:=hy' hn;rw[hn]at hl ⊢;clear hn;have HB:=hy' hb;clear hb;go_enter func17,ntmps17;go_wp2;go_loopw [8,3] (fun i v wr=>∃k:Nat,k≤n∧i=.int .i64 k∧v=.string ⟨(zA4 (l.take k)).toArray⟩∧Below w.heap.size w wr) (fun i _ _=>n-(intOf i).toNat)
 case atStart=>exact⟨0,by omega,rfl,rfl,Zd _ _⟩
 obtain⟨k,hk,rfl,rfl,aa⟩:=hrel;have ak:=aa.size
 by_cases hkn:(k:Int)<n
 · obtain⟨x,hx⟩:∃x,l[k]?=some x:=⟨_,Zb (by rw[HN.o];omega)⟩;have af:=HB.o x (zF4 hx);obtain⟨b,o,rfl,ao,hc⟩:=hA.belowN aa hB (Za _) (by rw[Ze,HN.o];omega);have hcell:=hc k (by rw[Ze,HN.o];omega);rw[Zt,hx]at hcell;simp only[Option.map]at hcell;have ag:=zGK hx;have ai:=hy' ag;have HC:=hy' af;clear hx ag hc af;have ah:=zCA (l.take k);rw[Zn,HN.o]at ah;have hex:=(zCf x).2
   have hlen:((⟨(zA4 (l.take k)).toArray⟩:ByteArray).size:Int)+((⟨(zAp x).toArray⟩:ByteArray).size:Int)≤900000000000:=by
    simp[ByteArray.size];omega
   go_wp2_with fail;refine (zIJ _ _ HC.o).mono ?_;rintro e w2 ⟨rfl,aj⟩;go_wp2;refine⟨⟨k+1,by omega,by go_num,?_,aa.trans (aj.mono ak)⟩,by simp[intOf];omega⟩;rw[ai.o,zAq,zRt];have e:zA4 [x]=zAp x:=by simp[zA4]
   rw[e]
 obtain rfl:k=n:=by omega
 have ae:l.take k=l:=Zi (by rw[HN.o];omega);have HA:=hy' ae;clear ae;go_wp2;go_ret;rw[HA.o];exact⟨rfl,aa⟩
theorem zQa {cs:List Int} (h:∀c∈cs,U.isC c=true):∀c∈cs,-2147483648≤c∧c≤2147483647:=by
 intro c hc;have:=(U.isC_iff c).1 (h c hc);omega
theorem zMT {cs:List Int} (h:∀c∈cs,U.isC c=true):zHW cs=true:=by unfold zHW;rw[List.all_eq_true];exact h
theorem zAG {cs:List Int} (h:∀c∈cs,U.isC c=true):zA5 cs=⟨(zA4 cs).toArray⟩:=by unfold zA5;rw[if_pos (zMT h)]
theorem zRu {cs:List Int} (h:∀c∈cs,U.isC c=true):zJm cs=0:=by unfold zJm;rw[if_pos (zMT h)]
def Nf.fl (T:List Rw.Row) (l:List Int):List Int:=l.flatMap (Ud.full T)
def Nf.chars (T:List Rw.Row) (l:List Int):List Int:=Or.of (Md.cls T) (Nf.fl T l)
theorem zHq {T:List Rw.Row} {l:List Int} {k:Nat} {x:Int} (hx:l[k]?=some x):Nf.fl T (l.take (k+1))=Nf.fl T (l.take k)++Ud.full T x:=by
 unfold Nf.fl;rw[Zy,hx,Y8];simp
theorem zFA {T:List Rw.Row} (h:∀c,(Ud.full T c).length≤32):∀l:List Int,(Nf.fl T l).length≤32*l.length
 | []=>by simp[Nf.fl]
 | x::l=>by
   have h1:=zFA h l;have h2:=h x;unfold Nf.fl at h1 ⊢;rw[Xu,Zc,ZB];omega
theorem Nf.rchars_any (v:Value) (T:List Rw.Row) (E:List Int) (A:Option Addr) (n c:Nat) (l:List Int) (w:World) (bk:T.length≤100000) (hbd:Md.bd T) (aj:∀r∈T,r.2.2.length≤1000) (hle:∀c,(Ud.full T c).length≤32) (h:Md.Doc w v T E) (hl:l.length=n) (hn:n≤3000) (bu:∀x∈l,-2147483648≤x∧x≤2147483647) (hA:Sl w w.heap.size A (l.map (Value.int .i64))) :
 Calls prog 14 #[v,.slice A n c] w (zBS (Nf.chars T l) w):=by
 obtain⟨i0,cj,cp,cm,b6⟩:=Z9 zG1;have hd:=h;obtain⟨AT,cT,XA,xc,rfl,_⟩:=hd;obtain⟨tn,b1⟩:∃k,T.length=k:=⟨_,rfl⟩;obtain⟨xn,hxn⟩:∃k,E.length=k:=⟨_,rfl⟩;rw[b1,hxn]at h ⊢;have bt:∀x W,Below w.heap.size w W → -2147483648≤x→x≤2147483647→Calls prog 35 #[zB8 AT tn cT XA xn xc,.int .i64 x] W (zFz (Md.full T x) W):=fun x W hW h3 h4=>zHU _ T E x W bk (h.below hW) hbd aj h3 h4
 have bm:∀A' m c' z W,Below w.heap.size w W→z.length=m→m≤100000→Sl W W.heap.size A' (z.map (Value.int .i64))→Calls prog 36 #[zB8 AT tn cT XA xn xc,.slice A' m c'] W (zBS (Or.of (Md.cls T) z) W):=fun A' m c' z W hW h1 h2 h3=>zQ8 _ T E A' m c' z W (Zh bk (by decide)) (h.below hW) h1 h2 h3
 unfold zB8 at *;obtain⟨wa,au⟩:∃wa,(w.alloc (.cells #[.slice AT tn cT,.slice XA xn xc] 38)).alloc (.cells #[] 3)=wa:=⟨_,rfl⟩;have bh:Below w.heap.size w wa:=by rw[←au];exact ((Zd _ _).alloc (Za _) _).alloc (by simp) _
 have bx:Rw.At wa w.heap.size 38 [.slice AT tn cT,.slice XA xn xc]:=by
  rw[←au];exact (Rw.At.new w 38 [.slice AT tn cT,.slice XA xn xc]).alloc _
 have ap:wa.ownsRow (w.heap.size+1) 3 1 (.slice (some ⟨w.heap.size+1,0,none⟩) 0 0) 0 []:=by
  have:=zDA (w.alloc (.cells #[.slice AT tn cT,.slice XA xn xc] 38)) 3 (by decide);rw[ZD]at this;rw[←au];exact this
 have cv:=hy' au;have b5:=hy' bh;have cf:=hy' bx;have bi:=hy' ap;have HL:=hy' hl;have b9:=hy' bu;have HA:=hy' (hA.below bh (Za _));have cg:=hy' bt;have b7:=hy' bm;have br:=hy' (zFA hle);have a7:=hy' hle;clear au bh bx ap hl bu hA bt bm h b1 hxn bk hbd aj hle;go_enter func14,ntmps14;go_upto_region 2 with (fail)
 rw[cv.o];go_wp2_with fail;go_loopw [5,7,8,9,13] (fun v5 _ _ _ i wr=>∃(k:Nat) (sl:Value),k≤n∧i=.int .i64 k∧v5=sl∧Rw.At wr w.heap.size 38 [.slice AT tn cT,.slice XA xn xc]∧wr.ownsRow (w.heap.size+1) 3 1 sl (Nf.fl T (l.take k)).length ((Nf.fl T (l.take k)).map (Value.int .i64))∧Below (w.heap.size+1) wa wr) (fun _ _ _ _ i _=>n-(intOf i).toNat)
 case atStart=>exact⟨0,_,Zq _,rfl,rfl,cf.o,bi.o,Zd _ _⟩
 obtain⟨k,sl,hk,rfl,rfl,ae,aa,ag⟩:=hrel;have bp:w.heap.size+1≤wr.heap.size:=ae.lt;have ay:Below w.heap.size w wr:=b5.o.trans (ag.mono (ZZ _))
 by_cases hlt:k<n
 · obtain⟨x,hx⟩:∃x,l[k]?=some x:=⟨_,Zb (by rw[HL.o];exact hlt)⟩;obtain⟨bo,bw⟩:=b9.o x (Zj hx);obtain⟨ab,ao,hA2,c6,bs⟩:=HA.o (by rw[Ze,HL.o];omega);have hc:=bs k (by rw[Ze,HL.o];exact hlt);rw[Zt,hx,Zw,←(zAU ag).1 _ _ (by omega)]at hc;have bb:=zHq (T:=T) hx;have ak:=br.o (l.take k);rw[Zn,HL.o]at ak;have bg:=a7.o x;obtain⟨m,hm⟩:∃m,Ud.full T x=m:=⟨_,rfl⟩;obtain⟨S,hS⟩:∃S,Nf.fl T (l.take k)=S:=⟨_,rfl⟩;obtain⟨ml,aj⟩:∃q,m.length=q:=⟨_,rfl⟩;obtain⟨sn,af⟩:∃q,S.length=q:=⟨_,rfl⟩;have az:=cg.o x wr ay bo bw;unfold zFz at az;rw[show (Md.full T x).getD []=m from hm,aj]at az;rw[hS,af]at aa;rw[hS,af]at ak;rw[hm,aj]at bg;rw[hS,hm]at bb;have kI:(k:Int)<n:=by omega
   have k0:(0:Int)≤k:=by omega
   have z0:=ae.cell 0 rfl;have z1:=ae.cell 1 rfl;have cx:=hy' bb;have bf:=hy' ae;have ar:=hy' aa;have a1:=hy' ag;have bl:=hy' aj;have cy:=hy' af;have cb:=hy' az;have cz:sn≤32*k:=by omega
   subst hA2;clear hx bo bw bs bb ak hm hS aj af az aa ae ag ay;go_wp2_with fail;refine cb.o.mono ?_;rintro e w1 ⟨A1,c1,rfl,b3,aq⟩;have aw:=hy' (zA6 ar.o aq (Za _));have a8:=hy' (bf.o.below aq);have ch:=hy' b3;have b4:=hy' (a1.o.trans (aq.mono bp));have cr:w.heap.size+1≤w1.heap.size:=Zh bp aq.size;have bq:(m.map (Value.int .i64)).length=ml*1:=by rw[Ze,bl.o];omega
   have bz:∀u∈m.map (Value.int .i64),u.oneCell'=true:=zFq .i64 _;have cu:=hy' bq;have cq:=hy' bz;clear b3 aq z0 z1 hc bq bz;go_wp2_with (first|(at_builtin;refine zAh _ rfl _ _ _ rfl (w.heap.size+1) 3 i0 _ 1 8 underlying36 cj cp cm b6 rfl (by omega) _ sn _ rfl aw.o _ A1 ml c1 (m.map (Value.int .i64)) rfl cu.o ch.o cq.o (by simp only[maxLen];omega) (by omega) cr ?_;intro v1 w4 ai a6 ct;have av:=hy' ai;have ba:=hy' (a8.o.below' a6 (ZM _));have b8:=hy' (b4.o.trans a6);clear ai a6 ct)|fail);refine⟨⟨k+1,v1,by omega,by first|rfl|go_num,rfl,ba.o,?_,b8.o⟩,by simp[intOf];omega⟩;rw[cx.o,Zc,cy.o,bl.o,ZL];exact av.o
 obtain rfl:k=n:=by omega
 rw[Zi (by rw[HL.o];exact Za _)]at aa;have ak:=br.o l;rw[HL.o]at ak;obtain⟨S,hS⟩:∃S,Nf.fl T l=S:=⟨_,rfl⟩;obtain⟨sn,af⟩:∃q,S.length=q:=⟨_,rfl⟩;rw[hS,af]at aa ak;obtain⟨A4,c4,rfl⟩:=zA3 aa;have bc:=b7.o A4 sn c4 S wr ay af (by omega) (Sl.of_own aa);obtain⟨Z,hZ⟩:∃Z,Or.of (Md.cls T) S=Z:=⟨_,rfl⟩;have bn:Nf.chars T l=Z:=by unfold Nf.chars;rw[hS,hZ]
 rw[hZ]at bc;have cd:=hy' bn;have kI:¬(k:Int)<k:=by omega
 have z0:=ae.cell 0 rfl;have z1:=ae.cell 1 rfl;have ax:=ae.lt;have cn:=hy' bc;have bj:=hy' ay;clear aa bc bn hZ hS af ak ae ag;go_wp2_with fail;refine cn.o.mono ?_;rintro e w5 ⟨A5,c5,rfl,ah,b2⟩;obtain⟨zl,ax⟩:∃q,Z.length=q:=⟨_,rfl⟩;rw[ax]at ah ⊢;have ck:=hy' ah;have cc:=hy' b2;have cw:=hy' ax;clear ah b2 ax;go_wp2_with fail;go_ret;rw[cd.o];unfold zBS;rw[cw.o];exact⟨_,_,rfl,zB0 ck.o bj.o.size,bj.o.trans (cc.o.mono bj.o.size)⟩
theorem zQb {T:List Rw.Row} {S:List Int} (ok:Ud.Ok T S) (c:Int):Md.full T c=some (Ud.full T c):=by
 obtain⟨l,hl⟩:=zDu ok.chk c;unfold Ud.full;rw[hl];rfl
theorem zKJ {T:List Rw.Row} {S:List Int} (ok:Ud.Ok T S) (c:Int):Ud.full T c≠[]:=fun e=>by
 have:=(zDv (zQb ok c)).2.1;rw[e]at this;simp at this
theorem zMU {T:List Rw.Row} {S:List Int} (ok:Ud.Ok T S) {c:Int} (hc:zA2 c≠0):Md.find T c=none:=by
 cases h:Md.find T c with
 | none=>rfl
 | some r =>
   obtain⟨h1,h2⟩:=zAx h;have:=(ok.good r h1).2.2.2.2.1;rw[h2]at this;exact absurd this hc
theorem zOj {T:List Rw.Row} {S:List Int} (ok:Ud.Ok T S) {c:Int} (hc:zA2 c≠0):Md.cls T c=0:=by
 unfold Md.cls;rw[zMU ok hc];rfl
def Nc.j (T:List Rw.Row) (S:List Int) (a b:Int):Option Int:=if (Ud.joinK T S a b).2=true then some (Ud.joinK T S a b).1 else none
theorem zHY {α β:Type} {P:α→Prop} [DecidablePred P] {g:α→β}:∀(l:List α) (o:Option β) {p:β},l.foldl (fun o r=>if P r then some (g r) else o) o=some p→o=some p∨∃r∈l,P r∧g r=p
 | [],o,p,h=>.inl h
 | r::l,o,p,h=>by
   rw[Yy]at h;rcases zHY l _ h with h1|⟨q,h1,h2⟩
   · by_cases hp:P r
     · rw[Zl hp]at h1;cases h1
       exact .inr ⟨r,ZI,hp,rfl⟩
     rw[Zk hp]at h1;exact .inl h1
   exact .inr ⟨q,ZT _ h1,h2⟩
theorem zKK {α β:Type} {P:α→Prop} [DecidablePred P] {g:α→β}:∀(l:List α) (o:Option β),(∃r∈l,P r)→∃p,l.foldl (fun o r=>if P r then some (g r) else o) o=some p
 | [],o,h=>by obtain⟨r,h1,_⟩:=h;cases h1
 | r::l,o,h=>by
   rw[Yy]
   have more:∀(l:List α) (b:β),∃p,l.foldl (fun o r=>if P r then some (g r) else o) (some b)=some p:=by
    intro l
    induction l with
    | nil=>intro b;exact⟨b,rfl⟩
    | cons q l ih =>
      intro b;rw[Yy]
      by_cases hq:P q
      · rw[Zl hq];exact ih _
      rw[Zk hq];exact ih _
   by_cases hp:P r
   · rw[Zl hp];exact more l _
   rw[Zk hp];obtain⟨q,h1,h2⟩:=h;rcases List.mem_cons.1 h1 with rfl|h1
   · exact absurd h2 hp
   exact zKK l o ⟨q,h1,h2⟩
theorem zHr {T:List Rw.Row} {S:List Int} (ok:Ud.Ok T S) {a b p:Int} (h:zCj T (C.mem S) T a b=some p):∃r∈T,r.1=p∧r.2.2=[a,b]∧zAt T (C.mem S) r.1=true:=by
 unfold zCj at h;rcases zHY (P:=fun r:Rw.Row=>r.2.2.getD 0 0=a∧r.2.2.getD 1 0=b) (g:=fun r:Rw.Row=>r.1) _ _ h with h|⟨r,h1,⟨h2,h3⟩,h4⟩
 · cases h
 unfold zKi at h1;rw[Jr,zD4]at h1;obtain⟨⟨h5,h6⟩,h7⟩:=h1;obtain⟨x,y,aa⟩:=zIU (ok.good r h5) ok.rises h5 h7;rw[aa]at h2 h3;simp at h2 h3;subst h2;subst h3;exact⟨r,h5,h4,aa,h7⟩
theorem zPn {T:List Rw.Row} {S:List Int} (ok:Ud.Ok T S) {a b p:Int} (h:Nc.j T S a b=some p):(Hg.joinK a b=(p,true)∧zAl p=(a,b,true))∨((Hg.joinK a b).2=false∧∃r∈T,r.1=p∧r.2.2=[a,b]∧zAt T (C.mem S) r.1=true):=by
 unfold Nc.j Ud.joinK at h
 by_cases hj:(Hg.joinK a b).2=true
 · rw[Zl hj]at h;simp at h;exact .inl ⟨by rw[←h,←hj],by rw[←h];exact zMN a b hj⟩
 rw[Zk hj]at h;refine .inr ⟨by simpa using hj,zHr ok ?_⟩;cases hd:zCj T (C.mem S) T a b with
 | none=>rw[hd]at h;simp at h
 | some q=>rw[hd]at h;simpa using h
theorem zOk {T:List Rw.Row} {S:List Int} (ok:Ud.Ok T S) {a b p:Int} (h:Nc.j T S a b=some p):Md.mp T p=[a,b]∧Md.cls T p=0∧0≤p∧C.isC p=true:=by
 rcases zPn ok h with ⟨h1,h2⟩|⟨_,r,h1,rfl,h3,h4⟩
 · have hk:=zDw p;rw[h2]at hk;simp at hk;have hs:=zAy p (by have:=zH9 p;omega);refine⟨by unfold Md.mp;rw[h2];rfl,zOj ok (by omega),by omega,?_⟩;unfold C.isC;simp only[Zo];omega
 have hg:=ok.good r h1;have hp:=zD3 (X:=C.mem S) ok.rises h1 hg;rw[hp]at h4;unfold zAf at h4;simp at h4;exact⟨by rw[zQX ok.rises h1 hg,h3],by rw[zPA ok.rises h1,h4.1],(zFv hg).1,hg.1⟩
def Nc.sec (T:List Rw.Row) (S:List Int) (c:Int):Bool:=C.mem (C.chars (Ud.sec T (C.mem S) T)) c||decide (zA2 c=2)||decide (zA2 c=3)
theorem zOl {T:List Rw.Row} {S:List Int} (ok:Ud.Ok T S) {c:Int} (h:Nc.sec T S c=false) (x:Int):Nc.j T S x c=none:=by
 cases hj:Nc.j T S x c with
 | none=>rfl
 | some p =>
   unfold Nc.sec at h;simp only[XW,Z2]at h;rcases zPn ok hj with ⟨h1,h2⟩|⟨_,r,h1,h2,h3,h4⟩
   · have hi:=zQ5 x c;rw[h1]at hi;simp at hi;omega
   exfalso;have hg:=ok.good r h1;rw[(zBL _).2]at h
   have hc:c∈Ud.sec T (C.mem S) T:=by
    unfold Ud.sec;refine List.mem_map.2 ⟨r,?_,by rw[h3];rfl⟩;unfold zKi;rw[Jr,zD4];exact⟨⟨h1,by rw[h3];exact Ko⟩,h4⟩
   have aa:=(hg.2.2.2.2.2 c (by rw[h3];simp)).1;simp[hc,aa]at h
def Nc.two (T:List Rw.Row) (X:Int→Bool) (a b:Int):Int :=
 if (Hg.joinK a b).2=true then (Hg.joinK a b).1 else ((T.find? fun r=>decide (r.2.2=[a,b])&&zAt T X r.1).map (·.1)).getD (-1)
theorem zFT {T:List Rw.Row} {X:Int→Bool}:∀(l pre:List Rw.Row),zB5 T X pre l=false→(l.Pairwise fun q r=>¬(zAf T X q=true∧zAf T X r=true∧q.2.2=r.2.2))∧∀q∈pre,∀r∈l,¬(zAf T X q=true∧zAf T X r=true∧q.2.2=r.2.2)
 | [],pre,_=>⟨List.Pairwise.nil,fun q _ r hr=>absurd hr Xa⟩
 | r::l,pre,h=>by
   unfold zB5 at h;rw[XW]at h;obtain⟨h1,h2⟩:=zFT l (pre++[r]) h.2
   have h3:∀q∈pre,¬(zAf T X q=true∧zAf T X r=true∧q.2.2=r.2.2):=fun q hq ⟨g1,g2,g3⟩=>by
    have:=h.1;unfold Md.ahead at this;rw[XT]at this;have:=this q hq;simp[g1,g2,g3]at this
   refine⟨List.pairwise_cons.2 ⟨fun q hq=>h2 r (by simp) q hq,h1⟩,fun q hq s hs=>?_⟩;rcases List.mem_cons.1 hs with rfl|hs
   · exact h3 q hq
   exact h2 q (YZ _ hq) s hs
theorem zQc {T:List Rw.Row} {S:List Int} (ok:Ud.Ok T S) {q r:Rw.Row} (hq:q∈T) (hr:r∈T) (h1:zAt T (C.mem S) q.1=true) (h2:zAt T (C.mem S) r.1=true) (h3:q.2.2=r.2.2):q=r:=by
 obtain⟨_,_,_,ht⟩:=zEf ok.chk;have hd:=zDt T (C.mem S) T [];rw[show ((([]:List Rw.Row).filter (zAf T (C.mem S))).map fun r=>r.2.2)=[] from rfl,ht]at hd;have hp:=(zFT T [] hd.symm).1;rw[zD3 ok.rises hq (ok.good q hq)]at h1;rw[zD3 ok.rises hr (ok.good r hr)]at h2;obtain⟨i,hi⟩:=JF hq;obtain⟨k,hk⟩:=JF hr;rw[QS]at hp;obtain⟨ag,ae⟩:=List.getElem?_eq_some_iff.1 hi;obtain⟨af,aa⟩:=List.getElem?_eq_some_iff.1 hk;rcases Qj i k with h|h|h
 · exact absurd ⟨by rw[ae];exact h1,by rw[aa];exact h2,by rw[ae,aa];exact h3⟩ (hp i k ag af h)
 · subst h;rw[←ae,←aa]
 exact absurd ⟨by rw[aa];exact h2,by rw[ae];exact h1,by rw[ae,aa];exact h3.symm⟩ (hp k i af ag h)
theorem zSr {T:List Rw.Row} {S:List Int} (ok:Ud.Ok T S) (a b:Int):Nc.two T (C.mem S) a b=(Nc.j T S a b).getD (-1):=by
 unfold Nc.two Nc.j Ud.joinK
 by_cases hj:(Hg.joinK a b).2=true
 · rw[Zl hj,Zl hj];simp
 rw[Zk hj,Zk hj];cases hf:T.find? fun r=>decide (r.2.2=[a,b])&&zAt T (C.mem S) r.1 with
 | some r =>
   have h1:=Jp hf;have h2:=X7 hf;simp at h1
   have:∃p,zCj T (C.mem S) T a b=some p:=by
    unfold zCj;refine zKK (P:=fun r:Rw.Row=>r.2.2.getD 0 0=a∧r.2.2.getD 1 0=b) (g:=fun r:Rw.Row=>r.1) _ _ ⟨r,?_,?_⟩
    · unfold zKi;rw[Jr,zD4];exact⟨⟨h2,by rw[h1.1];exact Ko⟩,h1.2⟩
    rw[h1.1];exact⟨rfl,rfl⟩
   obtain⟨p,hp⟩:=this;obtain⟨q,g1,g2,g3,g4⟩:=zHr ok hp;have:=zQc ok g1 h2 g4 h1.2 (g3.trans h1.1.symm);subst this;rw[hp,←g2];simp
 | none =>
   cases hp:zCj T (C.mem S) T a b with
   | none=>simp
   | some p =>
     obtain⟨q,g1,g2,g3,g4⟩:=zHr ok hp;have:=List.find?_eq_none.1 hf q g1;simp[g3,g4]at this
section
variable {T:List Rw.Row} {S:List Int}
theorem Nf.fl_app (l m:List Int):Nf.fl T (l++m)=Nf.fl T l++Nf.fl T m:=by unfold Nf.fl;exact List.flatMap_append
theorem zE2 (c:Int) (l:List Int):Nf.fl T (c::l)=Ud.full T c++Nf.fl T l:=by unfold Nf.fl;exact List.flatMap_cons
theorem zEs (ok:Ud.Ok T S):∀l:List Int,l.length≤(Nf.fl T l).length
 | []=>Za _
 | c::l=>by
   have h1:=zEs ok l;have h2:=List.length_pos_iff.2 (zKJ ok c);rw[zE2,Zc,ZB];omega
def zBX (T:List Rw.Row) (S:List Int) (l:List Int):List Int:=Nc.join (Md.cls T) (Nc.j T S) l
def Nc.chars (T:List Rw.Row) (S:List Int) (l:List Int):List Int:=zBX T S (Nf.chars T l)
theorem Nc.chars_len (ok:Ud.Ok T S) (l:List Int):(Nc.chars T S l).length≤(Nf.chars T l).length∧(Nf.chars T l≠[]→0<(Nc.chars T S l).length):=zJ5 _
def Sp.head (T:List Rw.Row) (c:Int):Int:=(Ud.full T c).headD 0
def Sp.start (T:List Rw.Row) (c:Int):Bool:=decide (Md.cls T (Sp.head T c)=0)
def zA7 (T:List Rw.Row) (S:List Int) (c:Int):Bool:=C.isC c&&(Sp.start T c&&!Nc.sec T S (Sp.head T c))
theorem zDB (ok:Ud.Ok T S) (c:Int):∃M,Ud.full T c=Sp.head T c::M:=by
 unfold Sp.head;cases h:Ud.full T c with
 | nil=>exact absurd h (zKJ ok c)
 | cons a M=>exact⟨M,rfl⟩
theorem Nf.chars_cut (ok:Ud.Ok T S) {c:Int} (hc:Sp.start T c=true) (a b:List Int):Nf.chars T (a++c::b)=Nf.chars T a++Nf.chars T (c::b):=by
 obtain⟨M,hM⟩:=zDB ok c;unfold Sp.start at hc;have h0:=Yf hc;unfold Nf.chars;rw[Nf.fl_app,zE2,hM,ZN,zMC (by omega)]
theorem Nc.chars_cut (ok:Ud.Ok T S) {c:Int} (hc:zA7 T S c=true) (a b:List Int):Nc.chars T S (a++c::b)=Nc.chars T S a++Nc.chars T S (c::b):=by
 unfold zA7 at hc;simp only[Zr,YB]at hc;obtain⟨_,hs,hn⟩:=hc;obtain⟨M,hM⟩:=zDB ok c;unfold Nc.chars;rw[Nf.chars_cut ok hs];have h0:Md.cls T (Sp.head T c)=0:=by unfold Sp.start at hs;exact of_decide_eq_true hs
 have e:Nf.chars T (c::b)=Sp.head T c::Or.of (Md.cls T) (M++Nf.fl T b):=by
  unfold Nf.chars;rw[zE2,hM,ZN,zKv (by omega)]
 rw[e];exact zOa h0 (fun x=>zOl ok hn x) _ _
end
end Go.Proofs.YtdbpjmfflofadaaGreatDoor
