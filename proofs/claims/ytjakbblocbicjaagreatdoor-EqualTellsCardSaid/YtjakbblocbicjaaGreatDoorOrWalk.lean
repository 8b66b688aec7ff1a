/- Merging two sorted blocks in place (symMerge), by walking; and by induction. -/
import Derived.Test.YtjakbblocbicjaaGreatDoorSsSymB
set_option maxRecDepth 100000
set_option maxHeartbeats 8000000
set_option linter.unusedVariables false
set_option linter.unusedSimpArgs false
namespace Go.Proofs.YtjakbblocbicjaaGreatDoor
open Go.Proofs.Tryz
open Go.RowKit
def zE7 (aa:FuncId) (cd:Option Addr) (k:Int→Int) (N:Nat):Prop:=∀(sz g o n0 cap a m b:Nat) (P A B Q:List Int) (w:World),Ss.Cmp aa cd k g w→Ss.At w g sz (P++(A++(B++Q)))→P.length=o+a→a+A.length=m→m+B.length=b→a<m→m<b→b≤n0→n0≤1000000→b≤a+N→Ss.so k A→Ss.so k B →
 Calls prog 173 #[.slice (some ⟨g,o,none⟩) n0 cap,.int .i64 a,.int .i64 m,.int .i64 b,.func (.func aa) #[] #[.pointer cd]] w (zGr k sz g P A B Q w)
theorem zNu (ao:FuncId) (cd:Option Addr) (k:Int→Int) (ak:∀(args:Array Value) (w:World),(callFunc ao args).run prog w=.ok (.enter ao args) w) (N:Nat) (IH:zE7 ao cd k N)
 (sz g o n0 cap a m b:Nat) (P A B Q:List Int) (w:World) (hC:Ss.Cmp ao cd k g w) (hZ:Ss.At w g sz (P++(A++(B++Q)))) (hP:P.length=o+a) (hA:a+A.length=m) (hB:m+B.length=b) (hA2:2≤A.length) (hB2:2≤B.length) (hn:b≤n0) (b4:n0≤1000000) (hN:b≤a+N+1) (dl:Ss.so k A) (dn:Ss.so k B) :
 Calls prog 173 #[.slice (some ⟨g,o,none⟩) n0 cap,.int .i64 a,.int .i64 m,.int .i64 b,.func (.func ao) #[] #[.pointer cd]] w (zGr k sz g P A B Q w):=by
 have ej:=hy' ak;have HC:=hy' hC;have HZ:=hy' hZ;have HP:=hy' hP;have HA:=hy' hA;have HB:=hy' hB;have c6:=hy' dl;have ct:=hy' dn;have dt:=hy' IH;have c8:=hy' (fun s e P U V Q W h1 h2 h3 h4 h5 h6 h7=>zKQ sz g o n0 cap s m e (.func (.func ao) #[] #[.pointer cd]) P U V Q W h1 h2 h3 h4 h5 h6 h7 b4);have e1:((m:Int)-a == 1)=false:=by simp;omega
 have e3:((b:Int)-m == 1)=false:=by simp;omega
 obtain⟨md,dx⟩:∃md,(a+b)/2=md:=⟨_,rfl⟩;have br:((a:Int)+b)/2=md:=by omega
 have dy:a+2≤md:=by omega
 have dz:md+2≤b:=by omega
 have b6:md≤a+N:=by omega
 have cn:b≤md+N:=by omega
 obtain⟨lo,hi,dc⟩:∃lo hi:Nat,(md<m∧lo=md+m-b∧hi=md)∨(¬md<m∧lo=a∧hi=m):=by
  by_cases h:md<m
  · exact⟨_,_,.inl ⟨h,rfl,rfl⟩⟩
  exact⟨_,_,.inr ⟨h,rfl,rfl⟩⟩
 have b7:a≤lo:=by omega
 have cm:lo≤hi:=by omega
 have ef:md+m≤lo+b:=by omega
 have bw:hi≤m:=by omega
 have cj:hi≤md:=by omega
 have a8:lo=a∨lo+b=md+m:=by omega
 have bc:hi=m∨hi=md:=by omega
 have ed:=hy' dc;have eb:=hy' dx;have bz:=hy' br;have ch:=hy' a8;have b8:=hy' bc;have ew:a<m:=by omega
 have hmb:m<b:=by omega
 have ec:=hy' hA2;have et:=hy' hB2;clear ak hC hZ hP dl dn IH hA hB dc dx br a8 bc hA2 hB2;go_enter func173,ntmps173;go_upto_region 24 with (fail)
 clear e1 e3;go_cut [18] (fun v wx=>v=.int .i64 md∧wx=w)
 case first=>as_aux_lemma =>
  go_wp2_with fail;go_meet;exact⟨Z6 (Value.int .i64) bz.o,rfl⟩
 case rest=>as_aux_lemma =>
  obtain⟨rfl,aa⟩:=hcut;replace aa:=aa.symm;subst aa;go_upto_if 140 with (fail)
  go_cut [20,21] (fun u v wx=>u=.int .i64 lo∧v=.int .i64 hi∧wx=w)
  case first=>as_aux_lemma =>
   rcases ed.o with ⟨h1,h2,h3⟩|⟨h1,h2,h3⟩
   · have HL:=hy' h2;have HH:=hy' h3;have dh:(md:Int)+m-b=lo:=by have:=eb.o;omega
     have ea:=hy' dh;clear h2 h3 dh;go_wp2_with fail;go_meet;exact⟨Z6 (Value.int .i64) ea.o,Z6 (fun x:Nat=>Value.int .i64 (x:Int)) HH.o.symm,rfl⟩
   have HL:=hy' h2;have HH:=hy' h3;clear h2 h3;go_wp2_with fail;go_meet;exact⟨Z6 (fun x:Nat=>Value.int .i64 (x:Int)) HL.o.symm,Z6 (fun x:Nat=>Value.int .i64 (x:Int)) HH.o.symm,rfl⟩
  case rest=>as_aux_lemma =>
   obtain⟨rfl,rfl,aa⟩:=hcut;replace aa:=aa.symm;subst aa;go_wp2_with fail;go_loopw [20,21,23] (fun vi vj _ wr=>∃i j:Nat,lo≤i∧i≤j∧j≤hi∧vi=.int .i64 i∧vj=.int .i64 j∧(∀x y,lo<i→A[i-1-a]?=some x→B[md-i]?=some y→k x≤k y)∧(∀x y,j<hi→A[j-a]?=some x→B[md-1-j]?=some y→k y<k x)∧Ss.At wr g sz (P++(A++(B++Q)))∧w.grownBy wr (some g)) (fun vi vj _ _=>(intOf vj).toNat-(intOf vi).toNat)
   case atStart=>exact⟨lo,hi,Za _,cm,Za _,rfl,rfl,fun x y h=>absurd h (JI _),fun x y h=>absurd h (JI _),HZ.o,zAP _ _⟩
   obtain⟨i,j,b5,hij,bu,rfl,rfl,h1,h2,ai,ap⟩:=hrel
   by_cases hlt:i<j
   · as_aux_lemma =>
     have cg:=HB.o;have b2:=HA.o;obtain⟨x,hx⟩:∃x,A[(i+j)/2-a]?=some x:=⟨_,Zb (by omega)⟩;obtain⟨y,hy⟩:∃y,B[md-1-(i+j)/2]?=some y:=⟨_,Zb (by omega)⟩;have c1:=ai.cell (zFV (P:=P) (R:=B++Q) hx);rw[HP.o,show o+a+((i+j)/2-a)=o+(i+j)/2 by omega]at c1;have c2:=ai.cell (zEI (P:=P) (A:=A) (Q:=Q) hy);rw[HP.o,show o+a+A.length+(md-1-(i+j)/2)=o+(md+m-1-(i+j)/2) by omega]at c2;have gl:=ai.lt;have iI:(i:Int)<j:=by omega
     have m0:(0:Int)≤((i:Int)+j)/2:=by omega
     have m1:((i:Int)+j)/2<n0:=by omega
     have p0:(0:Int)≤(md:Int)+m-1-((i:Int)+j)/2:=by omega
     have p1:(md:Int)+m-1-((i:Int)+j)/2<n0:=by omega
     have pt:((md:Int)+m-1-((i:Int)+j)/2).toNat=md+m-1-(i+j)/2:=by omega
     have C1:=hy' (Ext.call (w:=wr) fun W hW=>HC.o W (zA0 ap (Ss.grown_below hW)) y x);have x1:=Ext.cells c1 gl;have x2:=Ext.cells c2 gl;have bp:=hy' ai;have ax:=hy' ap;have H1:=hy' h1;have H2:=hy' h2;have HX:=hy' hx;have HY:=hy' hy;clear h1 h2 hx hy ai ap cg b2;go_wp2_with fail;refine zA7 (by kernel_rfl) (by kernel_rfl) ?_;have ak:=ej.o
     repeat (go_big_quiet_step (with_reducible exact C1.o _))
     clear ak;refine wpQuiet_nil ?_;intro xw;have bl:=hy' (bp.o.below xw.below);have dw:=hy' (zA0 ax.o (Ss.grown_below xw.below));clear x1 x2 c1 c2 gl m0 m1 p0 p1 pt
     by_cases hk:k y<k x
     · have hv:decide (zCd (k y) (k x)<0)=true:=Zp ((zCY _ _).2 hk);rw[hv,QR];have HK:=hy' hk;clear hk hv;go_wp2_with fail;refine⟨⟨i,(i+j)/2,b5,by omega,by omega,rfl,by go_num,H1.o,fun u v _ hu hv=>?_,bl.o,dw.o⟩,by simp[intOf];omega⟩;rw[HX.o]at hu;rw[HY.o]at hv;cases hu
       cases hv
       exact HK.o
     have hv:decide (zCd (k y) (k x)<0)=false:=Zq fun h=>hk ((zCY _ _).1 h)
     rw[hv,Jt];have HK:=hy' hk;clear hk hv;go_wp2_with fail;refine⟨⟨(i+j)/2+1,j,by omega,by omega,bu,by go_num,rfl,fun u v _ hu hv=>?_,H2.o,bl.o,dw.o⟩,by simp[intOf];omega⟩;rw[show (i+j)/2+1-1-a=(i+j)/2-a by omega,HX.o]at hu;rw[show md-((i+j)/2+1)=md-1-(i+j)/2 by omega,HY.o]at hv;cases hu
     cases hv
     have:=HK.o;omega
   as_aux_lemma =>
   obtain rfl:i=j:=by omega
   obtain⟨s,hs⟩:∃s,i=s:=⟨_,rfl⟩;subst hs;have cg:=HB.o;have b2:=HA.o;have ei:=ec.o;have iI:¬(i:Int)<i:=by omega
   obtain⟨f1,f2⟩:=Ss.sym (s:=i-a) (j:=md-i) (by omega) (by omega) c6.o ct.o
    (fun x y hx hj hy=>by
      have ek:=(List.getElem?_eq_some_iff.1 hx).1;have:i<hi:=by rcases b8.o with h|h <;> omega
      exact h2 x y this hx (by rw[show md-1-i=md-i-1 by omega];exact hy))
    (fun x y hs hx hy=>by
      have eo:=(List.getElem?_eq_some_iff.1 hy).1;have:lo<i:=by rcases ch.o with h|h <;> omega
      exact h1 x y this (by rw[show i-1-a=i-a-1 by omega];exact hx) hy)
   have eA:=(ZI (i-a) A).symm;have eB:=(ZI (md-i) B).symm;have b3:(A.take (i-a)).length=i-a:=by rw[Zr];omega
   have b9:(A.drop (i-a)).length=m-i:=by rw[ZN];omega
   have cf:(B.take (md-i)).length=md-i:=by rw[Zr];omega
   have cb:(B.drop (md-i)).length=b-m-(md-i):=by rw[ZN];omega
   obtain⟨A1,cz⟩:∃l,A.take (i-a)=l:=⟨_,rfl⟩;obtain⟨A2,hA2⟩:∃l,A.drop (i-a)=l:=⟨_,rfl⟩;obtain⟨B1,cv⟩:∃l,B.take (md-i)=l:=⟨_,rfl⟩;obtain⟨B2,hB2⟩:∃l,B.drop (md-i)=l:=⟨_,rfl⟩;rw[cz]at f2 b3 eA;rw[hA2]at f1 b9 eA;rw[cv]at f1 cf eB;rw[hB2]at f2 cb eB;have sA:=c6.o;have sB:=ct.o;rw[eA]at sA;rw[eB]at sB
   have ae:Ss.At wr g sz ((P++A1)++(A2++(B1++(B2++Q)))):=by
    have h:=ai;rw[eA,eB]at h;simpa using h
   obtain⟨en,ak⟩:∃en,md+m-i=en:=⟨_,rfl⟩;have bj:md+(m-i)=en:=by omega
   have bk:en+(b-m-(md-i))=b:=by omega
   have aq:m+(md-i)=en:=by omega
   have bh:(md:Int)+m-i=en:=by omega
   have eu:a≤i:=Zh b7 b5;have ep:i≤m:=Zh bu bw;have eg:i≤md:=Zh bu cj;have ck:en≤b:=by omega
   have dr:md≤en:=by omega
   have ee:m≤en:=by omega
   have di:=hy' (fun c1 c2 s1 q1 s2 q2=>zPW (c1:=c1) (c2:=c2) sA sB f1 f2 s1 q1 s2 q2);have cr:=hy' sA.left;have du:=hy' sA.right;have cx:=hy' sB.left;have cu:=hy' sB.right;have bs:=hy' b3;have bt:=hy' b9;have ar:=hy' cf;have dv:=hy' cb;have bf:=hy' bj;have au:=hy' bk;have bn:=hy' aq;have cq:=hy' bh;have EA:=hy' eA;have EB:=hy' eB;have bp:=hy' ae;have ax:=hy' ap;clear h1 h2 f1 f2 eA eB b3 b9 cf cb cz hA2 cv hB2 sA sB ai ae ap ak bj bk aq bh cg b2 ei b5 hij;obtain⟨wl,rfl⟩:∃wl:World,wl=wr:=⟨_,rfl⟩;go_upto_region 38 with (fail)
   go_cut [24] (fun v wx=>v=.int .i64 en∧wx=wl)
   case first=>as_aux_lemma =>
    go_wp2_with fail;go_meet;exact⟨Z6 (Value.int .i64) cq.o,rfl⟩
   case rest=>as_aux_lemma =>
    obtain⟨rfl,aa⟩:=hcut;replace aa:=aa.symm;subst aa;go_upto_region 39 with (fail)
    obtain⟨z1,c7⟩:∃z,(decide (i<m)&&decide (m<en))=z:=⟨_,rfl⟩;have a7:=hy' c7;clear c7;go_cut [185] (fun s wx=>s=.bool z1∧wx=wl)
    case first=>as_aux_lemma =>
     by_cases h1:i<m
     · have a6:(i:Int)<m:=by omega
       by_cases h2:m<en
       · have aw:(m:Int)<en:=by omega
         have hs:z1=true:=by rw[←a7.o];simp[h1,h2]
         subst hs;go_wp2_with fail;go_meet;exact⟨rfl,rfl⟩
       have aw:¬(m:Int)<en:=by omega
       have hs:z1=false:=by rw[←a7.o];simp[h2]
       subst hs;go_wp2_with fail;go_meet;exact⟨rfl,rfl⟩
     have a6:¬(i:Int)<m:=by omega
     have hs:z1=false:=by rw[←a7.o];simp[h1]
     subst hs;go_wp2_with fail;go_meet;exact⟨rfl,rfl⟩
    case rest=>as_aux_lemma =>
     obtain⟨rfl,aa⟩:=hcut;replace aa:=aa.symm;subst aa;go_upto_if 185 with (fail)
     go_cut [] (fun wx=>Ss.At wx g sz (P++(A1++(B1++(A2++(B2++Q)))))∧w.grownBy wx (some g))
     case first=>as_aux_lemma =>
      cases z1 with
      | true =>
        have hzz:=a7.o;rw[Zw,Yb,Yb]at hzz;have hR:=hy' (c8.o i en (P++A1) A2 B1 (B2++Q) wl bp.o (by rw[Zd,HP.o,bs.o];omega) (by rw[bt.o];omega) (by rw[ar.o];exact bn.o) hzz.1 hzz.2 (Zh ck hn));clear hzz;go_wp2_with fail;refine hR.out.mono ?_;rintro e w2 ⟨rfl,ae,ag⟩;have cc:=hy' ae;have bg:=hy' (zA0 ax.o ag);clear ae ag hR;go_wp2_with fail;go_meet;exact⟨by simpa using cc.o,bg.o⟩
      | false =>
        have hzz:=a7.o;rw[XH,ZX,ZX]at hzz
        have ay:Ss.At wl g sz (P++(A1++(B1++(A2++(B2++Q))))):=by
         have h:=bp.o;rcases hzz with hzz|hzz
         · have:A2=[]:=ZG (by rw[bt.o];omega);subst this;simpa using h
         have:B1=[]:=ZG (by rw[ar.o];have:=bn.o;omega);subst this;simpa using h
        have HF:=hy' ay;clear hzz ay;go_wp2_with fail;go_meet;exact⟨HF.o,ax.o⟩
     case rest=>as_aux_lemma =>
      obtain⟨a1,bm⟩:=hcut;obtain⟨wm,rfl⟩:∃wm:World,wm=wc:=⟨_,rfl⟩;have aj:=hy' a1;have af:=hy' bm;clear a1 bm bp ax c8;go_upto_region 41 with (fail)
      obtain⟨z2,df⟩:∃z,(decide (a<i)&&decide (i<md))=z:=⟨_,rfl⟩;have ba:=hy' df;clear df;go_cut [199] (fun s wx=>s=.bool z2∧wx=wm)
      case first=>as_aux_lemma =>
       by_cases h1:a<i
       · have a6:(a:Int)<i:=by omega
         by_cases h2:i<md
         · have aw:(i:Int)<md:=by omega
           have hs:z2=true:=by rw[←ba.o];simp[h1,h2]
           subst hs;go_wp2_with fail;go_meet;exact⟨rfl,rfl⟩
         have aw:¬(i:Int)<md:=by omega
         have hs:z2=false:=by rw[←ba.o];simp[h2]
         subst hs;go_wp2_with fail;go_meet;exact⟨rfl,rfl⟩
       have a6:¬(a:Int)<i:=by omega
       have hs:z2=false:=by rw[←ba.o];simp[h1]
       subst hs;go_wp2_with fail;go_meet;exact⟨rfl,rfl⟩
      case rest=>as_aux_lemma =>
       obtain⟨rfl,aa⟩:=hcut;replace aa:=aa.symm;subst aa;go_upto_if 199 with (fail)
       go_cut [] (fun wx=>(∃C1,Ss.so k C1∧Ss.eqv k (A1++B1) C1∧Ss.At wx g sz (P++(C1++(A2++(B2++Q)))))∧w.grownBy wx (some g))
       case first=>as_aux_lemma =>
        cases z2 with
        | true =>
          have hzz:=ba.o;rw[Zw,Yb,Yb]at hzz;have hR:=hy' (dt.o sz g o n0 cap a i md P A1 B1 (A2++(B2++Q)) wm (HC.o.grown af.o) aj.o HP.o (by rw[bs.o];omega) (by rw[ar.o];omega) hzz.1 hzz.2 (by omega) b4 b6 cr.o cx.o);clear hzz;go_wp2_with fail;refine hR.out.mono ?_;rintro e w2 ⟨rfl,bo,ag⟩;have b1:=hy' bo;have bg:=hy' (zA0 af.o ag);clear bo ag hR;go_wp2_with fail;go_meet;exact⟨b1.o,bg.o⟩
        | false =>
          have hzz:=ba.o;rw[XH,ZX,ZX]at hzz
          have az:Ss.so k (A1++B1):=by
           rcases hzz with hzz|hzz
           · have:A1=[]:=ZG (by rw[bs.o];omega);rw[this,ZK];exact cx.o
           have:B1=[]:=ZG (by rw[ar.o];omega);rw[this,Z3];exact cr.o
          have cp:=hy' az;clear hzz az;go_wp2_with fail;go_meet;exact⟨⟨A1++B1,cp.o,Ss.eqv.refl _ _,by simpa using aj.o⟩,af.o⟩
       case rest=>as_aux_lemma =>
        obtain⟨⟨C1,cw,bx,av⟩,bi⟩:=hcut;obtain⟨wn,rfl⟩:∃wn:World,wn=wc:=⟨_,rfl⟩;have cy:(P++C1).length=o+md:=by rw[Zd,HP.o,bx.length,Zd,bs.o,ar.o];omega
        have bq:Hy (Ss.At wn g sz ((P++C1)++(A2++(B2++Q)))):=hy' (by simpa using av);have ah:=hy' bi;have dm:=hy' cw;have dk:=hy' bx;have eh:=hy' cy;clear av bi cw bx cy aj af;go_upto_region 43 with (fail)
        obtain⟨z3,dp⟩:∃z,(decide (md<en)&&decide (en<b))=z:=⟨_,rfl⟩;have bb:=hy' dp;clear dp;go_cut [213] (fun s wx=>s=.bool z3∧wx=wn)
        case first=>as_aux_lemma =>
         by_cases h1:md<en
         · have a6:(md:Int)<en:=by omega
           by_cases h2:en<b
           · have aw:(en:Int)<b:=by omega
             have hs:z3=true:=by rw[←bb.o];simp[h1,h2]
             subst hs;go_wp2_with fail;go_meet;exact⟨rfl,rfl⟩
           have aw:¬(en:Int)<b:=by omega
           have hs:z3=false:=by rw[←bb.o];simp[h2]
           subst hs;go_wp2_with fail;go_meet;exact⟨rfl,rfl⟩
         have a6:¬(md:Int)<en:=by omega
         have hs:z3=false:=by rw[←bb.o];simp[h1]
         subst hs;go_wp2_with fail;go_meet;exact⟨rfl,rfl⟩
        case rest=>as_aux_lemma =>
         obtain⟨rfl,aa⟩:=hcut;replace aa:=aa.symm;subst aa;go_upto_if 213 with (fail)
         cases z3 with
         | true =>
           have hzz:=bb.o;rw[Zw,Yb,Yb]at hzz;have hR:=hy' (dt.o sz g o n0 cap md en b (P++C1) A2 B2 Q wn (HC.o.grown ah.o) bq.o eh.o (by rw[bt.o];exact bf.o) (by rw[dv.o];exact au.o) hzz.1 hzz.2 hn b4 cn du.o cu.o);clear hzz;go_wp2_with fail;refine hR.out.mono ?_;rintro e w2 ⟨rfl,bo,ag⟩;have b1:=hy' bo;have bg:=hy' (zA0 ah.o ag);clear bo ag hR;go_wp2_with fail;go_end0;obtain⟨C2,s2,q2,a2⟩:=b1.o;obtain⟨r1,r2⟩:=di.o C1 C2 dm.o dk.o s2 q2;rw[←EA.o,←EB.o]at r2;exact⟨rfl,⟨C1++C2,r1,r2,by simpa using a2⟩,bg.o⟩
         | false =>
           have hzz:=bb.o;rw[XH,ZX,ZX]at hzz
           have az:Ss.so k (A2++B2):=by
            rcases hzz with hzz|hzz
            · have:A2=[]:=ZG (by rw[bt.o];have:=bf.o;omega);rw[this,ZK];exact cu.o
            have:B2=[]:=ZG (by rw[dv.o];have:=au.o;omega);rw[this,Z3];exact du.o
           have cp:=hy' az;clear hzz az;go_wp2_with fail;go_end0;obtain⟨r1,r2⟩:=di.o C1 (A2++B2) dm.o dk.o cp.o (Ss.eqv.refl _ _);rw[←EA.o,←EB.o]at r2;exact⟨rfl,⟨C1++(A2++B2),r1,r2,by simpa using bq.o⟩,ah.o⟩
theorem zK5 (aa:FuncId) (cd:Option Addr) (k:Int→Int) (ag:∀(args:Array Value) (w:World),(callFunc aa args).run prog w=.ok (.enter aa args) w):∀N,zE7 aa cd k N
 | 0=>fun sz g o n0 cap a m b P A B Q w hC hZ hP hA hB h1 h2 hn ah hN af ae=>by omega
 | N+1=>fun sz g o n0 cap a m b P A B Q w hC hZ hP hA hB h1 h2 hn ah hN af ae=>by
   rcases Z0 A.length 2 with hA2|hA2
   · match A,hA,af,hZ,hA2 with
     | [],hA,_,_,_=>simp at hA;omega
     | [x],hA,_,hZ,_=>exact zPn aa cd k ag sz g o n0 cap a m b P x B Q w hC hZ hP (by simpa using hA) hB hn ah ae
     | x::y::l,_,_,_,h=>simp at h;omega
   rcases Z0 B.length 2 with hB2|hB2
   · match B,hB,ae,hZ,hB2 with
     | [],hB,_,_,_=>simp at hB;omega
     | [x],hB,_,hZ,_=>exact zNt aa cd k ag sz g o n0 cap a m b P A x Q w hC hZ hP hA hA2 (by simpa using hB) hn ah af
     | x::y::l,_,_,_,h=>simp at h;omega
   exact zNu aa cd k ag N (zK5 aa cd k ag N) sz g o n0 cap a m b P A B Q w hC hZ hP hA hB hA2 hB2 hn ah (by omega) af ae
def zK6 (k:Int→Int) (sz g:Nat) (P L Q:List Int) (w:World) (e:Ending) (w':World):Prop:=e=.returned (.tuple #[])∧(∃C,Ss.so k C∧Ss.eqv k L C∧Ss.At w' g sz (P++(C++Q)))∧w.grownBy w' (some g)
theorem zKR (bn:FuncId) (cd:Option Addr) (k:Int→Int) (cc:∀(args:Array Value) (w:World),(callFunc bn args).run prog w=.ok (.enter bn args) w) (b1:∀N,zE7 bn cd k N)
 (sz g o n cap:Nat) (P L Q:List Int) (w:World) (hC:Ss.Cmp bn cd k g w) (hZ:Ss.At w g sz (P++(L++Q))) (hP:P.length=o) (hL:L.length=n) (hn:n≤500000) :
 Calls prog 144 #[.slice (some ⟨g,o,none⟩) n cap,.int .i64 n,.func (.func bn) #[] #[.pointer cd]] w (zK6 k sz g P L Q w):=by
 have HC:=hy' hC;have HZ:=hy' hZ;have HP:=hy' hP;have HL:=hy' hL;have cf:=hy' (fun a b P B Q W hC h1 h2 h3 h4=>zI0 bn cd k cc sz g o n cap a b P B Q W hC h1 h2 h3 h4 (Zh hn (by decide)));have ch:=hy' (fun a m b P A B Q W hC h1 h2 h3 h4 h5 h6 h7 h8 h9=>b1 b sz g o n cap a m b P A B Q W hC h1 h2 h3 h4 h5 h6 h7 (Zh hn (by decide)) (Nat.le_add_left b a) h8 h9);clear cc b1 hC hZ hP hL;go_enter func144,ntmps144;go_wp2_with fail;go_loopw [7,8] (fun va vb wr=>∃(t a b:Nat) (L1:List Int),a=20*t∧b=a+20∧a≤n∧va=.int .i64 a∧vb=.int .i64 b∧L1.length=20*t∧Ss.chk k 20 L1∧Ss.eqv k (L.take (20*t)) L1∧Ss.At wr g sz (P++(L1++(L.drop (20*t)++Q)))∧w.grownBy wr (some g)) (fun va _ _=>n+1-(intOf va).toNat)
 case atStart=>exact⟨0,0,20,[],rfl,rfl,by omega,rfl,rfl,rfl,zJD k 20,Ss.eqv.refl _ _,by simpa using HZ.o,zAP _ _⟩
 obtain⟨t,a,b,L1,bi,a8,ht,rfl,rfl,ao,a6,bc,av,aq⟩:=hrel;have bq:=hy' a6;have bg:=hy' bc;have bj:=hy' ao;have bo:=hy' aq;have az:=hy' bi;have aw:=hy' a8
 by_cases hlt:b≤n
 · have a7:((L.drop (20*t)).take 20).length=20:=by rw[Zr,ZN,HL.o];omega
   have bh:L.drop (20*t)=(L.drop (20*t)).take 20++L.drop (20*t+20):=by rw[←Qe,ZI]
   have af:L.take (20*t+20)=L.take (20*t)++(L.drop (20*t)).take 20:=QS ..;obtain⟨B,a1⟩:∃B,(L.drop (20*t)).take 20=B:=⟨_,rfl⟩;rw[a1]at a7 bh af;have aa:Ss.At wr g sz ((P++L1)++(B++(L.drop (20*t+20)++Q))):=by rw[bh]at av;simpa using av
   have hI:=hy' (cf.o a b (P++L1) B _ wr (HC.o.grown aq) aa (by rw[Zd,HP.o,ao];omega) (by omega) hlt);have c1:(b:Int)≤n:=by omega
   have bp:=hy' a7;have bx:=hy' af;clear av aa bh af a1 a7 a6 bc ao aq bi a8;go_wp2_with fail;refine hI.out.mono ?_;rintro e w1 ⟨rfl,⟨B',hs,he,ae⟩,ai⟩;have h1:=zCS (k:=t) (l:=L1) (c:=B') (by rw[bj.o];omega) bq.o hs (by rw[he.length,bp.o];exact Za _);have h2:=bg.o.app he;rw[←bx.o]at h2;have H1:=hy' h1;have H2:=hy' h2;have H3:Hy ((L1++B').length=20*(t+1)):=hy' (by rw[Zd,bj.o,he.length,bp.o];omega);have H4:Hy (Ss.At w1 g sz (P++((L1++B')++(L.drop (20*(t+1))++Q)))):=hy' (by rw[show 20*(t+1)=20*t+20 by omega];simpa using ae);have H5:=hy' (zA0 bo.o ai);clear h1 h2 hs he ae ai hI;go_wp2_with fail;refine⟨⟨t+1,b,b+20,L1++B',by have:=az.o;have:=aw.o;omega,rfl,hlt,rfl,Z6 (Value.int .i64) (by omega),H3.o,H1.o,by rw[show 20*(t+1)=20*t+20 by omega];exact H2.o,H4.o,H5.o⟩,by have:=aw.o;simp[intOf];omega⟩
 have a7:(L.drop (20*t)).length=n-20*t:=by rw[ZN,HL.o]
 have aa:Ss.At wr g sz ((P++L1)++(L.drop (20*t)++Q)):=by simpa using av
 have hI:=hy' (cf.o a n (P++L1) (L.drop (20*t)) Q wr (HC.o.grown aq) aa (by rw[Zd,HP.o,ao];omega) (by rw[a7];omega) (Za _));have c1:¬(b:Int)≤n:=by omega
 have bp:=hy' a7;clear av aa a7 a6 bc ao aq bi a8;go_wp2_with fail;refine hI.out.mono ?_;rintro e w1 ⟨rfl,⟨B',hs,he,ae⟩,ai⟩;have h1:=zCS (k:=t) (l:=L1) (c:=B') (by rw[bj.o];omega) bq.o hs (by rw[he.length,bp.o];have:=az.o;have:=aw.o;omega);have h2:=bg.o.app he;rw[ZI]at h2;have h3:(L1++B').length=n:=by rw[Zd,bj.o,he.length,bp.o];have:=az.o;omega
 have h4:Ss.At w1 g sz (P++((L1++B')++Q)):=by simpa using ae
 have H5:=hy' (zA0 bo.o ai);obtain⟨M0,cb⟩:∃M,L1++B'=M:=⟨_,rfl⟩;rw[cb]at h1 h2 h3 h4;have H1:=hy' h1;have H2:=hy' h2;have H3:=hy' h3;have H4:=hy' h4;clear h1 h2 h3 h4 cb hs he ae ai hI bo bj bg bq bp c1 hlt ht az aw;go_wp2_with fail;go_loopw [6,7,8,9] (fun vs _ _ _ wr=>∃(bs:Nat) (L1:List Int),20≤bs∧bs≤1000000∧vs=.int .i64 bs∧L1.length=n∧Ss.chk k bs L1∧Ss.eqv k L L1∧Ss.At wr g sz (P++(L1++Q))∧w.grownBy wr (some g)) (fun vs _ _ _ _=>n+1-(intOf vs).toNat)
 case atStart=>exact⟨20,M0,Za _,by decide,rfl,H3.o,H1.o,H2.o,H4.o,H5.o⟩
 obtain⟨bs,L1,cn,cp,rfl,ao,a6,bc,av,aq⟩:=hrel;have bq:=hy' a6;have bg:=hy' bc;have bj:=hy' ao;have bo:=hy' aq;have cj:=hy' av
 by_cases hlt:bs<n
 rotate_left
 · have sI:¬(bs:Int)<n:=by omega
   have cg:=zOM a6 (by rw[ao];omega);have cm:=hy' cg;clear a6 bc ao av aq cg;go_wp2_with fail;go_end0;exact⟨rfl,⟨L1,cm.o,bg.o,cj.o⟩,bo.o⟩
 have sI:(bs:Int)<n:=by omega
 clear a6 bc ao av aq;go_wp2_with fail;obtain⟨wl,rfl⟩:∃wl:World,wl=wr:=⟨_,rfl⟩;go_loopw [7,8] (fun va vb wq=>∃(t a e:Nat) (L2:List Int),t*(2*bs)=a∧e=a+2*bs∧a≤n∧va=.int .i64 a∧vb=.int .i64 e∧L2.length=a∧Ss.chk k (2*bs) L2∧Ss.eqv k (L1.take a) L2∧Ss.At wq g sz (P++(L2++(L1.drop a++Q)))∧w.grownBy wq (some g)) (fun va _ _=>n+1-(intOf va).toNat)
 case atStart=>exact⟨0,0,2*bs,[],Nat.zero_mul _,by omega,by omega,rfl,congrArg (Value.int .i64) (by omega),rfl,zJD _ _,by simpa using Ss.eqv.refl _ _,by simpa using cj.o,bo.o⟩
 obtain⟨t,a,e0,L2,ha,b8,ht,rfl,rfl,br,ar,ax,aa,ag⟩:=hrel;have bf:=hy' b8;have b5:t*2*bs=a:=by rw[Nat.mul_assoc];exact ha
 have b7:(t*2+1)*bs=a+bs:=by rw[J9,b5]
 have b6:(t+1)*(2*bs)=a+2*bs:=by rw[J9,ha]
 have ap:=bq.o (t*2);have au:=bq.o (t*2+1);rw[b5]at ap;rw[b7]at au;have bl:=hy' ar;have ba:=hy' ax;have bm:=hy' br;have bb:=hy' ag;have ck:=hy' b6;have HA:=hy' ha;have aj:=bj.o
 by_cases hbn:e0≤n
 · have ay:L1.drop a=(L1.drop a).take bs++L1.drop (a+bs):=by rw[←Qe,ZI]
   have bh:L1.drop (a+bs)=(L1.drop (a+bs)).take bs++L1.drop (a+2*bs):=by rw[show a+2*bs=a+bs+bs by omega,←Qe (i:=bs) (j:=a+bs),ZI]
   have bk:((L1.drop a).take bs).length=bs:=by rw[Zr,ZN];omega
   have ah:((L1.drop (a+bs)).take bs).length=bs:=by rw[Zr,ZN];omega
   have af:L1.take (a+2*bs)=L1.take a++((L1.drop a).take bs++(L1.drop (a+bs)).take bs):=by
    rw[show a+2*bs=a+bs+bs by omega,QS,QS,ZD]
   obtain⟨A,bt⟩:∃A,(L1.drop a).take bs=A:=⟨_,rfl⟩;obtain⟨B,a1⟩:∃B,(L1.drop (a+bs)).take bs=B:=⟨_,rfl⟩;rw[bt]at ay bk af ap;rw[a1]at bh ah af au;have ak:Ss.At wr g sz ((P++L2)++(A++(B++(L1.drop (a+2*bs)++Q)))):=by rw[ay,bh]at aa;simpa using aa
   have hS:=hy' (ch.o a (a+bs) e0 (P++L2) A B _ wr (HC.o.grown ag) ak (by rw[Zd,HP.o,br]) (by omega) (by omega) (by omega) (by omega) hbn ap au);have c1:(e0:Int)≤n:=by omega
   have bx:=hy' af;have b2:=hy' bk;have bz:=hy' ah;clear aa ak ay bh af bt a1 bk ah ar ax br ag ap au ha b5 b7 b6 aj b8;go_wp2_with fail;rw[show (a:Int)+bs=((a+bs:Nat):Int) from by omega];refine hS.out.mono ?_;rintro e w2 ⟨rfl,⟨D,hs,he,ae⟩,ai⟩;have h1:=zCS (k:=t) (l:=L2) (c:=D) (by rw[bm.o,HA.o]) bl.o hs (by rw[he.length,Zd,b2.o,bz.o];have:=bf.o;omega);have h2:=ba.o.app he;rw[←bx.o]at h2;have bu:=hy' h1;have b4:=hy' h2;have b3:Hy ((L2++D).length=a+2*bs):=hy' (by rw[Zd,bm.o,he.length,Zd,b2.o,bz.o];omega);have bw:Hy (Ss.At w2 g sz (P++((L2++D)++(L1.drop (a+2*bs)++Q)))):=hy' (by simpa using ae);have b9:=hy' (zA0 bb.o ai);clear h1 h2 hs he ae ai hS;go_wp2_with fail;exact⟨⟨t+1,e0,e0+2*bs,L2++D,ck.o.trans bf.o.symm,rfl,hbn,rfl,Z6 (Value.int .i64) (by omega),b3.o.trans bf.o.symm,bu.o,by rw[bf.o];exact b4.o,by rw[bf.o];exact bw.o,b9.o⟩,by have:=bf.o;simp[intOf];omega⟩
 have c1:¬(e0:Int)≤n:=by omega
 by_cases hmn:a+bs<n
 · have ay:L1.drop a=(L1.drop a).take bs++L1.drop (a+bs):=by rw[←Qe,ZI]
   have bk:((L1.drop a).take bs).length=bs:=by rw[Zr,ZN];omega
   have ah:(L1.drop (a+bs)).length=n-(a+bs):=by rw[ZN];omega
   have af:L1=L1.take a++((L1.drop a).take bs++L1.drop (a+bs)):=by rw[←ay,ZI]
   rw[Zi (by rw[ah];omega)]at au;obtain⟨A,bt⟩:∃A,(L1.drop a).take bs=A:=⟨_,rfl⟩;obtain⟨B,a1⟩:∃B,L1.drop (a+bs)=B:=⟨_,rfl⟩;rw[bt]at ay bk af ap;rw[a1]at ay ah af au;have ak:Ss.At wr g sz ((P++L2)++(A++(B++Q))):=by rw[ay]at aa;simpa using aa
   have hS:=hy' (ch.o a (a+bs) n (P++L2) A B Q wr (HC.o.grown ag) ak (by rw[Zd,HP.o,br]) (by omega) (by omega) (by omega) hmn (Za _) ap au);have c4:(a:Int)+bs<n:=by omega
   have bx:=hy' af;have b2:=hy' bk;have bz:=hy' ah;clear aa ak ay af bt a1 bk ah ar ax br ag ap au ha b5 b7 b6 aj b8;go_wp2_with fail;rw[show (a:Int)+bs=((a+bs:Nat):Int) from by omega];refine hS.out.mono ?_;rintro e w2 ⟨rfl,⟨D,hs,he,ae⟩,ai⟩;have h1:=zCS (k:=t) (l:=L2) (c:=D) (by rw[bm.o,HA.o]) bl.o hs (by rw[he.length,Zd,b2.o,bz.o];have:=bf.o;omega);have h2:=ba.o.app he;rw[←bx.o]at h2;have bu:=hy' h1;have b4:=hy' (bg.o.trans h2);have b3:Hy ((L2++D).length=n):=hy' (by rw[Zd,bm.o,he.length,Zd,b2.o,bz.o];omega);have bw:Hy (Ss.At w2 g sz (P++((L2++D)++Q))):=hy' (by simpa using ae);have b9:=hy' (zA0 bb.o ai);clear h1 h2 hs he ae ai hS;go_wp2_with fail;exact⟨⟨2*bs,L2++D,by omega,by omega,Z6 (Value.int .i64) (by omega),b3.o,bu.o,b4.o,bw.o,b9.o⟩,by simp[intOf];omega⟩
 have ah:(L1.drop a).length=n-a:=by rw[ZN];omega
 rw[Zi (by rw[ah];omega)]at ap;have h1:=zCS (k:=t) (l:=L2) (c:=L1.drop a) (by rw[bm.o,HA.o]) bl.o ap (by rw[ah];omega);have h2:=ba.o.app (Ss.eqv.refl k (L1.drop a));rw[ZI]at h2;have bu:=hy' h1;have b4:=hy' (bg.o.trans h2);have b3:Hy ((L2++L1.drop a).length=n):=hy' (by rw[Zd,bm.o,ah];omega);have bw:Hy (Ss.At wr g sz (P++((L2++L1.drop a)++Q))):=hy' (by simpa using aa);have c4:¬(a:Int)+bs<n:=by omega
 clear h1 h2 aa ah ar ax br ag ap au ha b5 b7 b6 aj b8;go_wp2_with fail;exact⟨⟨2*bs,L2++L1.drop a,by omega,by omega,Z6 (Value.int .i64) (by omega),b3.o,bu.o,b4.o,bw.o,bb.o⟩,by simp[intOf];omega⟩
theorem zK7 (x:Int) (w:World):Calls prog 143 #[.int .i64 x] w fun e w'=>e=.returned (.bool false)∧w=w':=by
 go_enter func143,ntmps143;go_wp2;go_ret;exact⟨by simp,rfl⟩
theorem zKS (a b:Int) (w:World):Calls prog 119 #[.int .i64 a,.int .i64 b] w fun e w'=>e=.returned (.int .i64 (zCd a b))∧w=w':=by
 go_enter func119,ntmps119;go_wp2_with fail;refine (zK7 _ _).mono ?_;rintro e w1 ⟨rfl,rfl⟩;go_wp2_with fail;refine (zK7 _ _).mono ?_;rintro e w1 ⟨rfl,rfl⟩
 by_cases h1:a<b
 · have hc:Hy (zCd a b = -1):=hy' (Zm h1);go_wp2_with fail;go_ret;exact⟨by rw[hc.out];rfl,rfl⟩
 by_cases h2:b<a
 · have hc:Hy (zCd a b=1):=hy' (by unfold zCd;rw[if_neg h1,if_pos h2]);have h3:a > b:=h2;go_wp2_with fail;go_ret;exact⟨by rw[hc.out];rfl,rfl⟩
 have hc:Hy (zCd a b=0):=hy' (by unfold zCd;rw[if_neg h1,if_neg h2]);have h3:¬a > b:=h2;go_wp2_with fail;go_ret;exact⟨by rw[hc.out];rfl,rfl⟩
theorem zMb (v:Value) (T:List Rw.Row) (S:List Int) (db:Nat) (x y:Int) (w:World) (ok:Ud.Ok T S) (h:Ud.Is w v T S) (hd:w.cell? ⟨db,0,none⟩=some v) (aa:db<w.heap.size) :
 Calls prog 118 #[.int .i32 x,.int .i32 y,.pointer (some ⟨db,0,none⟩)] w fun e w'=>e=.returned (.int .i64 (zCd (Md.cls T x) (Md.cls T y)))∧Below w.heap.size w w':=by
 have C1:=hy' (Ext.call (w:=w) fun W hW=>Ud.class_any v T S x W ok (h.below hW));have C2:=hy' (Ext.call (w:=w) fun W hW=>Ud.class_any v T S y W ok (h.below hW));have C3:=hy' (Ext.same (w:=w) fun W hW=>zKS (Md.cls T x) (Md.cls T y) W);have x1:=Ext.cells hd aa;clear h ok;go_enter func118,ntmps118;go_wp2_with fail;refine zA7 (by kernel_rfl) (by kernel_rfl) ?_
 repeat (go_big_quiet_step ((first|(go_at_call 52;first|with_reducible exact C1.o _|with_reducible exact C2.o _)|(go_at_call 119;with_reducible exact C3.o _))))
 refine wpQuiet_nil ?_;intro xw;have HB:=hy' xw.below;go_wp2_with fail;go_ret;exact⟨rfl,HB.o⟩
theorem zMc (args:Array Value) (w:World):(callFunc 118 args).run prog w=.ok (.enter 118 args) w:=zRd func118 (by kernel_rfl) (by kernel_rfl) args w
theorem Or.sort_any (aa:FuncId) (cd:Option Addr) (k:Int→Int) (af:∀(args:Array Value) (w:World),(callFunc aa args).run prog w=.ok (.enter aa args) w) (ae:∀N,zE7 aa cd k N)
 (sz g o n cap:Nat) (P L Q:List Int) (w:World) (hC:Ss.Cmp aa cd k g w) (hZ:Ss.At w g sz (P++(L++Q))) (hP:P.length=o) (hL:L.length=n) (hn:n≤500000) :
 Calls prog 120 #[.slice (some ⟨g,o,none⟩) n cap,.func (.func aa) #[] #[.pointer cd]] w (zK6 k sz g P L Q w):=by
 have hS:=zKR aa cd k af ae sz g o n cap P L Q w hC hZ hP hL hn;clear hC hZ hP hL ae af hn;go_enter func120,ntmps120;go_wp2_with fail;refine hS.mono ?_;rintro e w1 ⟨rfl,h1,h2⟩;have H1:=hy' h1;have H2:=hy' h2;clear h1 h2 hS;go_wp2_with fail;go_end0;exact⟨rfl,H1.o,H2.o⟩
end Go.Proofs.YtjakbblocbicjaaGreatDoor
