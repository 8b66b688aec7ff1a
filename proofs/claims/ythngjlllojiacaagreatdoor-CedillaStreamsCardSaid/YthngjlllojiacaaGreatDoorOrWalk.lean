/- Merging two sorted blocks in place (symMerge), by walking; and by induction. -/
import Derived.Test.YthngjlllojiacaaGreatDoorSsSymB
set_option maxRecDepth 100000
set_option maxHeartbeats 8000000
set_option linter.unusedVariables false
set_option linter.unusedSimpArgs false
namespace Go.Proofs.YthngjlllojiacaaGreatDoor
open Go.Proofs.Tryz
open Go.RowKit
def zE6 (aa:FuncId) (cd:Option Addr) (k:Int→Int) (N:Nat):Prop:=∀(sz g o n0 cap a m b:Nat) (P A B Q:List Int) (w:World),Ss.Cmp aa cd k g w→Ss.At w g sz (P++(A++(B++Q)))→P.length=o+a→a+A.length=m→m+B.length=b→a<m→m<b→b≤n0→n0≤1000000→b≤a+N→Ss.so k A→Ss.so k B →
 Calls prog 222 #[.slice (some ⟨g,o,none⟩) n0 cap,.int .i64 a,.int .i64 m,.int .i64 b,.func (.func aa) #[] #[.pointer cd]] w (zGg k sz g P A B Q w)
theorem zN6 (ao:FuncId) (cd:Option Addr) (k:Int→Int) (ak:∀(args:Array Value) (w:World),(callFunc ao args).run prog w=.ok (.enter ao args) w) (N:Nat) (IH:zE6 ao cd k N)
 (sz g o n0 cap a m b:Nat) (P A B Q:List Int) (w:World) (hC:Ss.Cmp ao cd k g w) (hZ:Ss.At w g sz (P++(A++(B++Q)))) (hP:P.length=o+a) (hA:a+A.length=m) (hB:m+B.length=b) (hA2:2≤A.length) (hB2:2≤B.length) (hn:b≤n0) (bz:n0≤1000000) (hN:b≤a+N+1) (cy:Ss.so k A) (dv:Ss.so k B) :
 Calls prog 222 #[.slice (some ⟨g,o,none⟩) n0 cap,.int .i64 a,.int .i64 m,.int .i64 b,.func (.func ao) #[] #[.pointer cd]] w (zGg k sz g P A B Q w):=by
 have ea:=hy' ak;have HC:=hy' hC;have HZ:=hy' hZ;have HP:=hy' hP;have HA:=hy' hA;have HB:=hy' hB;have cv:=hy' cy;have c8:=hy' dv;have cz:=hy' IH;have dx:=hy' (fun s e P U V Q W h1 h2 h3 h4 h5 h6 h7=>zKt sz g o n0 cap s m e (.func (.func ao) #[] #[.pointer cd]) P U V Q W h1 h2 h3 h4 h5 h6 h7 bz);have e1:((m:Int)-a == 1)=false:=by simp;omega
 have e3:((b:Int)-m == 1)=false:=by simp;omega
 obtain⟨md,dr⟩:∃md,(a+b)/2=md:=⟨_,rfl⟩;have bh:((a:Int)+b)/2=md:=by omega
 have ej:a+2≤md:=by omega
 have ec:md+2≤b:=by omega
 have b3:md≤a+N:=by omega
 have cc:b≤md+N:=by omega
 obtain⟨lo,hi,du⟩:∃lo hi:Nat,(md<m∧lo=md+m-b∧hi=md)∨(¬md<m∧lo=a∧hi=m):=by
  by_cases h:md<m
  · exact⟨_,_,.inl ⟨h,rfl,rfl⟩⟩
  exact⟨_,_,.inr ⟨h,rfl,rfl⟩⟩
 have cm:a≤lo:=by omega
 have cn:lo≤hi:=by omega
 have ed:md+m≤lo+b:=by omega
 have b6:hi≤m:=by omega
 have b8:hi≤md:=by omega
 have bl:lo=a∨lo+b=md+m:=by omega
 have au:hi=m∨hi=md:=by omega
 have eh:=hy' du;have ei:=hy' dr;have bx:=hy' bh;have b5:=hy' bl;have b1:=hy' au;have et:a<m:=by omega
 have hmb:m<b:=by omega
 have eg:=hy' hA2;have eu:=hy' hB2;clear ak hC hZ hP cy dv IH hA hB du dr bh bl au hA2 hB2;go_enter func222,ntmps222;go_upto_region 24 with (fail)
 clear e1 e3;go_cut [18] (fun v wx=>v=.int .i64 md∧wx=w)
 case first=>as_aux_lemma =>
  go_wp2_with fail;go_meet;exact⟨ZT (Value.int .i64) bx.o,rfl⟩
 case rest=>as_aux_lemma =>
  obtain⟨rfl,aa⟩:=hcut;replace aa:=aa.symm;subst aa;go_upto_if 140 with (fail)
  go_cut [20,21] (fun u v wx=>u=.int .i64 lo∧v=.int .i64 hi∧wx=w)
  case first=>as_aux_lemma =>
   rcases eh.o with ⟨h1,h2,h3⟩|⟨h1,h2,h3⟩
   · have HL:=hy' h2;have HH:=hy' h3;have cx:(md:Int)+m-b=lo:=by have:=ei.o;omega
     have dz:=hy' cx;clear h2 h3 cx;go_wp2_with fail;go_meet;exact⟨ZT (Value.int .i64) dz.o,ZT (fun x:Nat=>Value.int .i64 (x:Int)) HH.o.symm,rfl⟩
   have HL:=hy' h2;have HH:=hy' h3;clear h2 h3;go_wp2_with fail;go_meet;exact⟨ZT (fun x:Nat=>Value.int .i64 (x:Int)) HL.o.symm,ZT (fun x:Nat=>Value.int .i64 (x:Int)) HH.o.symm,rfl⟩
  case rest=>as_aux_lemma =>
   obtain⟨rfl,rfl,aa⟩:=hcut;replace aa:=aa.symm;subst aa;go_wp2_with fail;go_loopw [20,21,23] (fun vi vj _ wr=>∃i j:Nat,lo≤i∧i≤j∧j≤hi∧vi=.int .i64 i∧vj=.int .i64 j∧(∀x y,lo<i→A[i-1-a]?=some x→B[md-i]?=some y→k x≤k y)∧(∀x y,j<hi→A[j-a]?=some x→B[md-1-j]?=some y→k y<k x)∧Ss.At wr g sz (P++(A++(B++Q)))∧w.grownBy wr (some g)) (fun vi vj _ _=>(intOf vj).toNat-(intOf vi).toNat)
   case atStart=>exact⟨lo,hi,Za _,cn,Za _,rfl,rfl,fun x y h=>absurd h (JD _),fun x y h=>absurd h (JD _),HZ.o,zAO _ _⟩
   obtain⟨i,j,cq,hij,cf,rfl,rfl,h1,h2,ai,ay⟩:=hrel
   by_cases hlt:i<j
   · as_aux_lemma =>
     have ck:=HB.o;have cg:=HA.o;obtain⟨x,hx⟩:∃x,A[(i+j)/2-a]?=some x:=⟨_,Zb (by omega)⟩;obtain⟨y,hy⟩:∃y,B[md-1-(i+j)/2]?=some y:=⟨_,Zb (by omega)⟩;have c1:=ai.cell (zFM (P:=P) (R:=B++Q) hx);rw[HP.o,show o+a+((i+j)/2-a)=o+(i+j)/2 by omega]at c1;have c2:=ai.cell (zEE (P:=P) (A:=A) (Q:=Q) hy);rw[HP.o,show o+a+A.length+(md-1-(i+j)/2)=o+(md+m-1-(i+j)/2) by omega]at c2;have gl:=ai.lt;have iI:(i:Int)<j:=by omega
     have m0:(0:Int)≤((i:Int)+j)/2:=by omega
     have m1:((i:Int)+j)/2<n0:=by omega
     have p0:(0:Int)≤(md:Int)+m-1-((i:Int)+j)/2:=by omega
     have p1:(md:Int)+m-1-((i:Int)+j)/2<n0:=by omega
     have pt:((md:Int)+m-1-((i:Int)+j)/2).toNat=md+m-1-(i+j)/2:=by omega
     have C1:=hy' (Ext.call (w:=wr) fun W hW=>HC.o W (zA0 ay (Ss.grown_below hW)) y x);have x1:=Ext.cells c1 gl;have x2:=Ext.cells c2 gl;have aw:=hy' ai;have ax:=hy' ay;have H1:=hy' h1;have H2:=hy' h2;have HX:=hy' hx;have HY:=hy' hy;clear h1 h2 hx hy ai ay ck cg;go_wp2_with fail;refine zA7 (by kernel_rfl) (by kernel_rfl) ?_;have ak:=ea.o
     repeat (go_big_quiet_step (with_reducible exact C1.o _))
     clear ak;refine wpQuiet_nil ?_;intro xw;have ba:=hy' (aw.o.below xw.below);have di:=hy' (zA0 ax.o (Ss.grown_below xw.below));clear x1 x2 c1 c2 gl m0 m1 p0 p1 pt
     by_cases hk:k y<k x
     · have hv:decide (zCc (k y) (k x)<0)=true:=Zu ((zCZ _ _).2 hk);rw[hv,QN];have HK:=hy' hk;clear hk hv;go_wp2_with fail;refine⟨⟨i,(i+j)/2,cq,by omega,by omega,rfl,by go_num,H1.o,fun u v _ hu hv=>?_,ba.o,di.o⟩,by simp[intOf];omega⟩;rw[HX.o]at hu;rw[HY.o]at hv;cases hu
       cases hv
       exact HK.o
     have hv:decide (zCc (k y) (k x)<0)=false:=Zt fun h=>hk ((zCZ _ _).1 h)
     rw[hv,Jr];have HK:=hy' hk;clear hk hv;go_wp2_with fail;refine⟨⟨(i+j)/2+1,j,by omega,by omega,cf,by go_num,rfl,fun u v _ hu hv=>?_,H2.o,ba.o,di.o⟩,by simp[intOf];omega⟩;rw[show (i+j)/2+1-1-a=(i+j)/2-a by omega,HX.o]at hu;rw[show md-((i+j)/2+1)=md-1-(i+j)/2 by omega,HY.o]at hv;cases hu
     cases hv
     have:=HK.o;omega
   as_aux_lemma =>
   obtain rfl:i=j:=by omega
   obtain⟨s,hs⟩:∃s,i=s:=⟨_,rfl⟩;subst hs;have ck:=HB.o;have cg:=HA.o;have ee:=eg.o;have iI:¬(i:Int)<i:=by omega
   obtain⟨f1,f2⟩:=Ss.sym (s:=i-a) (j:=md-i) (by omega) (by omega) cv.o c8.o
    (fun x y hx hj hy=>by
      have er:=(List.getElem?_eq_some_iff.1 hx).1;have:i<hi:=by rcases b1.o with h|h <;> omega
      exact h2 x y this hx (by rw[show md-1-i=md-i-1 by omega];exact hy))
    (fun x y hs hx hy=>by
      have ek:=(List.getElem?_eq_some_iff.1 hy).1;have:lo<i:=by rcases b5.o with h|h <;> omega
      exact h1 x y this (by rw[show i-1-a=i-a-1 by omega];exact hx) hy)
   have eA:=(ZE (i-a) A).symm;have eB:=(ZE (md-i) B).symm;have b4:(A.take (i-a)).length=i-a:=by rw[Zr];omega
   have b9:(A.drop (i-a)).length=m-i:=by rw[ZM];omega
   have cj:(B.take (md-i)).length=md-i:=by rw[Zr];omega
   have b2:(B.drop (md-i)).length=b-m-(md-i):=by rw[ZM];omega
   obtain⟨A1,ct⟩:∃l,A.take (i-a)=l:=⟨_,rfl⟩;obtain⟨A2,hA2⟩:∃l,A.drop (i-a)=l:=⟨_,rfl⟩;obtain⟨B1,dw⟩:∃l,B.take (md-i)=l:=⟨_,rfl⟩;obtain⟨B2,hB2⟩:∃l,B.drop (md-i)=l:=⟨_,rfl⟩;rw[ct]at f2 b4 eA;rw[hA2]at f1 b9 eA;rw[dw]at f1 cj eB;rw[hB2]at f2 b2 eB;have sA:=cv.o;have sB:=c8.o;rw[eA]at sA;rw[eB]at sB
   have ae:Ss.At wr g sz ((P++A1)++(A2++(B1++(B2++Q)))):=by
    have h:=ai;rw[eA,eB]at h;simpa using h
   obtain⟨en,ak⟩:∃en,md+m-i=en:=⟨_,rfl⟩;have a1:md+(m-i)=en:=by omega
   have a8:en+(b-m-(md-i))=b:=by omega
   have bi:m+(md-i)=en:=by omega
   have bb:(md:Int)+m-i=en:=by omega
   have eo:a≤i:=Zh cm cq;have ep:i≤m:=Zh cf b6;have eb:i≤md:=Zh cf b8;have cb:en≤b:=by omega
   have c6:md≤en:=by omega
   have ef:m≤en:=by omega
   have dm:=hy' (fun c1 c2 s1 q1 s2 q2=>zPB (c1:=c1) (c2:=c2) sA sB f1 f2 s1 q1 s2 q2);have dp:=hy' sA.left;have cu:=hy' sA.right;have c7:=hy' sB.left;have dn:=hy' sB.right;have bt:=hy' b4;have bs:=hy' b9;have ap:=hy' cj;have df:=hy' b2;have ar:=hy' a1;have bk:=hy' a8;have br:=hy' bi;have cp:=hy' bb;have EA:=hy' eA;have EB:=hy' eB;have aw:=hy' ae;have ax:=hy' ay;clear h1 h2 f1 f2 eA eB b4 b9 cj b2 ct hA2 dw hB2 sA sB ai ae ay ak a1 a8 bi bb ck cg ee cq hij;obtain⟨wl,rfl⟩:∃wl:World,wl=wr:=⟨_,rfl⟩;go_upto_region 38 with (fail)
   go_cut [24] (fun v wx=>v=.int .i64 en∧wx=wl)
   case first=>as_aux_lemma =>
    go_wp2_with fail;go_meet;exact⟨ZT (Value.int .i64) cp.o,rfl⟩
   case rest=>as_aux_lemma =>
    obtain⟨rfl,aa⟩:=hcut;replace aa:=aa.symm;subst aa;go_upto_region 39 with (fail)
    obtain⟨z1,dc⟩:∃z,(decide (i<m)&&decide (m<en))=z:=⟨_,rfl⟩;have bq:=hy' dc;clear dc;go_cut [185] (fun s wx=>s=.bool z1∧wx=wl)
    case first=>as_aux_lemma =>
     by_cases h1:i<m
     · have a7:(i:Int)<m:=by omega
       by_cases h2:m<en
       · have bp:(m:Int)<en:=by omega
         have hs:z1=true:=by rw[←bq.o];simp[h1,h2]
         subst hs;go_wp2_with fail;go_meet;exact⟨rfl,rfl⟩
       have bp:¬(m:Int)<en:=by omega
       have hs:z1=false:=by rw[←bq.o];simp[h2]
       subst hs;go_wp2_with fail;go_meet;exact⟨rfl,rfl⟩
     have a7:¬(i:Int)<m:=by omega
     have hs:z1=false:=by rw[←bq.o];simp[h1]
     subst hs;go_wp2_with fail;go_meet;exact⟨rfl,rfl⟩
    case rest=>as_aux_lemma =>
     obtain⟨rfl,aa⟩:=hcut;replace aa:=aa.symm;subst aa;go_upto_if 185 with (fail)
     go_cut [] (fun wx=>Ss.At wx g sz (P++(A1++(B1++(A2++(B2++Q)))))∧w.grownBy wx (some g))
     case first=>as_aux_lemma =>
      cases z1 with
      | true =>
        have hzz:=bq.o;rw[Zs,Yu,Yu]at hzz;have hR:=hy' (dx.o i en (P++A1) A2 B1 (B2++Q) wl aw.o (by rw[Zd,HP.o,bt.o];omega) (by rw[bs.o];omega) (by rw[ap.o];exact br.o) hzz.1 hzz.2 (Zh cb hn));clear hzz;go_wp2_with fail;refine hR.out.mono ?_;rintro e w2 ⟨rfl,ae,ag⟩;have bu:=hy' ae;have av:=hy' (zA0 ax.o ag);clear ae ag hR;go_wp2_with fail;go_meet;exact⟨by simpa using bu.o,av.o⟩
      | false =>
        have hzz:=bq.o;rw[XI,ZY,ZY]at hzz
        have aq:Ss.At wl g sz (P++(A1++(B1++(A2++(B2++Q))))):=by
         have h:=aw.o;rcases hzz with hzz|hzz
         · have:A2=[]:=ZD (by rw[bs.o];omega);subst this;simpa using h
         have:B1=[]:=ZD (by rw[ap.o];have:=br.o;omega);subst this;simpa using h
        have HF:=hy' aq;clear hzz aq;go_wp2_with fail;go_meet;exact⟨HF.o,ax.o⟩
     case rest=>as_aux_lemma =>
      obtain⟨az,bn⟩:=hcut;obtain⟨wm,rfl⟩:∃wm:World,wm=wc:=⟨_,rfl⟩;have aj:=hy' az;have af:=hy' bn;clear az bn aw ax dx;go_upto_region 41 with (fail)
      obtain⟨z2,dh⟩:∃z,(decide (a<i)&&decide (i<md))=z:=⟨_,rfl⟩;have bc:=hy' dh;clear dh;go_cut [199] (fun s wx=>s=.bool z2∧wx=wm)
      case first=>as_aux_lemma =>
       by_cases h1:a<i
       · have a7:(a:Int)<i:=by omega
         by_cases h2:i<md
         · have bp:(i:Int)<md:=by omega
           have hs:z2=true:=by rw[←bc.o];simp[h1,h2]
           subst hs;go_wp2_with fail;go_meet;exact⟨rfl,rfl⟩
         have bp:¬(i:Int)<md:=by omega
         have hs:z2=false:=by rw[←bc.o];simp[h2]
         subst hs;go_wp2_with fail;go_meet;exact⟨rfl,rfl⟩
       have a7:¬(a:Int)<i:=by omega
       have hs:z2=false:=by rw[←bc.o];simp[h1]
       subst hs;go_wp2_with fail;go_meet;exact⟨rfl,rfl⟩
      case rest=>as_aux_lemma =>
       obtain⟨rfl,aa⟩:=hcut;replace aa:=aa.symm;subst aa;go_upto_if 199 with (fail)
       go_cut [] (fun wx=>(∃C1,Ss.so k C1∧Ss.eqv k (A1++B1) C1∧Ss.At wx g sz (P++(C1++(A2++(B2++Q)))))∧w.grownBy wx (some g))
       case first=>as_aux_lemma =>
        cases z2 with
        | true =>
          have hzz:=bc.o;rw[Zs,Yu,Yu]at hzz;have hR:=hy' (cz.o sz g o n0 cap a i md P A1 B1 (A2++(B2++Q)) wm (HC.o.grown af.o) aj.o HP.o (by rw[bt.o];omega) (by rw[ap.o];omega) hzz.1 hzz.2 (by omega) bz b3 dp.o c7.o);clear hzz;go_wp2_with fail;refine hR.out.mono ?_;rintro e w2 ⟨rfl,a6,ag⟩;have bw:=hy' a6;have av:=hy' (zA0 af.o ag);clear a6 ag hR;go_wp2_with fail;go_meet;exact⟨bw.o,av.o⟩
        | false =>
          have hzz:=bc.o;rw[XI,ZY,ZY]at hzz
          have bm:Ss.so k (A1++B1):=by
           rcases hzz with hzz|hzz
           · have:A1=[]:=ZD (by rw[bt.o];omega);rw[this,ZH];exact c7.o
           have:B1=[]:=ZD (by rw[ap.o];omega);rw[this,Z3];exact dp.o
          have ch:=hy' bm;clear hzz bm;go_wp2_with fail;go_meet;exact⟨⟨A1++B1,ch.o,Ss.eqv.refl _ _,by simpa using aj.o⟩,af.o⟩
       case rest=>as_aux_lemma =>
        obtain⟨⟨C1,cw,b7,bg⟩,bo⟩:=hcut;obtain⟨wn,rfl⟩:∃wn:World,wn=wc:=⟨_,rfl⟩;have dl:(P++C1).length=o+md:=by rw[Zd,HP.o,b7.length,Zd,bt.o,ap.o];omega
        have bj:Hy (Ss.At wn g sz ((P++C1)++(A2++(B2++Q)))):=hy' (by simpa using bg);have ah:=hy' bo;have dt:=hy' cw;have dk:=hy' b7;have dy:=hy' dl;clear bg bo cw b7 dl aj af;go_upto_region 43 with (fail)
        obtain⟨z3,cr⟩:∃z,(decide (md<en)&&decide (en<b))=z:=⟨_,rfl⟩;have bf:=hy' cr;clear cr;go_cut [213] (fun s wx=>s=.bool z3∧wx=wn)
        case first=>as_aux_lemma =>
         by_cases h1:md<en
         · have a7:(md:Int)<en:=by omega
           by_cases h2:en<b
           · have bp:(en:Int)<b:=by omega
             have hs:z3=true:=by rw[←bf.o];simp[h1,h2]
             subst hs;go_wp2_with fail;go_meet;exact⟨rfl,rfl⟩
           have bp:¬(en:Int)<b:=by omega
           have hs:z3=false:=by rw[←bf.o];simp[h2]
           subst hs;go_wp2_with fail;go_meet;exact⟨rfl,rfl⟩
         have a7:¬(md:Int)<en:=by omega
         have hs:z3=false:=by rw[←bf.o];simp[h1]
         subst hs;go_wp2_with fail;go_meet;exact⟨rfl,rfl⟩
        case rest=>as_aux_lemma =>
         obtain⟨rfl,aa⟩:=hcut;replace aa:=aa.symm;subst aa;go_upto_if 213 with (fail)
         cases z3 with
         | true =>
           have hzz:=bf.o;rw[Zs,Yu,Yu]at hzz;have hR:=hy' (cz.o sz g o n0 cap md en b (P++C1) A2 B2 Q wn (HC.o.grown ah.o) bj.o dy.o (by rw[bs.o];exact ar.o) (by rw[df.o];exact bk.o) hzz.1 hzz.2 hn bz cc cu.o dn.o);clear hzz;go_wp2_with fail;refine hR.out.mono ?_;rintro e w2 ⟨rfl,a6,ag⟩;have bw:=hy' a6;have av:=hy' (zA0 ah.o ag);clear a6 ag hR;go_wp2_with fail;go_end0;obtain⟨C2,s2,q2,a2⟩:=bw.o;obtain⟨r1,r2⟩:=dm.o C1 C2 dt.o dk.o s2 q2;rw[←EA.o,←EB.o]at r2;exact⟨rfl,⟨C1++C2,r1,r2,by simpa using a2⟩,av.o⟩
         | false =>
           have hzz:=bf.o;rw[XI,ZY,ZY]at hzz
           have bm:Ss.so k (A2++B2):=by
            rcases hzz with hzz|hzz
            · have:A2=[]:=ZD (by rw[bs.o];have:=ar.o;omega);rw[this,ZH];exact dn.o
            have:B2=[]:=ZD (by rw[df.o];have:=bk.o;omega);rw[this,Z3];exact cu.o
           have ch:=hy' bm;clear hzz bm;go_wp2_with fail;go_end0;obtain⟨r1,r2⟩:=dm.o C1 (A2++B2) dt.o dk.o ch.o (Ss.eqv.refl _ _);rw[←EA.o,←EB.o]at r2;exact⟨rfl,⟨C1++(A2++B2),r1,r2,by simpa using bj.o⟩,ah.o⟩
theorem zJL (aa:FuncId) (cd:Option Addr) (k:Int→Int) (ag:∀(args:Array Value) (w:World),(callFunc aa args).run prog w=.ok (.enter aa args) w):∀N,zE6 aa cd k N
 | 0=>fun sz g o n0 cap a m b P A B Q w hC hZ hP hA hB h1 h2 hn ae hN ah af=>by omega
 | N+1=>fun sz g o n0 cap a m b P A B Q w hC hZ hP hA hB h1 h2 hn ae hN ah af=>by
   rcases ZZ A.length 2 with hA2|hA2
   · match A,hA,ah,hZ,hA2 with
     | [],hA,_,_,_=>simp at hA;omega
     | [x],hA,_,hZ,_=>exact zOX aa cd k ag sz g o n0 cap a m b P x B Q w hC hZ hP (by simpa using hA) hB hn ae af
     | x::y::l,_,_,_,h=>simp at h;omega
   rcases ZZ B.length 2 with hB2|hB2
   · match B,hB,af,hZ,hB2 with
     | [],hB,_,_,_=>simp at hB;omega
     | [x],hB,_,hZ,_=>exact zN5 aa cd k ag sz g o n0 cap a m b P A x Q w hC hZ hP hA hA2 (by simpa using hB) hn ae ah
     | x::y::l,_,_,_,h=>simp at h;omega
   exact zN6 aa cd k ag N (zJL aa cd k ag N) sz g o n0 cap a m b P A B Q w hC hZ hP hA hB hA2 hB2 hn ae (by omega) ah af
def zJM (k:Int→Int) (sz g:Nat) (P L Q:List Int) (w:World) (e:Ending) (w':World):Prop:=e=.returned (.tuple #[])∧(∃C,Ss.so k C∧Ss.eqv k L C∧Ss.At w' g sz (P++(C++Q)))∧w.grownBy w' (some g)
theorem zKu (bp:FuncId) (cd:Option Addr) (k:Int→Int) (cf:∀(args:Array Value) (w:World),(callFunc bp args).run prog w=.ok (.enter bp args) w) (bu:∀N,zE6 bp cd k N)
 (sz g o n cap:Nat) (P L Q:List Int) (w:World) (hC:Ss.Cmp bp cd k g w) (hZ:Ss.At w g sz (P++(L++Q))) (hP:P.length=o) (hL:L.length=n) (hn:n≤500000) :
 Calls prog 194 #[.slice (some ⟨g,o,none⟩) n cap,.int .i64 n,.func (.func bp) #[] #[.pointer cd]] w (zJM k sz g P L Q w):=by
 have HC:=hy' hC;have HZ:=hy' hZ;have HP:=hy' hP;have HL:=hy' hL;have cc:=hy' (fun a b P B Q W hC h1 h2 h3 h4=>zHJ bp cd k cf sz g o n cap a b P B Q W hC h1 h2 h3 h4 (Zh hn (by decide)));have cb:=hy' (fun a m b P A B Q W hC h1 h2 h3 h4 h5 h6 h7 h8 h9=>bu b sz g o n cap a m b P A B Q W hC h1 h2 h3 h4 h5 h6 h7 (Zh hn (by decide)) (Nat.le_add_left b a) h8 h9);clear cf bu hC hZ hP hL;go_enter func194,ntmps194;go_wp2_with fail;go_loopw [7,8] (fun va vb wr=>∃(t a b:Nat) (L1:List Int),a=20*t∧b=a+20∧a≤n∧va=.int .i64 a∧vb=.int .i64 b∧L1.length=20*t∧Ss.chk k 20 L1∧Ss.eqv k (L.take (20*t)) L1∧Ss.At wr g sz (P++(L1++(L.drop (20*t)++Q)))∧w.grownBy wr (some g)) (fun va _ _=>n+1-(intOf va).toNat)
 case atStart=>exact⟨0,0,20,[],rfl,rfl,by omega,rfl,rfl,rfl,zJj k 20,Ss.eqv.refl _ _,by simpa using HZ.o,zAO _ _⟩
 obtain⟨t,a,b,L1,bl,bb,ht,rfl,rfl,ap,a6,a7,ar,ax⟩:=hrel;have br:=hy' a6;have bi:=hy' a7;have bh:=hy' ap;have bq:=hy' ax;have av:=hy' bl;have au:=hy' bb
 by_cases hlt:b≤n
 · have bk:((L.drop (20*t)).take 20).length=20:=by rw[Zr,ZM,HL.o];omega
   have bf:L.drop (20*t)=(L.drop (20*t)).take 20++L.drop (20*t+20):=by rw[←XM,ZE]
   have ag:L.take (20*t+20)=L.take (20*t)++(L.drop (20*t)).take 20:=Qn ..;obtain⟨B,a1⟩:∃B,(L.drop (20*t)).take 20=B:=⟨_,rfl⟩;rw[a1]at bk bf ag;have aa:Ss.At wr g sz ((P++L1)++(B++(L.drop (20*t+20)++Q))):=by rw[bf]at ar;simpa using ar
   have hI:=hy' (cc.o a b (P++L1) B _ wr (HC.o.grown ax) aa (by rw[Zd,HP.o,ap];omega) (by omega) hlt);have c1:(b:Int)≤n:=by omega
   have bn:=hy' bk;have b4:=hy' ag;clear ar aa bf ag a1 bk a6 a7 ap ax bl bb;go_wp2_with fail;refine hI.out.mono ?_;rintro e w1 ⟨rfl,⟨B',hs,he,ae⟩,ak⟩;have h1:=zCT (k:=t) (l:=L1) (c:=B') (by rw[bh.o];omega) br.o hs (by rw[he.length,bn.o];exact Za _);have h2:=bi.o.app he;rw[←b4.o]at h2;have H1:=hy' h1;have H2:=hy' h2;have H3:Hy ((L1++B').length=20*(t+1)):=hy' (by rw[Zd,bh.o,he.length,bn.o];omega);have H4:Hy (Ss.At w1 g sz (P++((L1++B')++(L.drop (20*(t+1))++Q)))):=hy' (by rw[show 20*(t+1)=20*t+20 by omega];simpa using ae);have H5:=hy' (zA0 bq.o ak);clear h1 h2 hs he ae ak hI;go_wp2_with fail;refine⟨⟨t+1,b,b+20,L1++B',by have:=av.o;have:=au.o;omega,rfl,hlt,rfl,ZT (Value.int .i64) (by omega),H3.o,H1.o,by rw[show 20*(t+1)=20*t+20 by omega];exact H2.o,H4.o,H5.o⟩,by have:=au.o;simp[intOf];omega⟩
 have bk:(L.drop (20*t)).length=n-20*t:=by rw[ZM,HL.o]
 have aa:Ss.At wr g sz ((P++L1)++(L.drop (20*t)++Q)):=by simpa using ar
 have hI:=hy' (cc.o a n (P++L1) (L.drop (20*t)) Q wr (HC.o.grown ax) aa (by rw[Zd,HP.o,ap];omega) (by rw[bk];omega) (Za _));have c1:¬(b:Int)≤n:=by omega
 have bn:=hy' bk;clear ar aa bk a6 a7 ap ax bl bb;go_wp2_with fail;refine hI.out.mono ?_;rintro e w1 ⟨rfl,⟨B',hs,he,ae⟩,ak⟩;have h1:=zCT (k:=t) (l:=L1) (c:=B') (by rw[bh.o];omega) br.o hs (by rw[he.length,bn.o];have:=av.o;have:=au.o;omega);have h2:=bi.o.app he;rw[ZE]at h2;have h3:(L1++B').length=n:=by rw[Zd,bh.o,he.length,bn.o];have:=av.o;omega
 have h4:Ss.At w1 g sz (P++((L1++B')++Q)):=by simpa using ae
 have H5:=hy' (zA0 bq.o ak);obtain⟨M0,cj⟩:∃M,L1++B'=M:=⟨_,rfl⟩;rw[cj]at h1 h2 h3 h4;have H1:=hy' h1;have H2:=hy' h2;have H3:=hy' h3;have H4:=hy' h4;clear h1 h2 h3 h4 cj hs he ae ak hI bq bh bi br bn c1 hlt ht av au;go_wp2_with fail;go_loopw [6,7,8,9] (fun vs _ _ _ wr=>∃(bs:Nat) (L1:List Int),20≤bs∧bs≤1000000∧vs=.int .i64 bs∧L1.length=n∧Ss.chk k bs L1∧Ss.eqv k L L1∧Ss.At wr g sz (P++(L1++Q))∧w.grownBy wr (some g)) (fun vs _ _ _ _=>n+1-(intOf vs).toNat)
 case atStart=>exact⟨20,M0,Za _,by decide,rfl,H3.o,H1.o,H2.o,H4.o,H5.o⟩
 obtain⟨bs,L1,cp,cn,rfl,ap,a6,a7,ar,ax⟩:=hrel;have br:=hy' a6;have bi:=hy' a7;have bh:=hy' ap;have bq:=hy' ax;have ch:=hy' ar
 by_cases hlt:bs<n
 rotate_left
 · have sI:¬(bs:Int)<n:=by omega
   have cg:=zOm a6 (by rw[ap];omega);have cm:=hy' cg;clear a6 a7 ap ar ax cg;go_wp2_with fail;go_end0;exact⟨rfl,⟨L1,cm.o,bi.o,ch.o⟩,bq.o⟩
 have sI:(bs:Int)<n:=by omega
 clear a6 a7 ap ar ax;go_wp2_with fail;obtain⟨wl,rfl⟩:∃wl:World,wl=wr:=⟨_,rfl⟩;go_loopw [7,8] (fun va vb wq=>∃(t a e:Nat) (L2:List Int),t*(2*bs)=a∧e=a+2*bs∧a≤n∧va=.int .i64 a∧vb=.int .i64 e∧L2.length=a∧Ss.chk k (2*bs) L2∧Ss.eqv k (L1.take a) L2∧Ss.At wq g sz (P++(L2++(L1.drop a++Q)))∧w.grownBy wq (some g)) (fun va _ _=>n+1-(intOf va).toNat)
 case atStart=>exact⟨0,0,2*bs,[],Nat.zero_mul _,by omega,by omega,rfl,congrArg (Value.int .i64) (by omega),rfl,zJj _ _,by simpa using Ss.eqv.refl _ _,by simpa using ch.o,bq.o⟩
 obtain⟨t,a,e0,L2,ha,b6,ht,rfl,rfl,bm,az,aq,aa,af⟩:=hrel;have ba:=hy' b6;have bx:t*2*bs=a:=by rw[Nat.mul_assoc];exact ha
 have b7:(t*2+1)*bs=a+bs:=by rw[J5,bx]
 have b8:(t+1)*(2*bs)=a+2*bs:=by rw[J5,ha]
 have ao:=br.o (t*2);have aw:=br.o (t*2+1);rw[bx]at ao;rw[b7]at aw;have bj:=hy' az;have bc:=hy' aq;have bo:=hy' bm;have bg:=hy' af;have ck:=hy' b8;have HA:=hy' ha;have aj:=bh.o
 by_cases hbn:e0≤n
 · have ay:L1.drop a=(L1.drop a).take bs++L1.drop (a+bs):=by rw[←XM,ZE]
   have bf:L1.drop (a+bs)=(L1.drop (a+bs)).take bs++L1.drop (a+2*bs):=by rw[show a+2*bs=a+bs+bs by omega,←XM (i:=bs) (j:=a+bs),ZE]
   have a8:((L1.drop a).take bs).length=bs:=by rw[Zr,ZM];omega
   have ah:((L1.drop (a+bs)).take bs).length=bs:=by rw[Zr,ZM];omega
   have ag:L1.take (a+2*bs)=L1.take a++((L1.drop a).take bs++(L1.drop (a+bs)).take bs):=by
    rw[show a+2*bs=a+bs+bs by omega,Qn,Qn,Zz]
   obtain⟨A,bw⟩:∃A,(L1.drop a).take bs=A:=⟨_,rfl⟩;obtain⟨B,a1⟩:∃B,(L1.drop (a+bs)).take bs=B:=⟨_,rfl⟩;rw[bw]at ay a8 ag ao;rw[a1]at bf ah ag aw;have ai:Ss.At wr g sz ((P++L2)++(A++(B++(L1.drop (a+2*bs)++Q)))):=by rw[ay,bf]at aa;simpa using aa
   have hS:=hy' (cb.o a (a+bs) e0 (P++L2) A B _ wr (HC.o.grown af) ai (by rw[Zd,HP.o,bm]) (by omega) (by omega) (by omega) (by omega) hbn ao aw);have c1:(e0:Int)≤n:=by omega
   have b4:=hy' ag;have b1:=hy' a8;have bt:=hy' ah;clear aa ai ay bf ag bw a1 a8 ah az aq bm af ao aw ha bx b7 b8 aj b6;go_wp2_with fail;rw[show (a:Int)+bs=((a+bs:Nat):Int) from by omega];refine hS.out.mono ?_;rintro e w2 ⟨rfl,⟨D,hs,he,ae⟩,ak⟩;have h1:=zCT (k:=t) (l:=L2) (c:=D) (by rw[bo.o,HA.o]) bj.o hs (by rw[he.length,Zd,b1.o,bt.o];have:=ba.o;omega);have h2:=bc.o.app he;rw[←b4.o]at h2;have b3:=hy' h1;have b2:=hy' h2;have bz:Hy ((L2++D).length=a+2*bs):=hy' (by rw[Zd,bo.o,he.length,Zd,b1.o,bt.o];omega);have b5:Hy (Ss.At w2 g sz (P++((L2++D)++(L1.drop (a+2*bs)++Q)))):=hy' (by simpa using ae);have b9:=hy' (zA0 bg.o ak);clear h1 h2 hs he ae ak hS;go_wp2_with fail;exact⟨⟨t+1,e0,e0+2*bs,L2++D,ck.o.trans ba.o.symm,rfl,hbn,rfl,ZT (Value.int .i64) (by omega),bz.o.trans ba.o.symm,b3.o,by rw[ba.o];exact b2.o,by rw[ba.o];exact b5.o,b9.o⟩,by have:=ba.o;simp[intOf];omega⟩
 have c1:¬(e0:Int)≤n:=by omega
 by_cases hmn:a+bs<n
 · have ay:L1.drop a=(L1.drop a).take bs++L1.drop (a+bs):=by rw[←XM,ZE]
   have a8:((L1.drop a).take bs).length=bs:=by rw[Zr,ZM];omega
   have ah:(L1.drop (a+bs)).length=n-(a+bs):=by rw[ZM];omega
   have ag:L1=L1.take a++((L1.drop a).take bs++L1.drop (a+bs)):=by rw[←ay,ZE]
   rw[Zi (by rw[ah];omega)]at aw;obtain⟨A,bw⟩:∃A,(L1.drop a).take bs=A:=⟨_,rfl⟩;obtain⟨B,a1⟩:∃B,L1.drop (a+bs)=B:=⟨_,rfl⟩;rw[bw]at ay a8 ag ao;rw[a1]at ay ah ag aw;have ai:Ss.At wr g sz ((P++L2)++(A++(B++Q))):=by rw[ay]at aa;simpa using aa
   have hS:=hy' (cb.o a (a+bs) n (P++L2) A B Q wr (HC.o.grown af) ai (by rw[Zd,HP.o,bm]) (by omega) (by omega) (by omega) hmn (Za _) ao aw);have c4:(a:Int)+bs<n:=by omega
   have b4:=hy' ag;have b1:=hy' a8;have bt:=hy' ah;clear aa ai ay ag bw a1 a8 ah az aq bm af ao aw ha bx b7 b8 aj b6;go_wp2_with fail;rw[show (a:Int)+bs=((a+bs:Nat):Int) from by omega];refine hS.out.mono ?_;rintro e w2 ⟨rfl,⟨D,hs,he,ae⟩,ak⟩;have h1:=zCT (k:=t) (l:=L2) (c:=D) (by rw[bo.o,HA.o]) bj.o hs (by rw[he.length,Zd,b1.o,bt.o];have:=ba.o;omega);have h2:=bc.o.app he;rw[←b4.o]at h2;have b3:=hy' h1;have b2:=hy' (bi.o.trans h2);have bz:Hy ((L2++D).length=n):=hy' (by rw[Zd,bo.o,he.length,Zd,b1.o,bt.o];omega);have b5:Hy (Ss.At w2 g sz (P++((L2++D)++Q))):=hy' (by simpa using ae);have b9:=hy' (zA0 bg.o ak);clear h1 h2 hs he ae ak hS;go_wp2_with fail;exact⟨⟨2*bs,L2++D,by omega,by omega,ZT (Value.int .i64) (by omega),bz.o,b3.o,b2.o,b5.o,b9.o⟩,by simp[intOf];omega⟩
 have ah:(L1.drop a).length=n-a:=by rw[ZM];omega
 rw[Zi (by rw[ah];omega)]at ao;have h1:=zCT (k:=t) (l:=L2) (c:=L1.drop a) (by rw[bo.o,HA.o]) bj.o ao (by rw[ah];omega);have h2:=bc.o.app (Ss.eqv.refl k (L1.drop a));rw[ZE]at h2;have b3:=hy' h1;have b2:=hy' (bi.o.trans h2);have bz:Hy ((L2++L1.drop a).length=n):=hy' (by rw[Zd,bo.o,ah];omega);have b5:Hy (Ss.At wr g sz (P++((L2++L1.drop a)++Q))):=hy' (by simpa using aa);have c4:¬(a:Int)+bs<n:=by omega
 clear h1 h2 aa ah az aq bm af ao aw ha bx b7 b8 aj b6;go_wp2_with fail;exact⟨⟨2*bs,L2++L1.drop a,by omega,by omega,ZT (Value.int .i64) (by omega),bz.o,b3.o,b2.o,b5.o,bg.o⟩,by simp[intOf];omega⟩
theorem zJN (x:Int) (w:World):Calls prog 193 #[.int .i64 x] w fun e w'=>e=.returned (.bool false)∧w=w':=by
 go_enter func193,ntmps193;go_wp2;go_ret;exact⟨by simp,rfl⟩
theorem zKv (a b:Int) (w:World):Calls prog 149 #[.int .i64 a,.int .i64 b] w fun e w'=>e=.returned (.int .i64 (zCc a b))∧w=w':=by
 go_enter func149,ntmps149;go_wp2_with fail;refine (zJN _ _).mono ?_;rintro e w1 ⟨rfl,rfl⟩;go_wp2_with fail;refine (zJN _ _).mono ?_;rintro e w1 ⟨rfl,rfl⟩
 by_cases h1:a<b
 · have hc:Hy (zCc a b = -1):=hy' (Zl h1);go_wp2_with fail;go_ret;exact⟨by rw[hc.out];rfl,rfl⟩
 by_cases h2:b<a
 · have hc:Hy (zCc a b=1):=hy' (by unfold zCc;rw[if_neg h1,if_pos h2]);have h3:a > b:=h2;go_wp2_with fail;go_ret;exact⟨by rw[hc.out];rfl,rfl⟩
 have hc:Hy (zCc a b=0):=hy' (by unfold zCc;rw[if_neg h1,if_neg h2]);have h3:¬a > b:=h2;go_wp2_with fail;go_ret;exact⟨by rw[hc.out];rfl,rfl⟩
theorem zLR (v:Value) (T:List Rw.Row) (S:List Int) (db:Nat) (x y:Int) (w:World) (ok:Ud.Ok T S) (h:Ud.Is w v T S) (hd:w.cell? ⟨db,0,none⟩=some v) (aa:db<w.heap.size) :
 Calls prog 148 #[.int .i32 x,.int .i32 y,.pointer (some ⟨db,0,none⟩)] w fun e w'=>e=.returned (.int .i64 (zCc (Md.cls T x) (Md.cls T y)))∧Below w.heap.size w w':=by
 have C1:=hy' (Ext.call (w:=w) fun W hW=>Ud.class_any v T S x W ok (h.below hW));have C2:=hy' (Ext.call (w:=w) fun W hW=>Ud.class_any v T S y W ok (h.below hW));have C3:=hy' (Ext.same (w:=w) fun W hW=>zKv (Md.cls T x) (Md.cls T y) W);have x1:=Ext.cells hd aa;clear h ok;go_enter func148,ntmps148;go_wp2_with fail;refine zA7 (by kernel_rfl) (by kernel_rfl) ?_
 repeat (go_big_quiet_step ((first|(go_at_call 41;first|with_reducible exact C1.o _|with_reducible exact C2.o _)|(go_at_call 149;with_reducible exact C3.o _))))
 refine wpQuiet_nil ?_;intro xw;have HB:=hy' xw.below;go_wp2_with fail;go_ret;exact⟨rfl,HB.o⟩
theorem zLS (args:Array Value) (w:World):(callFunc 148 args).run prog w=.ok (.enter 148 args) w:=zQM func148 (by kernel_rfl) (by kernel_rfl) args w
theorem Or.sort_any (aa:FuncId) (cd:Option Addr) (k:Int→Int) (af:∀(args:Array Value) (w:World),(callFunc aa args).run prog w=.ok (.enter aa args) w) (ae:∀N,zE6 aa cd k N)
 (sz g o n cap:Nat) (P L Q:List Int) (w:World) (hC:Ss.Cmp aa cd k g w) (hZ:Ss.At w g sz (P++(L++Q))) (hP:P.length=o) (hL:L.length=n) (hn:n≤500000) :
 Calls prog 150 #[.slice (some ⟨g,o,none⟩) n cap,.func (.func aa) #[] #[.pointer cd]] w (zJM k sz g P L Q w):=by
 have hS:=zKu aa cd k af ae sz g o n cap P L Q w hC hZ hP hL hn;clear hC hZ hP hL ae af hn;go_enter func150,ntmps150;go_wp2_with fail;refine hS.mono ?_;rintro e w1 ⟨rfl,h1,h2⟩;have H1:=hy' h1;have H2:=hy' h2;clear h1 h2 hS;go_wp2_with fail;go_end0;exact⟨rfl,H1.o,H2.o⟩
end Go.Proofs.YthngjlllojiacaaGreatDoor
