/- The document's layer 18: what two are composed to, by walking its text. -/
import Derived.Test.YtjakbblocbicjaaGreatDoorMdRef5
set_option maxRecDepth 100000
set_option maxHeartbeats 4000000
set_option linter.unusedVariables false
set_option linter.unusedSimpArgs false
namespace Go.Proofs.YtjakbblocbicjaaGreatDoor
open Go.Proofs.Tryz
open Go.RowKit
theorem Nc.find_take {α:Type} {p:α→Bool} {T:List α} {k:Nat} {r:α} (hr:T[k]?=some r) (aa:∀q∈T.take k,p q=false) (he:p r=true):T.find? p=some r:=by
 obtain⟨h1,h2⟩:=List.getElem?_eq_some_iff.1 hr;rw[←ZI k T,List.find?_append,List.find?_eq_none.2 (fun x hx=>by rw[aa x hx];simp),Option.none_or,ZR h1,Jd,h2,he]
theorem Nc.no_succ {α:Type} {p:α→Bool} {T:List α} {k:Nat} {r:α} (hr:T[k]?=some r) (aa:∀q∈T.take k,p q=false) (he:p r=false):∀q∈T.take (k+1),p q=false:=by
 rw[ZA,hr];intro q hq;rcases List.mem_append.1 hq with h|h
 · exact aa q h
 simp at h;rw[h];exact he
theorem zNC (v:Value) (T:List Rw.Row) (E:List Int) (a b:Int) (w:World) (bp:T.length≤100000) (br:E.length≤1000000) (h:Md.Doc w v T E) (bs:∀r∈T,r.2.2.length≤1000) (ak:∀r∈T,-2147483648≤r.1∧r.1≤2147483647) (ck : -2147483648≤a) (cd:a≤2147483647) (cg : -2147483648≤b) (b5:b≤2147483647) :
 Calls prog 64 #[v,.int .i64 a,.int .i64 b] w fun e w'=>e=.returned (.int .i64 (Nc.two T (Md.xs E) a b))∧Below w.heap.size w w':=by
 have az:∀d W,Below w.heap.size w W → -2147483648≤d→d≤2147483647→Calls prog 87 #[v,.int .i64 d] W fun e w'=>e=.returned (.bool (zAo T (Md.xs E) d))∧Below W.heap.size W w':=fun d W hW h3 h4=>zHB v T E d W bp br (h.below hW) bs h3 h4
 obtain⟨A,c,XA,xc,rfl,h2,hX⟩:=h;obtain⟨n,hn⟩:∃k,T.length=k:=⟨_,rfl⟩;obtain⟨xn,hxn⟩:∃k,E.length=k:=⟨_,rfl⟩;rw[hn,hxn]at az ⊢;rw[hn]at bp;obtain⟨pf,bf⟩:∃p,zAo T (Md.xs E)=p:=⟨_,rfl⟩;have bu:Nc.two T (Md.xs E) a b=if (Hg.joinK a b).2=true then (Hg.joinK a b).1 else ((T.find? fun r=>decide (r.2.2=[a,b])&&pf r.1).map (·.1)).getD (-1):=by rw[←bf];rfl
 rw[bu];rw[bf]at az;unfold zAX at *;obtain⟨wa,a8⟩:∃wa,w.alloc (.cells #[.slice A n c,.slice XA xn xc] 25)=wa:=⟨_,rfl⟩;have bk:Below w.heap.size w wa:=by rw[←a8];exact (Zc _ _).alloc (Za _) _
 have bq:Rw.At wa w.heap.size 25 [.slice A n c,.slice XA xn xc]:=by rw[←a8];exact Rw.At.new w 25 [.slice A n c,.slice XA xn xc]
 have bb:=hy' a8;have ag:=hy' bk;have bc:=hy' (h2.below bk);have b2:=hy' bq;have HN:=hy' hn;have b6:=hy' ak;have cf:=hy' az;obtain⟨ka,bl⟩:∃k,zA2 a=k:=⟨_,rfl⟩;obtain⟨kb,bi⟩:∃k,zA2 b=k:=⟨_,rfl⟩;have ba:Hy (∀W,Calls prog 86 #[.int .i64 a] W fun e w'=>e=.returned (.int .i64 ka)∧W=w'):=hy' fun W=>by have:=zFL a W ck cd;rw[bl]at this;exact this
 have bg:Hy (∀W,Calls prog 86 #[.int .i64 b] W fun e w'=>e=.returned (.int .i64 kb)∧W=w'):=hy' fun W=>by have:=zFL b W cg b5;rw[bi]at this;exact this
 have ah:(ka=1∧kb=2∧Hg.joinK a b=(44032+((a-4352)*21+b-4449)*28,true)∧4352≤a∧a<4371∧4449≤b∧b<4470)∨(¬(ka=1∧kb=2)∧ka=4∧kb=3∧Hg.joinK a b=(a+b-4519,true))∨(¬(ka=1∧kb=2)∧¬(ka=4∧kb=3)∧(Hg.joinK a b).2=false):=by
  unfold Hg.joinK;rw[bl,bi]
  by_cases g1:ka=1∧kb=2
  · have:=zFK a (by omega);have:=zEx b (by omega);exact .inl ⟨g1.1,g1.2,by rw[Zm g1],by omega,by omega,by omega,by omega⟩
  by_cases g2:ka=4∧kb=3
  · exact .inr (.inl ⟨g1,g2.1,g2.2,by rw[Zk g1,Zm g2]⟩)
  exact .inr (.inr ⟨g1,g2,by rw[Zk g1,Zk g2]⟩)
 have aw:=hy' ah;clear a8 bk bq hn hxn h2 hX az ak bl bi ah bu bf bs br;rcases aw.o with ⟨rfl,rfl,hj,g1,g2,g3,g4⟩|⟨g0,rfl,rfl,hj⟩|⟨g1,g2,hj⟩
 · rw[hj];have HJ:=hy' hj;clear hj;go_enter func64,ntmps64;go_upto_region 1 with (fail)
   rw[bb.o];go_wp2_with fail;refine (ba.o wa).mono ?_;rintro e w' ⟨rfl,rfl⟩;go_wp2_with fail;refine (bg.o wa).mono ?_;rintro e w' ⟨rfl,rfl⟩;go_wp2_with fail;go_ret;exact⟨by first|rfl|go_num|simp,ag.o⟩
 · rw[hj];have HJ:=hy' hj;clear hj g0;go_enter func64,ntmps64;go_upto_region 1 with (fail)
   rw[bb.o];go_wp2_with fail;refine (ba.o wa).mono ?_;rintro e w' ⟨rfl,rfl⟩;go_wp2_with fail;refine (bg.o wa).mono ?_;rintro e w' ⟨rfl,rfl⟩;go_wp2_with fail;go_ret;exact⟨by first|rfl|go_num|simp,ag.o⟩
 rw[Zk (by rw[hj];simp)];obtain⟨p,hp⟩:∃p:Rw.Row→Bool,(fun r=>decide (r.2.2=[a,b])&&pf r.1)=p:=⟨_,rfl⟩;have au:∀r,p r=(decide (r.2.2=[a,b])&&pf r.1):=fun r=>by rw[←hp]
 rw[hp];have HP:=hy' au;obtain⟨t1,cc⟩:∃q,(ka == 1)=q:=⟨_,rfl⟩;obtain⟨t2,b3⟩:∃q,(kb == 2)=q:=⟨_,rfl⟩;obtain⟨t3,b9⟩:∃q,(ka == 4)=q:=⟨_,rfl⟩;obtain⟨t4,b7⟩:∃q,(kb == 3)=q:=⟨_,rfl⟩
 have cj:(t1&&t2)=false:=by
  rw[←cc,←b3];cases h1:(ka == 1) <;> cases h2:(kb == 2) <;> simp_all
 have b8:(t3&&t4)=false:=by
  rw[←b9,←b7];cases h1:(ka == 4) <;> cases h2:(kb == 3) <;> simp_all
 clear hp au hj g1 g2;go_enter func64,ntmps64;go_upto_region 1 with (fail)
 rw[bb.o];go_wp2_with fail;refine (ba.o wa).mono ?_;rintro e w' ⟨rfl,rfl⟩;go_wp2_with fail;refine (bg.o wa).mono ?_;rintro e w' ⟨rfl,rfl⟩;go_upto_region 3 with (fail)
 go_cut [20] (fun s wx=>s=.bool false∧wx=wa)
 case first =>
  cases t1
  · go_wp2_with fail;go_meet;exact⟨rfl,rfl⟩
  cases t2
  · go_wp2_with fail;go_meet;exact⟨rfl,rfl⟩
  cases cj
 obtain⟨rfl,aq⟩:=hcut;replace aq:=aq.symm;subst aq;go_upto_region 5 with (fail)
 go_cut [34] (fun s wx=>s=.bool false∧wx=wa)
 case first =>
  cases t3
  · go_wp2_with fail;go_meet;exact⟨rfl,rfl⟩
  cases t4
  · go_wp2_with fail;go_meet;exact⟨rfl,rfl⟩
  cases b8
 obtain⟨rfl,aq⟩:=hcut;replace aq:=aq.symm;subst aq;have ap:=b2.o;have z0:=ap.cell 0 rfl;have zl:=ap.lt;clear ap;go_wp2_with fail;go_loopw [42] (fun i wr=>∃k:Nat,k≤n∧i=.int .i64 k∧(∀q∈T.take k,p q=false)∧Below wa.heap.size wa wr) (fun i _=>n-(intOf i).toNat)
 case atStart=>exact⟨0,ZF _,rfl,by simp,Zc _ _⟩
 obtain⟨k,hk,rfl,bt,ae⟩:=hrel;have av:=hy' bt;have ax:=hy' ae;clear bt z0 zl
 by_cases hlt:k<n
 rotate_left
 · obtain rfl:n=k:=by omega
   have hf:T.find? p=none:=List.find?_eq_none.2 fun q hq=>by
    have:=av.o;rw[Zi (by rw[HN.o];exact Za _)]at this;rw[this q hq];simp
   have HF:=hy' hf;have cb:=hy' (ag.o.trans (ax.o.mono ag.o.size));have kI:¬(n:Int)<n:=by omega
   clear hf hlt;go_wp2_with fail;go_ret;rw[HF.o];exact⟨by first|rfl|simp,cb.o⟩
 obtain⟨r,hr⟩:∃r,T[k]?=some r:=⟨_,Zb (by rw[HN.o];exact hlt)⟩;obtain⟨b0,o,rn,b4,hb,c0,c1,c2,bm⟩:=(bc.o.below ae).row hr;have cn:(k:Int)<n:=by omega
 have ak:=b6.o r (Zj hr);have au:=HP.o r;obtain⟨rc,rk,m⟩:=r;simp only[]at ak au c0 c1 c2 bm;obtain⟨wn,a6⟩:∃wn,wr.alloc (.cells #[.int .i64 rc,.int .i64 rk,.slice rn.1 m.length rn.2] 39)=wn:=⟨_,rfl⟩;have a1:Below wr.heap.size wr wn:=by rw[←a6];exact (Zc _ _).alloc (Za _) _
 have aa:Rw.At wn wr.heap.size 39 [.int .i64 rc,.int .i64 rk,.slice rn.1 m.length rn.2]:=by rw[←a6];exact Rw.At.new wr 39 [.int .i64 rc,.int .i64 rk,.slice rn.1 m.length rn.2]
 have af:=hy' (ax.o.trans (a1.mono ae.size));have bx:=hy' (bm.below a1 a1.size);have HR:=hy' hr;have ay:=hy' aa;have ch:=hy' a6;have bj:=hy' (cf.o rc wn (ag.o.trans (af.o.mono ag.o.size)) ak.1 ak.2);have a7:=hy' au;subst b4;clear hr bm ae a1 a6 au ak aa;go_upto_region 10 with (fail)
 rw[ch.o];have aa:=ay.o;have y0:=aa.cell 0 rfl;have y2:=aa.cell 2 rfl;have yl:=aa.lt;have ht:=b2.o.below af.o;have z0:=ht.cell 0 rfl;have z1:=ht.cell 1 rfl;have zl:=ht.lt;clear aa ht c0 c1 c2 hb
 by_cases hm2:m.length=2
 rotate_left
 · have hpn:p (rc,rk,m)=false:=by
    rw[a7.o,Zq (fun e=>hm2 (by rw[show m=[a,b] from e];rfl)),Y8]
   have aj:=hy' (Nc.no_succ HR.o av.o hpn);have hmb:((m.length:Int) == 2)=false:=by simp;omega
   clear hpn hm2;go_wp2_with fail;exact⟨⟨k+1,by omega,by go_num,aj.o,af.o⟩,by simp[intOf];omega⟩
 obtain⟨x,y,rfl⟩:∃x y,m=[x,y]:=by
  rcases m with _|⟨x,_|⟨y,_|⟨z,t⟩⟩⟩ <;> simp at hm2
  exact⟨x,y,rfl⟩
 obtain⟨ab,ao,hA,cm,bo⟩:=bx.o (by simp);have e0:=bo 0 (by simp);have e1:=bo 1 (by simp);simp only[ZV,Yr,YN,Y4,YI]at e0 e1;simp only[ZB,ZY]at y2;rw[hA]at y2;clear bo hm2 bx;rcases hx:(x == a) with _|_
 · have hpn:p (rc,rk,[x,y])=false:=by
    rw[a7.o,Zq (fun e=>by simp at e;simp[e.1]at hx),Y8]
   have aj:=hy' (Nc.no_succ HR.o av.o hpn);clear hpn;go_wp2_with fail;exact⟨⟨k+1,by omega,by go_num,aj.o,af.o⟩,by simp[intOf];omega⟩
 rcases hy:(y == b) with _|_
 · have hpn:p (rc,rk,[x,y])=false:=by
    rw[a7.o,Zq (fun e=>by simp at e;simp[e.2]at hy),Y8]
   have aj:=hy' (Nc.no_succ HR.o av.o hpn);clear hpn;go_wp2_with fail;exact⟨⟨k+1,by omega,by go_num,aj.o,af.o⟩,by simp[intOf];omega⟩
 have bz:([x,y]:List Int)=[a,b]:=by rw[beq_iff_eq.1 hx,beq_iff_eq.1 hy]
 obtain⟨pv,bh⟩:∃q,pf rc=q:=⟨_,rfl⟩
 have b1:p (rc,rk,[x,y])=pv:=by
  rw[a7.o,Zp bz,YY,←bh]
 rw[bh]at bj;have bw:=hy' b1;clear b1 bh bz;cases pv
 · have aj:=hy' (Nc.no_succ HR.o av.o bw.o);go_wp2_with (first|(go_at_call 87;refine bj.o.mono ?_;rintro e w5 ⟨rfl,ar⟩;have bn:=hy' (af.o.trans (ar.mono af.o.size));clear ar)|fail);exact⟨⟨k+1,by omega,by go_num,aj.o,bn.o⟩,by simp[intOf];omega⟩
 have HF:=hy' (Nc.find_take HR.o av.o bw.o);go_wp2_with (first|(go_at_call 87;refine bj.o.mono ?_;rintro e w5 ⟨rfl,ar⟩;have ai:=ay.o.below ar;have v0:=ai.cell 0 rfl;have vl:=ai.lt;have bn:=hy' (ag.o.trans ((af.o.trans (ar.mono af.o.size)).mono ag.o.size));clear ar ai)|fail);go_ret;rw[HF.o];exact⟨by first|rfl|simp,bn.o⟩
end Go.Proofs.YtjakbblocbicjaaGreatDoor
