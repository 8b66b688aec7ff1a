/- The document's layer 18: what two are composed to, by walking its text. -/
import Derived.Test.YtdbpjmfflofadaaGreatDoorSlCut
set_option maxRecDepth 100000
set_option maxHeartbeats 4000000
set_option linter.unusedVariables false
set_option linter.unusedSimpArgs false
namespace Go.Proofs.YtdbpjmfflofadaaGreatDoor
open Go.Proofs.Tryz
open Go.RowKit
theorem Nc.find_take {α:Type} {p:α→Bool} {T:List α} {k:Nat} {r:α} (hr:T[k]?=some r) (aa:∀q∈T.take k,p q=false) (he:p r=true):T.find? p=some r:=by
 obtain⟨h1,h2⟩:=List.getElem?_eq_some_iff.1 hr;rw[←Zu k T,List.find?_append,List.find?_eq_none.2 (fun x hx=>by rw[aa x hx];simp),Option.none_or,ZJ h1,Jo,h2,he]
theorem Nc.no_succ {α:Type} {p:α→Bool} {T:List α} {k:Nat} {r:α} (hr:T[k]?=some r) (aa:∀q∈T.take k,p q=false) (he:p r=false):∀q∈T.take (k+1),p q=false:=by
 rw[Zy,hr];intro q hq;rcases List.mem_append.1 hq with h|h
 · exact aa q h
 simp at h;rw[h];exact he
theorem zPc (v:Value) (T:List Rw.Row) (E:List Int) (a b:Int) (w:World) (bz:T.length≤100000) (b1:E.length≤1000000) (h:Md.Doc w v T E) (bp:∀r∈T,r.2.2.length≤1000) (aj:∀r∈T,-2147483648≤r.1∧r.1≤2147483647) (cf : -2147483648≤a) (b4:a≤2147483647) (cb : -2147483648≤b) (b7:b≤2147483647) :
 Calls prog 71 #[v,.int .i64 a,.int .i64 b] w fun e w'=>e=.returned (.int .i64 (Nc.two T (Md.xs E) a b))∧Below w.heap.size w w':=by
 have az:∀d W,Below w.heap.size w W → -2147483648≤d→d≤2147483647→Calls prog 108 #[v,.int .i64 d] W fun e w'=>e=.returned (.bool (zAt T (Md.xs E) d))∧Below W.heap.size W w':=fun d W hW h3 h4=>zIk v T E d W bz b1 (h.below hW) bp h3 h4
 obtain⟨A,c,XA,xc,rfl,h2,hX⟩:=h;obtain⟨n,hn⟩:∃k,T.length=k:=⟨_,rfl⟩;obtain⟨xn,hxn⟩:∃k,E.length=k:=⟨_,rfl⟩;rw[hn,hxn]at az ⊢;rw[hn]at bz;obtain⟨pf,bh⟩:∃p,zAt T (Md.xs E)=p:=⟨_,rfl⟩;have br:Nc.two T (Md.xs E) a b=if (Hg.joinK a b).2=true then (Hg.joinK a b).1 else ((T.find? fun r=>decide (r.2.2=[a,b])&&pf r.1).map (·.1)).getD (-1):=by rw[←bh];rfl
 rw[br];rw[bh]at az;unfold zB8 at *;obtain⟨wa,a8⟩:∃wa,w.alloc (.cells #[.slice A n c,.slice XA xn xc] 38)=wa:=⟨_,rfl⟩;have bn:Below w.heap.size w wa:=by rw[←a8];exact (Zd _ _).alloc (Za _) _
 have bx:Rw.At wa w.heap.size 38 [.slice A n c,.slice XA xn xc]:=by rw[←a8];exact Rw.At.new w 38 [.slice A n c,.slice XA xn xc]
 have bj:=hy' a8;have ag:=hy' bn;have bg:=hy' (h2.below bn);have bu:=hy' bx;have HN:=hy' hn;have cg:=hy' aj;have cc:=hy' az;obtain⟨ka,bk⟩:∃k,zA2 a=k:=⟨_,rfl⟩;obtain⟨kb,bi⟩:∃k,zA2 b=k:=⟨_,rfl⟩;have bo:Hy (∀W,Calls prog 107 #[.int .i64 a] W fun e w'=>e=.returned (.int .i64 ka)∧W=w'):=hy' fun W=>by have:=zG3 a W cf b4;rw[bk]at this;exact this
 have bc:Hy (∀W,Calls prog 107 #[.int .i64 b] W fun e w'=>e=.returned (.int .i64 kb)∧W=w'):=hy' fun W=>by have:=zG3 b W cb b7;rw[bi]at this;exact this
 have ah:(ka=1∧kb=2∧Hg.joinK a b=(44032+((a-4352)*21+b-4449)*28,true)∧4352≤a∧a<4371∧4449≤b∧b<4470)∨(¬(ka=1∧kb=2)∧ka=4∧kb=3∧Hg.joinK a b=(a+b-4519,true))∨(¬(ka=1∧kb=2)∧¬(ka=4∧kb=3)∧(Hg.joinK a b).2=false):=by
  unfold Hg.joinK;rw[bk,bi]
  by_cases g1:ka=1∧kb=2
  · have:=zG2 a (by omega);have:=zEQ b (by omega);exact .inl ⟨g1.1,g1.2,by rw[Zl g1],by omega,by omega,by omega,by omega⟩
  by_cases g2:ka=4∧kb=3
  · exact .inr (.inl ⟨g1,g2.1,g2.2,by rw[Zk g1,Zl g2]⟩)
  exact .inr (.inr ⟨g1,g2,by rw[Zk g1,Zk g2]⟩)
 have ay:=hy' ah;clear a8 bn bx hn hxn h2 hX az aj bk bi ah br bh bp b1;rcases ay.o with ⟨rfl,rfl,hj,g1,g2,g3,g4⟩|⟨g0,rfl,rfl,hj⟩|⟨g1,g2,hj⟩
 · rw[hj];have HJ:=hy' hj;clear hj;go_enter func71,ntmps71;go_upto_region 1 with (fail)
   rw[bj.o];go_wp2_with fail;refine (bo.o wa).mono ?_;rintro e w' ⟨rfl,rfl⟩;go_wp2_with fail;refine (bc.o wa).mono ?_;rintro e w' ⟨rfl,rfl⟩;go_wp2_with fail;go_ret;exact⟨by first|rfl|go_num|simp,ag.o⟩
 · rw[hj];have HJ:=hy' hj;clear hj g0;go_enter func71,ntmps71;go_upto_region 1 with (fail)
   rw[bj.o];go_wp2_with fail;refine (bo.o wa).mono ?_;rintro e w' ⟨rfl,rfl⟩;go_wp2_with fail;refine (bc.o wa).mono ?_;rintro e w' ⟨rfl,rfl⟩;go_wp2_with fail;go_ret;exact⟨by first|rfl|go_num|simp,ag.o⟩
 rw[Zk (by rw[hj];simp)];obtain⟨p,hp⟩:∃p:Rw.Row→Bool,(fun r=>decide (r.2.2=[a,b])&&pf r.1)=p:=⟨_,rfl⟩;have ar:∀r,p r=(decide (r.2.2=[a,b])&&pf r.1):=fun r=>by rw[←hp]
 rw[hp];have HP:=hy' ar;obtain⟨t1,b5⟩:∃q,(ka == 1)=q:=⟨_,rfl⟩;obtain⟨t2,cd⟩:∃q,(kb == 2)=q:=⟨_,rfl⟩;obtain⟨t3,cj⟩:∃q,(ka == 4)=q:=⟨_,rfl⟩;obtain⟨t4,ck⟩:∃q,(kb == 3)=q:=⟨_,rfl⟩
 have b3:(t1&&t2)=false:=by
  rw[←b5,←cd];cases h1:(ka == 1) <;> cases h2:(kb == 2) <;> simp_all
 have b9:(t3&&t4)=false:=by
  rw[←cj,←ck];cases h1:(ka == 4) <;> cases h2:(kb == 3) <;> simp_all
 clear hp ar hj g1 g2;go_enter func71,ntmps71;go_upto_region 1 with (fail)
 rw[bj.o];go_wp2_with fail;refine (bo.o wa).mono ?_;rintro e w' ⟨rfl,rfl⟩;go_wp2_with fail;refine (bc.o wa).mono ?_;rintro e w' ⟨rfl,rfl⟩;go_upto_region 3 with (fail)
 go_cut [20] (fun s wx=>s=.bool false∧wx=wa)
 case first =>
  cases t1
  · go_wp2_with fail;go_meet;exact⟨rfl,rfl⟩
  cases t2
  · go_wp2_with fail;go_meet;exact⟨rfl,rfl⟩
  cases b3
 obtain⟨rfl,ap⟩:=hcut;replace ap:=ap.symm;subst ap;go_upto_region 5 with (fail)
 go_cut [34] (fun s wx=>s=.bool false∧wx=wa)
 case first =>
  cases t3
  · go_wp2_with fail;go_meet;exact⟨rfl,rfl⟩
  cases t4
  · go_wp2_with fail;go_meet;exact⟨rfl,rfl⟩
  cases b9
 obtain⟨rfl,ap⟩:=hcut;replace ap:=ap.symm;subst ap;have aq:=bu.o;have z0:=aq.cell 0 rfl;have zl:=aq.lt;clear aq;go_wp2_with fail;go_loopw [42] (fun i wr=>∃k:Nat,k≤n∧i=.int .i64 k∧(∀q∈T.take k,p q=false)∧Below wa.heap.size wa wr) (fun i _=>n-(intOf i).toNat)
 case atStart=>exact⟨0,Zq _,rfl,by simp,Zd _ _⟩
 obtain⟨k,hk,rfl,bs,ae⟩:=hrel;have au:=hy' bs;have aw:=hy' ae;clear bs z0 zl
 by_cases hlt:k<n
 rotate_left
 · obtain rfl:n=k:=by omega
   have hf:T.find? p=none:=List.find?_eq_none.2 fun q hq=>by
    have:=au.o;rw[Zi (by rw[HN.o];exact Za _)]at this;rw[this q hq];simp
   have HF:=hy' hf;have b8:=hy' (ag.o.trans (aw.o.mono ag.o.size));have kI:¬(n:Int)<n:=by omega
   clear hf hlt;go_wp2_with fail;go_ret;rw[HF.o];exact⟨by first|rfl|simp,b8.o⟩
 obtain⟨r,hr⟩:∃r,T[k]?=some r:=⟨_,Zb (by rw[HN.o];exact hlt)⟩;obtain⟨b0,o,rn,b6,hb,c0,c1,c2,bb⟩:=(bg.o.below ae).row hr;have cm:(k:Int)<n:=by omega
 have aj:=cg.o r (Zj hr);have ar:=HP.o r;obtain⟨rc,rk,m⟩:=r;simp only[]at aj ar c0 c1 c2 bb;obtain⟨wn,a1⟩:∃wn,wr.alloc (.cells #[.int .i64 rc,.int .i64 rk,.slice rn.1 m.length rn.2] 73)=wn:=⟨_,rfl⟩;have a6:Below wr.heap.size wr wn:=by rw[←a1];exact (Zd _ _).alloc (Za _) _
 have aa:Rw.At wn wr.heap.size 73 [.int .i64 rc,.int .i64 rk,.slice rn.1 m.length rn.2]:=by rw[←a1];exact Rw.At.new wr 73 [.int .i64 rc,.int .i64 rk,.slice rn.1 m.length rn.2]
 have af:=hy' (aw.o.trans (a6.mono ae.size));have b2:=hy' (bb.below a6 a6.size);have HR:=hy' hr;have ax:=hy' aa;have ch:=hy' a1;have bm:=hy' (cc.o rc wn (ag.o.trans (af.o.mono ag.o.size)) aj.1 aj.2);have a7:=hy' ar;subst b6;clear hr bb ae a6 a1 ar aj aa;go_upto_region 10 with (fail)
 rw[ch.o];have aa:=ax.o;have y0:=aa.cell 0 rfl;have y2:=aa.cell 2 rfl;have yl:=aa.lt;have ht:=bu.o.below af.o;have z0:=ht.cell 0 rfl;have z1:=ht.cell 1 rfl;have zl:=ht.lt;clear aa ht c0 c1 c2 hb
 by_cases hm2:m.length=2
 rotate_left
 · have hpn:p (rc,rk,m)=false:=by
    rw[a7.o,Zp (fun e=>hm2 (by rw[show m=[a,b] from e];rfl)),Xp]
   have ak:=hy' (Nc.no_succ HR.o au.o hpn);have hmb:((m.length:Int) == 2)=false:=by simp;omega
   clear hpn hm2;go_wp2_with fail;exact⟨⟨k+1,by omega,by go_num,ak.o,af.o⟩,by simp[intOf];omega⟩
 obtain⟨x,y,rfl⟩:∃x y,m=[x,y]:=by
  rcases m with _|⟨x,_|⟨y,_|⟨z,t⟩⟩⟩ <;> simp at hm2
  exact⟨x,y,rfl⟩
 obtain⟨ab,ao,hA,cn,bf⟩:=b2.o (by simp);have e0:=bf 0 (by simp);have e1:=bf 1 (by simp);simp only[ZU,Ym,YY,YX,YQ]at e0 e1;simp only[ZB,ZY]at y2;rw[hA]at y2;clear bf hm2 b2;rcases hx:(x == a) with _|_
 · have hpn:p (rc,rk,[x,y])=false:=by
    rw[a7.o,Zp (fun e=>by simp at e;simp[e.1]at hx),Xp]
   have ak:=hy' (Nc.no_succ HR.o au.o hpn);clear hpn;go_wp2_with fail;exact⟨⟨k+1,by omega,by go_num,ak.o,af.o⟩,by simp[intOf];omega⟩
 rcases hy:(y == b) with _|_
 · have hpn:p (rc,rk,[x,y])=false:=by
    rw[a7.o,Zp (fun e=>by simp at e;simp[e.2]at hy),Xp]
   have ak:=hy' (Nc.no_succ HR.o au.o hpn);clear hpn;go_wp2_with fail;exact⟨⟨k+1,by omega,by go_num,ak.o,af.o⟩,by simp[intOf];omega⟩
 have bw:([x,y]:List Int)=[a,b]:=by rw[beq_iff_eq.1 hx,beq_iff_eq.1 hy]
 obtain⟨pv,ba⟩:∃q,pf rc=q:=⟨_,rfl⟩
 have bt:p (rc,rk,[x,y])=pv:=by
  rw[a7.o,Zs bw,Xc,←ba]
 rw[ba]at bm;have bq:=hy' bt;clear bt ba bw;cases pv
 · have ak:=hy' (Nc.no_succ HR.o au.o bq.o);go_wp2_with (first|(go_at_call 108;refine bm.o.mono ?_;rintro e w5 ⟨rfl,av⟩;have bl:=hy' (af.o.trans (av.mono af.o.size));clear av)|fail);exact⟨⟨k+1,by omega,by go_num,ak.o,bl.o⟩,by simp[intOf];omega⟩
 have HF:=hy' (Nc.find_take HR.o au.o bq.o);go_wp2_with (first|(go_at_call 108;refine bm.o.mono ?_;rintro e w5 ⟨rfl,av⟩;have ai:=ax.o.below av;have v0:=ai.cell 0 rfl;have vl:=ai.lt;have bl:=hy' (ag.o.trans ((af.o.trans (av.mono af.o.size)).mono ag.o.size));clear av ai)|fail);go_ret;rw[HF.o];exact⟨by first|rfl|simp,bl.o⟩
def Nc.lz (f:Int→Int) (l:List Int):Nat→Int
 | 0 => -1
 | i+1=>if f (l.getD i 0)=0 then (i:Int) else Nc.lz f l i
theorem zL3 {f:Int→Int} {l:List Int} (i:Nat):∀d:Nat,(∀t,i≤t→t<i+d→f (l.getD t 0)≠0)→Nc.lz f l (i+d)=Nc.lz f l i
 | 0,_=>rfl
 | d+1,h=>by
   show (if f (l.getD (i+d) 0)=0 then ((i+d:Nat):Int) else Nc.lz f l (i+d))=_;rw[Zk (h (i+d) (by omega) (by omega))];exact zL3 i d fun t h1 h2=>h t h1 (by omega)
structure Nc.Tidy (f:Int→Int) (s:Nc.St):Prop where
 mk' ::
 beh:∀x∈s.B,f x≠0
 at':∀x,s.b=some x→f x=0
 emp:s.b=none→s.pre=[]
theorem Nc.Tidy.put {f:Int→Int} {j:Int→Int→Option Int} {s:Nc.St} {c:Int} (h:Nc.Tidy f s) (hj:∀a b p,j a b=some p→f p=0):Nc.Tidy f (Nc.put f j s c):=by
 unfold Nc.put;cases hh:Nc.hit f j s c with
 | some p =>
   obtain⟨x,hx,hp,_⟩:=zC3 hh;exact⟨h.beh,(fun y hy=>by cases hy;exact hj _ _ _ hp),(fun e=>by cases e)⟩
 | none =>
   simp only[];unfold Nc.app;split
   · rename_i h0;exact⟨(fun x hx=>by cases hx),(fun y hy=>by cases hy;exact h0),(fun e=>by cases e)⟩
   rename_i h0;refine⟨fun x hx=>?_,h.at',h.emp⟩;rcases List.mem_append.1 hx with g|g
   · exact h.beh x g
   rw[ZE]at g;rw[g];exact h0
theorem Nc.Tidy.run {f:Int→Int} {j:Int→Int→Option Int} (hj:∀a b p,j a b=some p→f p=0):∀(l:List Int) (s:Nc.St),Nc.Tidy f s→Nc.Tidy f (Nc.run f j s l)
 | [],s,h=>h
 | c::l,s,h=>Nc.Tidy.run hj l _ (h.put hj)
theorem Nc.Tidy.s0 (f:Int→Int):Nc.Tidy f Nc.s0:=⟨fun x hx=>(by cases hx),fun x hx=>(by cases hx),fun _=>rfl⟩
theorem Nc.Tidy.lz {f:Int→Int} {s:Nc.St} (h:Nc.Tidy f s):Nc.lz f s.out s.out.length=Nc.base s:=by
 have hB:∀t,s.pre.length+s.b.toList.length≤t→t<s.out.length→f (s.out.getD t 0)≠0:=fun t h1 h2=>by
  unfold Nc.St.out at h2 ⊢;rw[Yz,←Zz,ZO (by rw[Zc];exact h1)];simp only[Zc]at h2 ⊢;have aa:t-(s.pre.length+s.b.toList.length)<s.B.length:=by omega
  rw[Zb aa];exact h.beh _ (X6 aa)
 have hl:s.out.length=(s.pre.length+s.b.toList.length)+s.B.length:=by unfold Nc.St.out;simp only[List.length_append];omega
 rw[hl,zL3 _ _ (fun t h1 h2=>hB t h1 (by omega))];unfold Nc.base;cases hb:s.b with
 | none=>rw[h.emp hb];rfl
 | some x =>
   show (if f (s.out.getD s.pre.length 0)=0 then ((s.pre.length:Nat):Int) else _)=_;rw[Yz,zDc hb];exact Zl (h.at' x hb)
theorem zSK {s:Nc.St} {x:Int} (h:s.b=some x):s.out.drop (s.pre.length+1)=s.B:=by
 have:s.out=(s.pre++[x])++s.B:=by unfold Nc.St.out;rw[h];simp
 rw[this,List.drop_left' (by simp)]
theorem zNE (v:Value) (T:List Rw.Row) (E S:List Int) (A:Option Addr) (n c:Nat) (l:List Int) (w:World) (ok:Ud.Ok T S) (bx:C.mem S=Md.xs E) (ek:T.length≤100000) (fw:E.length≤1000000) (du:∀r∈T,r.2.2.length≤1000) (h:Md.Doc w v T E) (hl:l.length=n) (hn:n≤100000) (cv:∀x∈l,C.isC x=true) (hA:Sl w w.heap.size A (l.map (Value.int .i64))) :
 Calls prog 37 #[v,.slice A n c] w (zBS (zBX T S l) w):=by
 obtain⟨i0,cr,cu,df,ch⟩:=Z9 zG1;have hd:=h;obtain⟨AT,cT,XA,xc,rfl,_⟩:=hd;obtain⟨tn,eb⟩:∃k,T.length=k:=⟨_,rfl⟩;obtain⟨xn,hxn⟩:∃k,E.length=k:=⟨_,rfl⟩;rw[eb,hxn]at h ⊢;have c7:∀d W,Below w.heap.size w W→Calls prog 70 #[zB8 AT tn cT XA xn xc,.int .i64 d] W fun e w'=>e=.returned (.int .i64 (Md.cls T d))∧Below W.heap.size W w':=fun d W hW=>zGf _ T E d W (by omega) (h.below hW)
 have cf:∀a b W,Below w.heap.size w W→C.isC a=true→C.isC b=true→Calls prog 71 #[zB8 AT tn cT XA xn xc,.int .i64 a,.int .i64 b] W fun e w'=>e=.returned (.int .i64 ((Nc.j T S a b).getD (-1)))∧Below W.heap.size W w':=fun a b W hW h1 h2=>by
  have:=zPc _ T E a b W ek fw (h.below hW) du (fun r hr=>(ok.bd r hr).1) (Nf.isC_i32 h1).1 (Nf.isC_i32 h1).2 (Nf.isC_i32 h2).1 (Nf.isC_i32 h2).2;rw[←bx,zSr ok]at this;exact this
 have cb:∀a b p,Nc.j T S a b=some p→Md.cls T p=0:=fun a b p h=>(zOk ok h).2.1
 have hj0:∀a b p,Nc.j T S a b=some p→0≤p:=fun a b p h=>(zOk ok h).2.2.1
 have ea:=hy' (fun k=>zFB ok (l.take k) Nc.s0 (fun x hx=>by cases hx) (fun c hc=>cv c (Z0 hc)));have c8:=fun x=>zIY ok x
 obtain⟨f,hf⟩:∃f,Md.cls T=f:=⟨_,rfl⟩;obtain⟨j,hj⟩:∃j,Nc.j T S=j:=⟨_,rfl⟩;have dz:zBX T S l=(Nc.run f j Nc.s0 l).out:=by rw[←hf,←hj];rfl
 rw[dz];rw[hf]at c7 cb c8;rw[hj]at cf cb hj0;rw[hf,hj]at ea;have fo:=hy' (fun k=>Nc.Tidy.run cb (l.take k) Nc.s0 (Nc.Tidy.s0 f));unfold zB8 at *;obtain⟨wa,b3⟩:∃wa,(w.alloc (.cells #[.slice AT tn cT,.slice XA xn xc] 38)).alloc (.cells #[] 3)=wa:=⟨_,rfl⟩;have bi:Below w.heap.size w wa:=by rw[←b3];exact ((Zd _ _).alloc (Za _) _).alloc (by simp) _
 have ej:Rw.At wa w.heap.size 38 [.slice AT tn cT,.slice XA xn xc]:=by
  rw[←b3];exact (Rw.At.new w 38 [.slice AT tn cT,.slice XA xn xc]).alloc _
 have bz:wa.ownsRow (w.heap.size+1) 3 1 (.slice (some ⟨w.heap.size+1,0,none⟩) 0 0) 0 []:=by
  have:=zDA (w.alloc (.cells #[.slice AT tn cT,.slice XA xn xc] 38)) 3 (by decide);rw[ZD]at this;rw[←b3];exact this
 have fc:=hy' b3;have er:=hy' bi;have fm:=hy' ej;have dk:=hy' bz;have HL:=hy' hl;have fh:=hy' cv;have HA:=hy' hA;have dh:=hy' c7;have eh:=hy' cf;have ep:=hy' hj0;have fz:=hy' c8;clear b3 bi ej bz hl cv hA c7 cf h eb hxn ek du hf hj dz cb hj0 c8 bx ok;go_enter func37,ntmps37;go_upto_region 2 with (fail)
 rw[fc.o];go_wp2_with fail;go_loopw [5,7,8,9,10,11,13,14,18] (fun v5 _ _ _ _ _ _ _ i wr=>∃(k:Nat) (A':Option Addr) (cp m:Nat),k≤n∧i=.int .i64 k∧v5=.slice A' m cp∧m=(Nc.run f j Nc.s0 (l.take k)).out.length∧Rw.At wr w.heap.size 38 [.slice AT tn cT,.slice XA xn xc]∧wr.ownsRow (w.heap.size+1) 3 1 (.slice A' m cp) m ((Nc.run f j Nc.s0 (l.take k)).out.map (Value.int .i64))∧Below (w.heap.size+1) wa wr) (fun _ _ _ _ _ _ _ _ i _=>n-(intOf i).toNat)
 case atStart=>exact⟨0,_,_,0,Zq _,rfl,rfl,rfl,fm.o,dk.o,Zd _ _⟩
 obtain⟨k,A',cp,m,hk,rfl,rfl,hm,bm,ah,a7⟩:=hrel;have bk:w.heap.size+1≤wr.heap.size:=bm.lt;have bp:Below w.heap.size w wr:=er.o.trans (a7.mono (ZZ _))
 by_cases hlt:k<n
 rotate_left
 · obtain rfl:k=n:=by omega
   rw[Zi (by rw[HL.o];exact Za _)]at ah hm;obtain⟨s,hs⟩:∃s,Nc.run f j Nc.s0 l=s:=⟨_,rfl⟩;rw[hs]at ah hm;have eo:=hy' hs;subst hm;have kI:¬(k:Int)<k:=by omega
   have HO:=hy' (zB0 ah (ZZ _));have HB:=hy' bp;clear ah bp a7 hs;go_wp2_with fail;go_ret;rw[eo.o];exact⟨_,_,rfl,HO.o,HB.o⟩
 obtain⟨x,hx⟩:∃x,l[k]?=some x:=⟨_,Zb (by rw[HL.o];exact hlt)⟩;have ei:=fh.o x (Zj hx);obtain⟨ab,ao,hA2,fx,dv⟩:=HA.o.below bp bp.size (by rw[Ze,HL.o];omega);have hc:=dv k (by rw[Ze,HL.o];exact hlt);rw[Zt,hx,Zw]at hc;have c6:=zJu (f:=f) (j:=j) hx;have hlen:=(Nc.run_len (f:=f) (j:=j) (l.take k) Nc.s0).2.1;rw[Zn,HL.o,←hm]at hlen;have e8:Nc.s0.out.length=0:=rfl;have cm:=fo.o k;have hsc:=ea.o k;obtain⟨s,hs⟩:∃s,Nc.run f j Nc.s0 (l.take k)=s:=⟨_,rfl⟩;rw[hs]at hm ah c6 cm hsc;have gh:m≤100000:=by omega
 have kI:(k:Int)<n:=by omega
 have k0:(0:Int)≤k:=by omega
 have bg:=hy' c6;have cw:=hy' cm;have ft:=hy' hsc;have HM:=hy' hm;have ak:=hy' bm;have aa:=hy' ah;have a6:=hy' a7;have ed:=hy' ei;have az:=hy' bp;subst hA2;clear hx ei dv c6 hlen e8 cm hsc hs hm bm ah a7 bp;obtain⟨wo,rfl⟩:∃wo:World,wo=wr:=⟨_,rfl⟩;have fy:=hy' cw.o.lz;have ba:=ak.o;have fg:=ba.cell 0 rfl;have fj:=ba.cell 1 rfl;have fq:=ba.lt;clear ba;go_wp2_with fail;clear hc fg fj fq fx;go_loopw [8,9,10,24] (fun v8 _ _ i2 w2=>∃(t:Nat),t≤m∧i2=.int .i64 t∧v8=.int .i64 (Nc.lz f s.out t)∧Below wo.heap.size wo w2) (fun _ _ _ i2 _=>m-(intOf i2).toNat)
 case atStart=>exact⟨0,Zq _,rfl,rfl,Zd _ _⟩
 obtain⟨t,ht,rfl,rfl,ax⟩:=hrel;have aw:=ak.o.below ax;have z0:=aw.cell 0 rfl;have z1:=aw.cell 1 rfl;have zl:=aw.lt;have ew:=hy' aw;have ap:=hy' ax;clear aw ax
 by_cases htm:t<m
 · obtain⟨y,hy⟩:∃y,s.out[t]?=some y:=⟨_,Zb (by rw[←HM.o];exact htm)⟩;obtain⟨gb,go',cx,b5,bw⟩:=(Sl.of_own aa.o).below ap.o ap.o.size (by rw[Ze,←HM.o];omega);have b7:=bw t (by rw[Ze,←HM.o];exact htm);rw[Zt,hy,Zw]at b7;have tI:(t:Int)<m:=by omega
   have t0:(0:Int)≤t:=by omega
   have cj:Nc.lz f s.out (t+1)=if f y=0 then (t:Int) else Nc.lz f s.out t:=by
    show (if f (s.out.getD t 0)=0 then (t:Int) else Nc.lz f s.out t)=_;rw[Yz,hy];rfl
   have dx:=hy' (dh.o y wr (az.o.trans (ap.o.mono az.o.size)));obtain⟨q,hq⟩:∃q,f y=q:=⟨_,rfl⟩;rw[hq]at dx cj;have bs:=hy' cj;subst cx;clear hy bw cj hq;go_wp2_with fail;refine dx.o.mono ?_;rintro e w5 ⟨rfl,ec⟩;have ef:=hy' (ap.o.trans (ec.mono ap.o.size));clear ec z0 z1 zl b7 b5;rcases hqz:(q == 0) with _|_
   · have bo:¬q=0:=by simpa using hqz
     have HE:=hy' (bs.o.trans (Zk bo));clear bo;go_wp2_with fail;exact⟨⟨t+1,by omega,by first|rfl|go_num,by rw[HE.o],ef.o⟩,by simp[intOf];omega⟩
   have bo:q=0:=by simpa using hqz
   have HE:=hy' (bs.o.trans (Zl bo));clear bo;go_wp2_with fail;exact⟨⟨t+1,by omega,by first|rfl|go_num,by rw[HE.o],ef.o⟩,by simp[intOf];omega⟩
 obtain rfl:t=m:=by omega
 have tI:¬(t:Int)<t:=by omega
 rw[show Nc.lz f s.out t=Nc.base s by rw[HM.o];exact fy.o];obtain⟨w6,rfl⟩:∃w6:World,w6=wr:=⟨_,rfl⟩;clear htm ht;cases hsb:s.b with
 | none =>
   have bi:Nc.base s = -1:=by unfold Nc.base;rw[hsb]
   have ay:Nc.hit f j s x=none:=by unfold Nc.hit;rw[hsb];split <;> rfl
   have ai:Nc.put f j s x=Nc.app f s x:=by unfold Nc.put;rw[ay]
   have ag:=hy' ai;rw[bi];clear bi ai;have af:=ap;clear z0 z1 zl;have aj:=hy' (zA6 aa.o af.o (Za _));have au:=hy' (ak.o.below af.o);have b2:w.heap.size+1≤w6.heap.size:=Zh bk af.o.size;go_wp2_with (first|(at_builtin;refine zAg _ rfl _ _ _ rfl (w.heap.size+1) 3 i0 _ 8 underlying36 cr cu df ch rfl _ t _ rfl aj.o _ rfl rfl (by simp only[maxLen];omega) (by omega) b2 ?_;intro v9 w9 ae bj;obtain⟨A9,c9,rfl⟩:=zA3 ae)|fail);refine⟨⟨k+1,A9,c9,t+1,by omega,by first|rfl|go_num,rfl,?_,au.o.below' bj (ZM _),?_,a6.o.trans ((af.o.mono bk).trans bj)⟩,by simp[intOf];omega⟩
   · rw[bg.o,ag.o,zAs,Zc,←HM.o];rfl
   rw[bg.o,ag.o,zAs,ZL];exact ae
 | some x0 =>
   obtain⟨pl,b9⟩:∃q,s.pre.length=q:=⟨_,rfl⟩;have bi:Nc.base s=(pl:Int):=by unfold Nc.base;rw[hsb];show ((s.pre.length:Nat):Int)=_;rw[b9]
   have cc:=zSK hsb;have b8:=zDc hsb;rw[b9]at cc b8;have dt:pl<t:=by rw[HM.o];exact (List.getElem?_eq_some_iff.1 b8).1
   have dp:s.B.length=t-(pl+1):=by rw[←cc,ZH,←HM.o]
   have gg:=cw.o.at' x0 hsb;have b4:=ft.o x0 (zPo hsb);rw[bi];obtain⟨gb,go',cx,b5,bw⟩:=(Sl.of_own aa.o) (by rw[Ze,←HM.o];omega);cases cx
   obtain⟨rfl,e9,gi,ey⟩:=zFy aa.o;have ck:=bw pl (by rw[Ze,←HM.o];exact dt);rw[Zt,b8,Zw,Z4]at ck
   have e5:t≤cp:=by
    rcases aa.o.2 with ⟨hv,h0⟩|⟨g',e6,gm,hv,hg,hb,h1,h2,h3,h4⟩
    · cases hv
    cases hv;omega
   have eu:=hy' cc;have bq:=hy' dp;have bc:=hy' hsb;have et:=hy' b9;have eg:=hy' b4;have dr:=hy' ck;have br:=hy' (And.intro b5 e9);have e7:=hy' ((Sl.of_own aa.o).below ap.o ap.o.size);have p0:(0:Int)≤pl:=by omega
   have p1:¬(pl:Int)<0:=by omega
   have p2:(pl:Int)+1≤t:=by omega
   have p3:(pl:Int)+1≤cp:=by omega
   clear bi cc b8 dp bw ck hsb b9 b4 ey b5;go_upto_region 14 with (fail)
   go_cut [42,43,44] (fun fe ez fu wx=>(∃(Aq:Option Addr) (cq:Nat),fe=.slice Aq (t-(pl+1)) cq∧Sl w6 w6.heap.size Aq (s.B.map (Value.int .i64)))∧ez=.int .i64 ((t-(pl+1):Nat))∧fu=.int .i64 0∧wx=w6)
   case first =>
    by_cases hce:cp=pl+1
    · obtain rfl:cp=pl+1:=hce;obtain rfl:t=pl+1:=by omega
      go_wp2_with fail;go_meet;exact⟨⟨some ⟨gb,0,none⟩,0,by rw[Yu],by rw[ZK (show s.B.length=0 by rw[bq.o,Yu])];exact Sl.nil _ _ _⟩,by first|rfl|simp,rfl,rfl⟩
    have e3:¬cp=pl+1:=hce;go_wp2_with fail;go_meet;refine⟨⟨some ⟨gb,pl+1,none⟩,cp-(pl+1),rfl,?_⟩,by first|rfl|simp,rfl,rfl⟩;have:=e7.o.dropN (pl+1);rw[Z4,←KB,eu.o]at this;exact this
   obtain⟨⟨Aq,cq,rfl,dn⟩,rfl,rfl,cz⟩:=hcut;replace cz:=cz.symm;subst cz;obtain⟨bn,ct⟩:∃q,t-(pl+1)=q:=⟨_,rfl⟩;rw[ct]at bq ⊢;have e4:=hy' dn;have gj:=hy' ct;have fp:bn≤100000:=by omega
   clear dn ct z0 z1 zl;obtain⟨q,hq⟩:∃q,f x=q:=⟨_,rfl⟩
   have cn:Hy (∀W,Below w6.heap.size w6 W→Calls prog 70 #[.agg #[.slice AT tn cT,.slice XA xn xc],.int .i64 x] W fun e w'=>e=.returned (.int .i64 q)∧Below W.heap.size W w'):=hy' fun W hW=>by
    have:=dh.o x W (az.o.trans ((ap.o.trans (hW.mono ap.o.size)).mono az.o.size));rw[hq]at this;exact this
   have b6:=hy' hq;clear hq;go_wp2_with fail;go_loopw [11,13,44] (fun v11 _ i3 w3=>∃(u:Nat),u≤bn∧i3=.int .i64 u∧v11=.bool ((s.B.take u).any fun y=>decide (q≤f y))∧Below w6.heap.size w6 w3) (fun _ _ i3 _=>bn-(intOf i3).toNat)
   case atStart=>exact⟨0,Zq _,rfl,rfl,Zd _ _⟩
   obtain⟨u,hu,rfl,rfl,bh⟩:=hrel;have a1:=hy' bh;obtain⟨w7,rfl⟩:∃w7:World,w7=wr:=⟨_,rfl⟩;clear bh
   by_cases hub:u<bn
   · obtain⟨y,hy⟩:∃y,s.B[u]?=some y:=⟨_,Zb (by rw[bq.o];exact hub)⟩;have dm:=cw.o.beh y (Zj hy);obtain⟨hb,ho,e2,gp,dy⟩:=e4.o.below a1.o a1.o.size (by rw[Ze,bq.o];omega);have b7:=dy u (by rw[Ze,bq.o];exact hub);rw[Zt,hy,Zw]at b7;have uI:(u:Int)<bn:=by omega
     have u0:(0:Int)≤u:=by omega
     have di:((s.B.take (u+1)).any fun y=>decide (q≤f y))=(((s.B.take u).any fun y=>decide (q≤f y))||decide (q≤f y)):=by
      rw[Zy,hy,QD];simp
     obtain⟨r,hr⟩:∃r,f y=r:=⟨_,rfl⟩;rw[hr]at di dm
     have bu:Hy (∀W,Below w7.heap.size w7 W→Calls prog 70 #[.agg #[.slice AT tn cT,.slice XA xn xc],.int .i64 y] W fun e w'=>e=.returned (.int .i64 r)∧Below W.heap.size W w'):=hy' fun W hW=>by
      have:=dh.o y W (az.o.trans ((ap.o.trans ((a1.o.trans (hW.mono a1.o.size)).mono ap.o.size)).mono az.o.size));rw[hr]at this;exact this
     have c1:Hy (∀W,Below w7.heap.size w7 W→Calls prog 70 #[.agg #[.slice AT tn cT,.slice XA xn xc],.int .i64 x] W fun e w'=>e=.returned (.int .i64 q)∧Below W.heap.size W w'):=hy' fun W hW=>cn.o W (a1.o.trans (hW.mono a1.o.size))
     have dw:Hy (∀W,Below w7.heap.size w7 W→(∀x:Stg.Later Stg.Ex W,x.val.cell? ⟨w.heap.size,0,none⟩=some (.slice AT tn cT))∧(∀x:Stg.Later Stg.Ex W,x.val.cell? ⟨w.heap.size,1,none⟩=some (.slice XA xn xc))):=hy' fun W hW =>
      have hT:=((ak.o.below ap.o).below a1.o).below hW
      ⟨Stg.cells (hT.cell 0 rfl) hT.lt,Stg.cells (hT.cell 1 rfl) hT.lt⟩
     have gf:(r == 0)=false:=by simpa using dm
     have cd:=hy' di;have ar:=hy' (Zd w7.heap.size w7).drew;obtain⟨bb,b1⟩:∃b,((s.B.take u).any fun y=>decide (q≤f y))=b:=⟨_,rfl⟩;rw[b1]at cd ⊢;subst e2;clear hy dm dy di hr b1;go_upto_region 17 with (fail)
     refine Stg.wp_region (by kernel_rfl) Stg.Ex Stg.Ex.rel ?_;obtain⟨f0,f1⟩:=dw.o w7.drew ar.o;refine Stg.read 0 (by kernel_rfl) w7.drew rfl ?_;intro K hK;go_big_quiet_op;go_big_quiet_on;refine Stg.readW (by kernel_rfl) ?_;intro K hK;go_big_quiet_op;go_big_quiet_on;refine Stg.call 70 _ _ rfl func70 [.agg #[.slice AT tn cT,.slice XA xn xc],.int .i64 y] rfl w7.drew _ (bu.o w7.drew ar.o) (by kernel_rfl) rfl ?_;rintro e q1 ⟨rfl,hb⟩;refine⟨_,rfl,hb,?_⟩;have bf:=hy' (ar.o.trans (hb.mono ar.o.size));clear hb;intro A' aq;simp only[Act.put,Zm,ZA,Zx]at aq;subst aq
     (iterate 2 (refine Stg.readW (by kernel_rfl) ?_;intro K hK;go_big_quiet_op;go_big_quiet_on))
     clear f0 f1;obtain⟨f0,f1⟩:=dw.o q1 bf.o;refine Stg.read 0 (by kernel_rfl) q1 rfl ?_;intro K hK;go_big_quiet_op;go_big_quiet_on;refine Stg.readW (by kernel_rfl) ?_;intro K hK;go_big_quiet_op;go_big_quiet_on;refine Stg.call 70 _ _ rfl func70 [.agg #[.slice AT tn cT,.slice XA xn xc],.int .i64 y] rfl q1 _ (bu.o q1 bf.o) (by kernel_rfl) rfl ?_;rintro e q2 ⟨rfl,hb⟩;refine⟨_,rfl,hb,?_⟩;have dc:=hy' (bf.o.trans (hb.mono bf.o.size));clear hb;intro A' aq;simp only[Act.put,Zm,ZA,Zx]at aq;subst aq
     refine Stg.read 1 (by kernel_rfl) q1 rfl ?_;intro K hK;go_big_quiet_op;go_big_quiet_on;refine Stg.readW (by kernel_rfl) ?_;intro K hK;go_big_quiet_op;go_big_quiet_on;refine Stg.call 70 _ _ rfl func70 [.agg #[.slice AT tn cT,.slice XA xn xc],.int .i64 x] rfl q2 _ (c1.o q2 dc.o) (by kernel_rfl) rfl ?_;rintro e q3 ⟨rfl,hb⟩;refine⟨_,rfl,hb,?_⟩;have fk:=hy' (dc.o.trans (hb.mono dc.o.size));clear hb;intro A' aq;simp only[Act.put,Zm,ZA,Zx]at aq;subst aq
     (iterate 2 (refine Stg.readW (by kernel_rfl) ?_;intro K hK;go_big_quiet_op;go_big_quiet_on))
     clear f0 f1;refine Stg.nil q3 rfl ?_;have ee:=hy' (a1.o.trans (fk.o.mono a1.o.size));obtain⟨d,hd⟩:∃d,decide (q≤r)=d:=⟨_,rfl⟩;rw[hd]at cd
     by_cases hqr:q≤r
     · have cy:d=true:=by rw[←hd];exact Zs hqr
       subst cy;have hge:r≥q:=hqr;clear hd;go_wp2_with fail;exact⟨⟨u+1,by omega,by first|rfl|go_num,by rw[cd.o];simp,ee.o⟩,by simp[intOf];omega⟩
     have cy:d=false:=by rw[←hd];exact Zp hqr
     subst cy;have hge:¬r≥q:=hqr;clear hd;go_wp2_with fail;exact⟨⟨u+1,by omega,by first|rfl|go_num,by rw[cd.o];simp,ee.o⟩,by simp[intOf];omega⟩
   obtain rfl:u=bn:=by omega
   rw[Zi (by rw[bq.o];exact Za _)];have uI:¬(u:Int)<u:=by omega
   have af:=hy' (ap.o.trans (a1.o.mono ap.o.size))
   have av:zC8 f s.B<q↔(s.B.any fun y=>decide (q≤f y))=false:=by
    rw[zME,XT];have bo:=(fz.o x).1;rw[b6.o]at bo;constructor
    · rintro⟨_,h⟩ y hy;have:=h y hy;simp;omega
    intro h;refine⟨by omega,fun y hy=>?_⟩;have:=h y hy;simp at this;omega
   obtain⟨bb,b1⟩:∃b,(s.B.any fun y=>decide (q≤f y))=b:=⟨_,rfl⟩;rw[b1]at av ⊢;clear b1 hub hu;cases bb
   rotate_left
   · have ay:Nc.hit f j s x=none:=by unfold Nc.hit;rw[b6.o,if_neg (fun h=>by have:=av.1 h;cases this)]
     have ai:Nc.put f j s x=Nc.app f s x:=by unfold Nc.put;rw[ay]
     have ag:=hy' ai;clear ay ai av;have aj:=hy' (zA6 aa.o af.o (Za _));have au:=hy' (ak.o.below af.o);have b2:w.heap.size+1≤w7.heap.size:=Zh bk af.o.size;go_wp2_with (first|(at_builtin;refine zAg _ rfl _ _ _ rfl (w.heap.size+1) 3 i0 _ 8 underlying36 cr cu df ch rfl _ t _ rfl aj.o _ rfl rfl (by simp only[maxLen];omega) (by omega) b2 ?_;intro v9 w9 ae bj;obtain⟨A9,c9,rfl⟩:=zA3 ae)|fail);refine⟨⟨k+1,A9,c9,t+1,by omega,by first|rfl|go_num,rfl,?_,au.o.below' bj (ZM _),?_,a6.o.trans ((af.o.mono bk).trans bj)⟩,by simp[intOf];omega⟩
     · rw[bg.o,ag.o,zAs,Zc,←HM.o];rfl
     rw[bg.o,ag.o,zAs,ZL];exact ae
   have a8:=av.2 rfl;clear av
   have bt:Hy (∀W,Below w7.heap.size w7 W→(∀x:Stg.Later Stg.Ex W,x.val.cell? ⟨w.heap.size,0,none⟩=some (.slice AT tn cT))∧(∀x:Stg.Later Stg.Ex W,x.val.cell? ⟨w.heap.size,1,none⟩=some (.slice XA xn xc))∧(∀u:Stg.Later Stg.Ex W,u.val.cell? ⟨gb,pl,none⟩=some (.int .i64 x0))):=hy' fun W hW =>
    have dl:=af.o.trans (hW.mono af.o.size);have hT:=ak.o.below dl
    ⟨Stg.cells (hT.cell 0 rfl) hT.lt,Stg.cells (hT.cell 1 rfl) hT.lt,Stg.cells (((zAU dl).1 _ _ br.o.1).trans dr.o) (Zf br.o.1 dl.size)⟩
   have ar:=hy' (Zd w7.heap.size w7).drew;have pI:(pl:Int)<t:=by omega
   cases hj0:j x0 x with
   | none =>
     have cg:Hy (∀W,Below w7.heap.size w7 W→Calls prog 71 #[.agg #[.slice AT tn cT,.slice XA xn xc],.int .i64 x0,.int .i64 x] W fun e w'=>e=.returned (.int .i64 (-1))∧Below W.heap.size W w'):=hy' fun W hW=>by
      have:=eh.o x0 x W (az.o.trans ((af.o.trans (hW.mono af.o.size)).mono az.o.size)) eg.o ed.o;rw[hj0]at this;exact this
     have ay:Nc.hit f j s x=none:=by unfold Nc.hit;rw[b6.o,if_pos a8,bc.o];exact hj0
     have ai:Nc.put f j s x=Nc.app f s x:=by unfold Nc.put;rw[ay]
     have ag:=hy' ai;clear ay ai a8 hj0;go_upto_region 21 with (fail)
     refine Stg.wp_region (by kernel_rfl) Stg.Ex Stg.Ex.rel ?_;obtain⟨f0,f1,e0⟩:=bt.o w7.drew ar.o;refine Stg.read 0 (by kernel_rfl) w7.drew rfl ?_;intro K hK;go_big_quiet_op;go_big_quiet_on
     (iterate 3 (refine Stg.readW (by kernel_rfl) ?_;intro K hK;go_big_quiet_op;go_big_quiet_on))
     refine Stg.read 0 (by kernel_rfl) w7.drew rfl ?_;intro K hK;go_big_quiet_op;go_big_quiet_on;refine Stg.readW (by kernel_rfl) ?_;intro K hK;go_big_quiet_op;go_big_quiet_on;refine Stg.call 71 _ _ rfl func71 [.agg #[.slice AT tn cT,.slice XA xn xc],.int .i64 x0,.int .i64 x] rfl w7.drew _ (cg.o w7.drew ar.o) (by kernel_rfl) rfl ?_;rintro e q1 ⟨rfl,hb⟩;refine⟨_,rfl,hb,?_⟩;have bf:=hy' (ar.o.trans (hb.mono ar.o.size));clear hb;intro A' aq;simp only[Act.put,Zm,ZA,Zx]at aq;subst aq
     refine Stg.readW (by kernel_rfl) ?_;intro K hK;go_big_quiet_op;go_big_quiet_on;clear f0 f1 e0;refine Stg.nil q1 rfl ?_;have bl:=hy' (af.o.trans (bf.o.mono af.o.size));clear af;have af:=bl;have aj:=hy' (zA6 aa.o af.o (Za _));have au:=hy' (ak.o.below af.o);have b2:w.heap.size+1≤q1.heap.size:=Zh bk af.o.size;go_wp2_with (first|(at_builtin;refine zAg _ rfl _ _ _ rfl (w.heap.size+1) 3 i0 _ 8 underlying36 cr cu df ch rfl _ t _ rfl aj.o _ rfl rfl (by simp only[maxLen];omega) (by omega) b2 ?_;intro v9 w9 ae bj;obtain⟨A9,c9,rfl⟩:=zA3 ae)|fail);refine⟨⟨k+1,A9,c9,t+1,by omega,by first|rfl|go_num,rfl,?_,au.o.below' bj (ZM _),?_,a6.o.trans ((af.o.mono bk).trans bj)⟩,by simp[intOf];omega⟩
     · rw[bg.o,ag.o,zAs,Zc,←HM.o];rfl
     rw[bg.o,ag.o,zAs,ZL];exact ae
   | some p =>
     have cg:Hy (∀W,Below w7.heap.size w7 W→Calls prog 71 #[.agg #[.slice AT tn cT,.slice XA xn xc],.int .i64 x0,.int .i64 x] W fun e w'=>e=.returned (.int .i64 p)∧Below W.heap.size W w'):=hy' fun W hW=>by
      have:=eh.o x0 x W (az.o.trans ((af.o.trans (hW.mono af.o.size)).mono az.o.size)) eg.o ed.o;rw[hj0]at this;exact this
     have e1:=ep.o _ _ _ hj0;have ay:Nc.hit f j s x=some p:=by unfold Nc.hit;rw[b6.o,if_pos a8,bc.o];exact hj0
     have ai:Nc.put f j s x=⟨s.pre,some p,s.B⟩:=by unfold Nc.put;rw[ay]
     have ag:=hy' ai;have gl:p≥0:=e1;clear ay ai a8 hj0;go_upto_region 21 with (fail)
     refine Stg.wp_region (by kernel_rfl) Stg.Ex Stg.Ex.rel ?_;obtain⟨f0,f1,e0⟩:=bt.o w7.drew ar.o;refine Stg.read 0 (by kernel_rfl) w7.drew rfl ?_;intro K hK;go_big_quiet_op;go_big_quiet_on
     (iterate 3 (refine Stg.readW (by kernel_rfl) ?_;intro K hK;go_big_quiet_op;go_big_quiet_on))
     refine Stg.read 0 (by kernel_rfl) w7.drew rfl ?_;intro K hK;go_big_quiet_op;go_big_quiet_on;refine Stg.readW (by kernel_rfl) ?_;intro K hK;go_big_quiet_op;go_big_quiet_on;refine Stg.call 71 _ _ rfl func71 [.agg #[.slice AT tn cT,.slice XA xn xc],.int .i64 x0,.int .i64 x] rfl w7.drew _ (cg.o w7.drew ar.o) (by kernel_rfl) rfl ?_;rintro e q1 ⟨rfl,hb⟩;refine⟨_,rfl,hb,?_⟩;have bf:=hy' (ar.o.trans (hb.mono ar.o.size));clear hb;intro A' aq;simp only[Act.put,Zm,ZA,Zx]at aq;subst aq
     refine Stg.readW (by kernel_rfl) ?_;intro K hK;go_big_quiet_op;go_big_quiet_on;clear f0 f1 e0;refine Stg.nil q1 rfl ?_;have bl:=hy' (af.o.trans (bf.o.mono af.o.size));have en:=hy' (zA6 aa.o bl.o (Za _));have yc:=((zAU bl.o).1 _ pl br.o.1).trans dr.o;have yl:=Zf br.o.1 bl.o.size;have yf:=(zFy en.o).2.2.2 pl;go_wp2_with fail;refine⟨⟨k+1,some ⟨gb,0,none⟩,cp,t,by omega,by first|rfl|go_num,rfl,?_,(ak.o.below bl.o).other (by have:=br.o.2;omega) _,?_,(a6.o.trans (bl.o.mono bk)).setCell (p:=⟨gb,pl,none⟩) br.o.2 _⟩,by simp[intOf];omega⟩
     · rw[bg.o,ag.o,zCW bc.o,YF,←HM.o]
     rw[bg.o,ag.o,zCW bc.o,QH,et.o];exact zOe en.o (by rw[Ze,←HM.o];exact dt) _
theorem Nc.rchars_any (v:Value) (T:List Rw.Row) (E S:List Int) (A:Option Addr) (n c:Nat) (l:List Int) (w:World) (ok:Ud.Ok T S) (af:C.mem S=Md.xs E) (ar:T.length≤100000) (az:E.length≤1000000) (ao:∀r∈T,r.2.2.length≤1000) (h:Md.Doc w v T E) (hl:l.length=n) (hn:n≤3000) (aq:∀x∈l,C.isC x=true) (hA:Sl w w.heap.size A (l.map (Value.int .i64))) :
 Calls prog 15 #[v,.slice A n c] w (zBS (Nc.chars T S l) w):=by
 have hlen:=Nf.chars_le ok l;have hd:=h;obtain⟨AT,cT,XA,xc,rfl,_⟩:=hd;obtain⟨tn,a1⟩:∃k,T.length=k:=⟨_,rfl⟩;obtain⟨xn,hxn⟩:∃k,E.length=k:=⟨_,rfl⟩;rw[a1,hxn]at h ⊢;obtain⟨Z,hZ⟩:∃Z,Nf.chars T l=Z:=⟨_,rfl⟩;obtain⟨zn,ai⟩:∃q,Z.length=q:=⟨_,rfl⟩;have ax:∀c∈Z,C.isC c=true:=by rw[←hZ];exact Nf.chars_isC ok aq
 rw[hZ,ai]at hlen
 have aw:∀W,Below w.heap.size w W→Calls prog 14 #[zB8 AT tn cT XA xn xc,.slice A n c] W fun e w'=>∃A' c',e=.returned (.slice A' zn c')∧Sl w' w'.heap.size A' (Z.map (Value.int .i64))∧Below W.heap.size W w':=fun W hW=>by
  refine (Nf.rchars_any _ T E A n c l W ar ok.bd ao (fun c=>zBh ok c) (h.below hW) hl hn (fun x hx=>Nf.isC_i32 (aq x hx)) (hA.below hW hW.size)).mono ?_;rintro e w' ⟨A',c',rfl,ho,hb⟩;rw[hZ,ai]at ho ⊢;exact⟨A',c',rfl,Sl.of_own ho,hb⟩
 obtain⟨R,hR⟩:∃R,Nc.chars T S l=R:=⟨_,rfl⟩;obtain⟨rn,ap⟩:∃q,R.length=q:=⟨_,rfl⟩
 have au:∀A' c' W,Below w.heap.size w W→Sl W W.heap.size A' (Z.map (Value.int .i64))→Calls prog 37 #[zB8 AT tn cT XA xn xc,.slice A' zn c'] W fun e w'=>∃A' c',e=.returned (.slice A' rn c')∧w'.ownsRow W.heap.size 3 1 (.slice A' rn c') rn (R.map (Value.int .i64))∧Below W.heap.size W w':=fun A' c' W hW hs=>by
  have:=zNE _ T E S A' zn c' Z W ok af ar az ao (h.below hW) ai (by omega) ax hs;rw[←hZ]at this;unfold zBS at this;rw[show zBX T S (Nf.chars T l)=R from hR,ap]at this;exact this
 unfold zBS;rw[hR,ap];unfold zB8 at *;obtain⟨wa,aj⟩:∃wa,w.alloc (.cells #[.slice AT tn cT,.slice XA xn xc] 38)=wa:=⟨_,rfl⟩;have aa:Below w.heap.size w wa:=by rw[←aj];exact (Zd _ _).alloc (Za _) _
 have ay:Rw.At wa w.heap.size 38 [.slice AT tn cT,.slice XA xn xc]:=by rw[←aj];exact Rw.At.new w 38 [.slice AT tn cT,.slice XA xn xc]
 have bi:=hy' aj;have ak:=hy' aa;have bh:Hy (∀W,Below wa.heap.size wa W→Calls prog 14 #[.agg #[.slice AT tn cT,.slice XA xn xc],.slice A n c] W fun e w'=>∃A' c',e=.returned (.slice A' zn c')∧Sl w' w'.heap.size A' (Z.map (Value.int .i64))∧Below W.heap.size W w'):=hy' fun W hW=>aw W (aa.trans (hW.mono aa.size))
 have a7:Hy (∀A' c' W,Below wa.heap.size wa W→Sl W W.heap.size A' (Z.map (Value.int .i64))→Calls prog 37 #[.agg #[.slice AT tn cT,.slice XA xn xc],.slice A' zn c'] W fun e w'=>∃A' c',e=.returned (.slice A' rn c')∧w'.ownsRow W.heap.size 3 1 (.slice A' rn c') rn (R.map (Value.int .i64))∧Below W.heap.size W w'):=hy' fun A' c' W hW hs=>au A' c' W (aa.trans (hW.mono aa.size)) hs
 have bg:Hy (∀W,Below wa.heap.size wa W→(∀x:Stg.Later Stg.Ex W,x.val.cell? ⟨w.heap.size,0,none⟩=some (.slice AT tn cT))∧(∀x:Stg.Later Stg.Ex W,x.val.cell? ⟨w.heap.size,1,none⟩=some (.slice XA xn xc))):=hy' fun W hW =>
  have hT:=ay.below hW
  ⟨Stg.cells (hT.cell 0 rfl) hT.lt,Stg.cells (hT.cell 1 rfl) hT.lt⟩
 have ah:=hy' (Zd wa.heap.size wa).drew;clear aj aa ay aw au hlen hZ ai ax hR ap h a1 hxn ar az ao af ok hl aq hA;go_enter func15,ntmps15;go_upto_region 1 with (fail)
 rw[bi.o];refine Stg.wp_region (by kernel_rfl) Stg.Ex Stg.Ex.rel ?_;obtain⟨f0,f1⟩:=bg.o wa.drew ah.o
 (iterate 2 (refine Stg.read 0 (by kernel_rfl) wa.drew rfl ?_;intro K hK;go_big_quiet_op;go_big_quiet_on))
 refine Stg.readW (by kernel_rfl) ?_;intro K hK;go_big_quiet_op;go_big_quiet_on;refine Stg.call 14 _ _ rfl func14 [.agg #[.slice AT tn cT,.slice XA xn xc],.slice A n c] rfl wa.drew _ (bh.o wa.drew ah.o) (by kernel_rfl) rfl ?_;rintro e q1 ⟨A1,c1,rfl,a6,hb⟩;refine⟨_,rfl,hb,?_⟩;have ag:=hy' (ah.o.trans (hb.mono ah.o.size));have ba:=hy' a6;clear a6;clear hb;intro A' ae;simp only[Act.put,Zm,ZA,Zx]at ae;subst ae
 refine Stg.call 37 _ _ rfl func37 [.agg #[.slice AT tn cT,.slice XA xn xc],.slice A1 zn c1] rfl q1 _ (a7.o A1 c1 q1 ag.o ba.o) (by kernel_rfl) rfl ?_;rintro e q2 ⟨A2,c2,rfl,av,hb⟩;refine⟨_,rfl,hb,?_⟩;have bb:=hy' (ag.o.trans (hb.mono ag.o.size));have bf:=hy' (zB0 av ag.o.size);clear av;clear hb;intro A' ae;simp only[Act.put,Zm,ZA,Zx]at ae;subst ae
 refine Stg.readW (by kernel_rfl) ?_;intro K hK;go_big_quiet_op;go_big_quiet_on;clear f0 f1;refine Stg.nil q2 rfl ?_;have a8:=hy' (zB0 bf.o ak.o.size);have bc:=hy' (ak.o.trans (bb.o.mono ak.o.size));go_wp2_with fail;go_ret;exact⟨_,_,rfl,a8.o,bc.o⟩
end Go.Proofs.YtdbpjmfflofadaaGreatDoor
