/- The laws' Few of a document's table, by walking its text. -/
import Derived.Test.YthngjlllojiacaaGreatDoorRwOpen
set_option maxRecDepth 100000
set_option maxHeartbeats 4000000
set_option linter.unusedVariables false
set_option linter.unusedSimpArgs false
namespace Go.Proofs.YthngjlllojiacaaGreatDoor
open Go.Proofs.Tryz
open Go.RowKit
def zDa (x:Int):Int:=IntKind.i32.wrap x
theorem zQq (x:Int) : -2147483648≤zDa x∧zDa x≤2147483647:=by
 unfold zDa;rw[Qi];omega
theorem zMl (x:Int):IntKind.i64.wrap (zDa x)=zDa x:=by
 have:=zQq x;rw[Z5];omega
def zKY (r:Rw.Row):Rw.Row:=(zDa r.1,r.2.1,(r.2.2.take 4).map zDa)
def zES (T:List Rw.Row):List Rw.Row:=(T.take 20).map zKY
def zET (E:List Int):List Int:=(E.take 30).map Ch.K
theorem zNH {T:List Rw.Row} {j:Nat} {r:Rw.Row} (h:T[j]?=some r) (hj:j<20):(zES T)[j]?=some (zKY r):=by
 unfold zES;rw[Zw,Yk,Zl hj,h];rfl
theorem zNI {E:List Int} {j:Nat} {x:Int} (h:E[j]?=some x) (hj:j<30):(zET E)[j]?=some (Ch.K x):=by
 unfold zET;rw[Zw,Yk,Zl hj,h];rfl
theorem Md.grown_below {w w' w'':World} {row:Option Nat} (h:w.grownBy w' row) (hb:Below w.heap.size w' w''):w.grownBy w'' row :=
 ⟨hb.os.trans h.os,hb.tape.trans h.tape,hb.output.trans h.output,Zh h.size hb.size,fun k hk hr=>(hb.block k hk).trans (h.block k hk hr)⟩
def Md.apart (lo hi:Nat) (ads:List (Option Addr × Nat)):Prop :=
 (ads.Pairwise fun a b=>∀p q,a.1=some p→b.1=some q→p.block<q.block)∧∀a∈ads,∀p,a.1=some p→lo≤p.block∧p.block<hi
theorem Md.apart.nil (lo hi:Nat):Md.apart lo hi []:=⟨List.Pairwise.nil,fun a h=>by simp at h⟩
theorem Md.apart.app {lo hi hi':Nat} {ads:List (Option Addr × Nat)} (h:Md.apart lo hi ads) (hh:hi≤hi') (hl:lo≤hi) {a:Option Addr × Nat} (ha:∀p,a.1=some p→hi≤p.block∧p.block<hi'):Md.apart lo hi' (ads++[a]):=by
 refine⟨List.pairwise_append.2 ⟨h.1,by simp,fun x hx y hy p q hp hq=>?_⟩,fun x hx p hp=>?_⟩
 · simp only[Zp]at hy;subst hy;have h1:=(h.2 x hx p hp).2;have h2:=(ha q hq).1;omega
 rcases List.mem_append.1 hx with hx|hx
 · have:=h.2 x hx p hp;omega
 simp only[Zp]at hx;subst hx;have:=ha p hp;omega
def Md.caps (rs:List Rw.Row) (ads:List (Option Addr × Nat)):Prop:=∀(i:Nat) (r:Rw.Row) (a:Option Addr × Nat),rs[i]?=some r→ads[i]?=some a→r.2.2.length≤a.2
theorem Md.caps.app {rs:List Rw.Row} {ads:List (Option Addr × Nat)} (h:Md.caps rs ads) (hl:ads.length=rs.length) {r:Rw.Row} {a:Option Addr × Nat} (hr:r.2.2.length≤a.2):Md.caps (rs++[r]) (ads++[a]):=by
 intro i q x hq hx;rcases ZZ i rs.length with hi|hi
 · rw[ZS hi]at hq;rw[ZS (by omega)]at hx;exact h i q x hq hx
 have aa:=(List.getElem?_eq_some_iff.1 hq).1;rw[Zd,Ym]at aa;obtain rfl:i=rs.length:=by omega
 rw[ZJ (Za _),Ye]at hq;rw[ZJ (by omega),show rs.length-ads.length=0 by omega]at hx;simp at hq hx;subst hq hx;exact hr
theorem zFl {w:World} {base:Nat} {e:TypeId} {size n m c:Nat} {A:Option Addr} {xs:List Value} (h:w.ownsRow base e size (.slice A m c) n xs):n≤c:=by
 rcases h.2 with ⟨hv,h0⟩|⟨g,cap,aa,hv,_,_,hc,_⟩
 · omega
 simp only[Z2]at hv;obtain⟨_,_,rfl⟩:=hv;exact hc
def Md.DocO (w:World) (v:Value) (lo:Nat) (T:List Rw.Row) (E:List Int):Prop :=
 ∃A c XA xc ads,v=zBd A T.length c XA E.length xc∧(ads.length=T.length∧Md.caps T ads)∧w.ownsRow lo 74 3 (.slice A T.length c) T.length (zBj T ads)∧Rw.MapsI w T ads ∧
  ∃mid,lo≤mid∧mid≤w.heap.size∧Md.apart lo mid ads∧w.ownsRow mid 3 1 (.slice XA E.length xc) E.length (E.map (Value.int .i64))
theorem zPo (A XA:Option Addr) (n c xn xc:Nat) (T:List Rw.Row) (E:List Int) (w:World) (hn:T.length=n) (hxn:E.length=xn) (hnb:n≤maxLen) (hxb:xn≤maxLen) (en:∀r∈T,r.2.2.length≤maxLen) (h2:Rw.SeesI w A T) (hX:Sl w w.heap.size XA (E.map (Value.int .i64))) :
 Calls prog 103 #[.agg #[.slice A n c,.slice XA xn xc]] w fun e w'=>∃v,e=.returned v∧Md.DocO w' v w.heap.size (zES T) (zET E)∧Below w.heap.size w w':=by
 obtain⟨j0,hj0,gq,gh,gw⟩:=Z7 zO8;obtain⟨i0,fu,eo,ek,ep⟩:=Z7 zFy;obtain⟨wa,b3⟩:∃wa,((w.alloc (.cells #[.slice A n c,.slice XA xn xc] 38)).alloc (.cells #[.slice none 0 0,.slice none 0 0] 38)).alloc (.cells #[.slice none 0 0,.slice none 0 0] 38)=wa:=⟨_,rfl⟩;have fh:Below w.heap.size w wa:=by rw[←b3];exact (((Zc _ _).alloc (Za _) _).alloc (by simp) _).alloc (by simp;omega) _
 have b8:Rw.At wa w.heap.size 38 [.slice A n c,.slice XA xn xc]:=by
  rw[←b3];exact ((Rw.At.new w 38 [.slice A n c,.slice XA xn xc]).alloc _).alloc _
 have ag:Rw.At wa (w.heap.size+1) 38 [.slice none 0 0,.slice none 0 0]:=by
  have h:=Rw.At.new (w.alloc (.cells #[.slice A n c,.slice XA xn xc] 38)) 38 [.slice none 0 0,.slice none 0 0];rw[ZK]at h;rw[←b3];exact h.alloc _
 have ar:Rw.At wa (w.heap.size+2) 38 [.slice none 0 0,.slice none 0 0]:=by
  have h:=Rw.At.new ((w.alloc (.cells #[.slice A n c,.slice XA xn xc] 38)).alloc (.cells #[.slice none 0 0,.slice none 0 0] 38)) 38 [.slice none 0 0,.slice none 0 0];rw[ZK,ZK]at h;rw[←b3];exact h
 have hz:w.heap.size+2<wa.heap.size:=ar.lt;obtain⟨M,hM⟩:∃M,zES T=M:=⟨_,rfl⟩;obtain⟨F,hF⟩:∃F,zET E=F:=⟨_,rfl⟩;have ew:M.length=min n 20:=by rw[←hM];unfold zES;rw[List.length_map,List.length_take,hn];omega
 have fx:F.length=min xn 30:=by rw[←hF];unfold zET;rw[List.length_map,List.length_take,hxn];omega
 rw[hM,hF];have HM:=hy' hM;have HF:=hy' hF;have fw:=hy' ew;have gp:=hy' fx;have gu:=hy' b3;have h3:=hy' fh;have HN:=hy' hn;have eb:=hy' hxn;have dn:=hy' en;have dm:=hy' h2;have HX:=hy' hX;have dv:=hy' b8;clear b3 fh hn hxn en h2 hX b8 hM hF ew fx;go_enter func103,ntmps103;go_upto_region 2 with (fail)
 rw[gu.o];go_wp2_with fail
 go_loopw [4] (fun i wr=>∃(j:Nat) (v:Value) (ads:List (Option Addr × Nat)),j≤min n 20∧i=.int .i64 j∧Rw.At wr (w.heap.size+1) 38 [.slice none 0 0,.slice none 0 0]∧Rw.At wr (w.heap.size+2) 38 [v,.slice none 0 0] ∧
  (ads.length=(M.take j).length∧Md.caps (M.take j) ads)∧wr.ownsRow (w.heap.size+3) 74 3 v j (zBj (M.take j) ads)∧Rw.MapsI wr (M.take j) ads∧Md.apart (w.heap.size+3) wr.heap.size ads∧Below (w.heap.size+1) wa wr) (fun i _=>min n 20-(intOf i).toNat)
 case atStart=>exact⟨0,.slice none 0 0,[],ZG _,rfl,ag,ar,⟨rfl,fun i r a h=>by simp at h⟩,ZI _ _ _ _,fun i r a h=>by simp at h,Md.apart.nil _ _,Zc _ _⟩
 obtain⟨j,v,ads,hj,rfl,ey,fq,⟨b5,bh⟩,ah,bm,e0,a8⟩:=hrel;have fc:w.heap.size+3≤wr.heap.size:=Zh hz a8.size;have ha0:=dv.o.below' a8 (ZN _);have ej:=hy' ey;have cv:=hy' fq;have bb:=hy' b5;have bk:=hy' bh;have bf:=hy' ah;have bi:=hy' bm;have fp:=hy' e0;have ec:=hy' a8;have eg:=hy' ha0;have ft:Below w.heap.size w wr:=h3.o.trans (a8.mono (ZW _));have bl:=hy' ft;have z0:=ha0.cell 0 rfl;have gx:=ha0.lt;obtain⟨tb,fj⟩:∃tb,decide (j<n∧j<20)=tb:=⟨_,rfl⟩;have ck:=hy' fj;clear ey fq b5 bh ah bm e0 a8 ha0 ft ag ar fj;go_upto_region 3 with (fail)
 go_cut [16] (fun s wx=>s=.bool tb∧wx=wr)
 case first =>
  by_cases h1:j<n
  · have cg:(j:Int)<n:=by omega
    by_cases h2:j<20
    · have ct:(j:Int)<20:=by omega
      have ak:tb=true:=by rw[←ck.o];simp[h1,h2]
      subst ak;clear h1 h2;go_wp2_with fail;go_meet;exact⟨rfl,rfl⟩
    have ct:¬(j:Int)<20:=by omega
    have ak:tb=false:=by rw[←ck.o];simp[h2]
    subst ak;clear h1 h2;go_wp2_with fail;go_meet;exact⟨rfl,rfl⟩
  have cg:¬(j:Int)<n:=by omega
  have ak:tb=false:=by rw[←ck.o];simp[h1]
  subst ak;clear h1;go_wp2_with fail;go_meet;exact⟨rfl,rfl⟩
 obtain⟨rfl,rfl⟩:=hcut;obtain⟨wo,rfl⟩:∃wo:World,wo=wc:=⟨_,rfl⟩;rcases tb with _|_
 · have gg:¬(j<n∧j<20):=QD ck.o;have h7:j=min n 20:=by omega
   have bc:M.take j=M:=Zi (by rw[fw.o];omega);have ef:M.length=j:=by rw[fw.o];omega
   have au:=bf.o;have a1:=bb.o;have aq:=bk.o;have ba:=bi.o;rw[bc]at au a1 ba aq;obtain⟨A8,c8,rfl⟩:=zA3 au;have cp:=hy' au;have cf:=hy' (And.intro a1 aq);have cd:=hy' ba;have er:=hy' ef;clear au a1 aq ba bc ef h7 gg z0;go_wp2_with fail;go_loopw [7] (fun i wr=>∃(k:Nat) (u:Value),k≤min xn 30∧i=.int .i64 k∧Rw.At wr (w.heap.size+2) 38 [.slice A8 j c8,u]∧wr.ownsRow wo.heap.size 3 1 u k ((F.take k).map (Value.int .i64))∧wo.grownBy wr (some (w.heap.size+2))) (fun i _=>min xn 30-(intOf i).toNat)
   case atStart=>exact⟨0,.slice none 0 0,ZG _,rfl,cv.o,ZI _ _ _ _,zDh (Zc _ _)⟩
   obtain⟨k,u,hk,rfl,di,ah,hg⟩:=hrel;have hl:w.heap.size+2<wr.heap.size:=di.lt;have hzz:wo.heap.size≤wr.heap.size:=hg.size;have h0:=eg.o.grown hg (by simp);have z1:=h0.cell 1 rfl;have ig:=h0.lt;have b6:=bl.o.trans (zAe (b:=w.heap.size) hg bl.o.size fun q hq=>by cases hq;omega);obtain⟨kb,b9⟩:∃kb,decide (k<xn∧k<30)=kb:=⟨_,rfl⟩;have a6:=hy' b9;have cu:=hy' di;have az:=hy' ah;have HG:=hy' hg;have bt:=hy' b6;clear b9 di ah hg h0 b6;go_upto_region 12 with (fail)
   go_cut [79] (fun s wx=>s=.bool kb∧wx=wr)
   case first =>
    by_cases h1:k<xn
    · have cg:(k:Int)<xn:=by omega
      by_cases h2:k<30
      · have ct:(k:Int)<30:=by omega
        have ak:kb=true:=by rw[←a6.o];simp[h1,h2]
        subst ak;clear h1 h2;go_wp2_with fail;go_meet;exact⟨rfl,rfl⟩
      have ct:¬(k:Int)<30:=by omega
      have ak:kb=false:=by rw[←a6.o];simp[h2]
      subst ak;clear h1 h2;go_wp2_with fail;go_meet;exact⟨rfl,rfl⟩
    have cg:¬(k:Int)<xn:=by omega
    have ak:kb=false:=by rw[←a6.o];simp[h1]
    subst ak;clear h1;go_wp2_with fail;go_meet;exact⟨rfl,rfl⟩
   obtain⟨rfl,rfl⟩:=hcut;obtain⟨wq,rfl⟩:∃wq:World,wq=wc:=⟨_,rfl⟩;rcases kb with _|_
   · have dk:¬(k<xn∧k<30):=QD a6.o;have b2:F.length=k:=by rw[gp.o];omega
     have bc:F.take k=F:=Zi (by rw[b2];omega);have ah:=az.o;rw[bc]at ah;obtain⟨A9,c9,rfl⟩:=zA3 ah;have ar:=cu.o;have ag:=ej.o.grown HG.o (by simp);have p0:=ar.cell 0 rfl;have p1:=ar.cell 1 rfl;have r0:=ag.cell 0 rfl;have r1:=ag.cell 1 rfl;have ik:=ag.frozen 0;have h8:=ag.frozen 1;have b7:=hy' ag;have cq:=hy' ah;have fg:=hy' b2;have ib:=ag.lt;clear dk b2 bc ah ag ar z1;go_wp2_with fail;have k1:=b7.o.set 0 (.slice A8 j c8);have k2:=k1.set 1 (.slice A9 k c9);refine YF (zIG rfl _ _ (w.heap.size+1) _ _ _ _ rfl k2 underlying38 rfl (by kernel_rfl)) rfl ⟨_,rfl,⟨A8,c8,A9,c9,ads,?_,cf.o,?_,?_,wo.heap.size,by omega,by rw[ZP,ZP];omega,?_,?_⟩,?_⟩
     · rw[er.o,fg.o];rfl
     · rw[er.o];exact own_base (zA8 (zA8 (zA8 cp.o (by omega) HG.o) (by omega) (Rw.grown_set (w.heap.size+1) 0 _)) (by omega) (Rw.grown_set (w.heap.size+1) 1 _)) (by omega)
     · exact ((cd.o.grown HG.o (by intro q hq;cases hq;exact cv.o.not (by decide))).grown (Rw.grown_set (w.heap.size+1) 0 _) (by intro q hq;cases hq;exact b7.o.not (by decide))).grown (Rw.grown_set (w.heap.size+1) 1 _) (by intro q hq;cases hq;exact k1.not (by decide))
     · have:=fp.o;exact⟨this.1,fun a ha p hp=>by have h:=this.2 a ha p hp;omega⟩
     · rw[fg.o];exact zA8 (zA8 cq.o (by omega) (Rw.grown_set (w.heap.size+1) 0 _)) (by omega) (Rw.grown_set (w.heap.size+1) 1 _)
     exact (bt.o.setCell (p:=⟨w.heap.size+1,0,none⟩) (ZW _) _).setCell (p:=⟨w.heap.size+1,1,none⟩) (ZW _) _
   obtain⟨cb,dh⟩:k<xn∧k<30:=YI a6.o;obtain⟨x,hx⟩:∃x,E[k]?=some x:=⟨_,Zb (by rw[eb.o];exact cb)⟩;obtain⟨ab,ao,rfl,cw,cc⟩:=HX.o (by rw[Ze,eb.o];omega);have hc:=cc k (by rw[Ze,eb.o];exact cb);rw[Zw,hx,Zx,←(zAP bt.o).1 _ _ cw]at hc;have b2:F[k]?=some (Ch.K x):=by rw[←HF.o];exact zNI hx dh
   have e7:=Ch.char_any x;have eh:=(Ch.isC_iff _).1 (Ch.K_is x)
   have af:(F.take (k+1)).map (Value.int .i64)=(F.take k).map (Value.int .i64)++[.int .i64 (Ch.K x)]:=by
    rw[ZA,b2];simp
   obtain⟨y,hy⟩:∃y,Ch.K x=y:=⟨_,rfl⟩;rw[hy]at eh af;simp only[hy]at e7;have dt:IntKind.i64.wrap y=y:=by rw[Z5];omega
   have kI:(k:Int)<xn:=by omega
   have k0:(0:Int)≤(k:Int):=by omega
   have du:ab<wq.heap.size:=Zf cw bt.o.size;have q0:=cu.o.cell 0 rfl;have q1:=cu.o.cell 1 rfl;have ai:=(az.o.alloc (.cells #[.int .i64 y] 3)).drew;have br:Rw.At (wq.alloc (.cells #[.int .i64 y] 3)).drew (w.heap.size+2) 38 [.slice A8 j c8,u]:=cu.o.alloc _;have df:=zOw wq (.int .i64 y) 3 wq.heap.size rfl;have a7:wo.heap.size≤(wq.alloc (.cells #[.int .i64 y] 3)).drew.heap.size:=by simp;omega
   have cj:Below wq.heap.size wq (wq.alloc (.cells #[.int .i64 y] 3)).drew:=((Zc _ _).alloc (Za _) _).drew;have b4:=hy' ai;have cz:=hy' af;have dy:=hy' (zBi az.o (w.heap.size+2) (by omega));have bs:=hy' cj;clear cj hx cc af ai b2 eh hy;go_upto_region 14 with (fail)
   go_region_law
    (first
      | (refine zJU _ (by rfl) 35 _ _ (by rfl) (C.enter func35 (by kernel_rfl) rfl) (.int .i64 x) (by rfl) _ (e7 _) ?_)
      | (refine zCH _ rfl _ _ _ rfl wo.heap.size 3 i0 _ 8 underlying36 fu eo ek ep rfl u k _ rfl b4.o _ rfl wq.heap.size rfl df (by simp only[maxLen];omega) (by omega) a7 ?_;intro v1 w4 ap dx ae;have aj:=br.grown ae dy.o;have ih:=aj.cell 0 rfl;have ie:=aj.cell 1 rfl;have ir:=aj.frozen 1;have iq:=aj.lt;obtain⟨A6,c6,rfl⟩:=zA3 ap)
      | fail)
   all_goals
    go_wp2_with fail
    exact⟨⟨k+1,_,by omega,by go_num,aj.set 1 _,by rw[cz.o];exact zA8 ap (by omega) (Rw.grown_set _ 1 _),
     zA0 (Md.grown_below HG.o ((bs.o.mono hzz).trans dx)) (Rw.grown_set _ 1 _)⟩,by simp[intOf];omega⟩
 obtain⟨h5,fz⟩:j<n∧j<20:=YI ck.o;obtain⟨r,hr⟩:∃r,T[j]?=some r:=⟨_,Zb (by rw[HN.o];exact h5)⟩;have cm:=dn.o r (Zk hr);obtain⟨b,o,a,gb,hb,e4,fk,et,dp⟩:=dm.o.row hr;have c0:=((zAP bl.o).1 b (o+j*3) hb).trans e4;have c1:=((zAP bl.o).1 b (o+j*3+1) hb).trans fk;have c2:=((zAP bl.o).1 b (o+j*3+2) hb).trans et;have ho:b<wo.heap.size:=Zf hb bl.o.size;obtain⟨rc,rk,rm⟩:=r;obtain⟨aA,ac⟩:=a;simp only at c0 c1 c2 dp cm;obtain⟨ml,bu⟩:∃k,rm.length=k:=⟨_,rfl⟩;rw[bu]at c2 cm;obtain⟨q,hq⟩:∃q,IntKind.i32.wrap rc=q:=⟨_,rfl⟩;have gv:IntKind.i64.wrap q=q:=by rw[←hq];exact zMl rc
 have jI:(j:Int)<n:=by omega
 have il:(0:Int)≤j:=by omega
 have HR:=hy' hr;have av:=hy' bu;have dr:=hy' (dp.below bl.o (Za _));have HQ:=hy' hq;subst gb;clear e4 fk et dp hr bu;go_upto_region 5 with (fail)
 go_cut [5] (fun s wx=>s=.pointer (some ⟨wo.heap.size,0,none⟩)∧Rw.At wx wo.heap.size 74 [.int .i64 q,.int .i64 rk,.slice none 0 0]∧Below wo.heap.size wo wx)
 case first =>
  go_region
  all_goals
   go_wp2_with fail;go_meet;exact⟨rfl,Rw.At.new _ 74 [.int .i64 q,.int .i64 rk,.slice none 0 0],((Zc _ _).drew.alloc (Za _) _)⟩
 obtain⟨rfl,bp,bq⟩:=hcut;obtain⟨wA,rfl⟩:∃wA:World,wA=wc:=⟨_,rfl⟩;have ia:wo.heap.size<wA.heap.size:=bp.lt;have h6:=hy' bq;have C2:=hy' c2;clear c0 c1 c2 z0;go_wp2_with fail;go_loopw [6] (fun i wq=>∃(k:Nat) (u:Value),k≤min ml 4∧i=.int .i64 k∧Rw.At wq wo.heap.size 74 [.int .i64 q,.int .i64 rk,u]∧wq.ownsRow (wo.heap.size+1) 3 1 u k (((rm.take k).map zDa).map (Value.int .i64))∧Below wo.heap.size wo wq) (fun i _=>min ml 4-(intOf i).toNat)
 case atStart=>exact⟨0,.slice none 0 0,ZG _,rfl,bp,ZI _ _ _ _,bq⟩
 obtain⟨k,u,hk,rfl,bw,aa,cx⟩:=hrel;obtain⟨wq,rfl⟩:∃wq:World,wq=wr:=⟨_,rfl⟩;have gz:wo.heap.size<wq.heap.size:=bw.lt;have c7:=eg.o.below cx;have z0:=c7.cell 0 rfl;have gm:=c7.lt;have gf:b<wq.heap.size:=by omega
 have c2:=((zAP cx).1 b (o+j*3+2) ho).trans C2.o;obtain⟨kb,b9⟩:∃kb,decide (k<ml∧k<4)=kb:=⟨_,rfl⟩;have a6:=hy' b9;have bz:=hy' bw;have ax:=hy' aa;have ch:=hy' cx;clear b9 c7 bw aa cx bp bq;go_upto_region 7 with (fail)
 go_cut [46] (fun s wx=>s=.bool kb∧wx=wq)
 case first =>
  by_cases h1:k<ml
  · have cg:(k:Int)<ml:=by omega
    by_cases h2:k<4
    · have ct:(k:Int)<4:=by omega
      have ak:kb=true:=by rw[←a6.o];simp[h1,h2]
      subst ak;clear h1 h2;go_wp2_with fail;go_meet;exact⟨rfl,rfl⟩
    have ct:¬(k:Int)<4:=by omega
    have ak:kb=false:=by rw[←a6.o];simp[h2]
    subst ak;clear h1 h2;go_wp2_with fail;go_meet;exact⟨rfl,rfl⟩
  have cg:¬(k:Int)<ml:=by omega
  have ak:kb=false:=by rw[←a6.o];simp[h1]
  subst ak;clear h1;go_wp2_with fail;go_meet;exact⟨rfl,rfl⟩
 obtain⟨rfl,rfl⟩:=hcut;obtain⟨wq,rfl⟩:∃wq:World,wq=wc:=⟨_,rfl⟩;rcases kb with _|_
 · have dk:¬(k<ml∧k<4):=QD a6.o
   have ez:(rm.take k).map zDa=(rm.take 4).map zDa:=by
    by_cases h4:k=4
    · rw[h4]
    rw[Zi (by rw[av.o];omega),Zi (by rw[av.o];omega)]
   obtain⟨R,hR⟩:∃R,zKY (rc,rk,rm)=R:=⟨_,rfl⟩;have fo:R.1=q:=by rw[←hR];exact HQ.o
   have e9:R.2.1=rk:=by rw[←hR];rfl
   have dc:R.2.2=(rm.take k).map zDa:=by rw[←hR,ez];rfl
   have fm:R.2.2.length=k:=by rw[dc,Ze,Zr,av.o];omega
   have fe:M[j]?=some R:=by rw[←HM.o,←hR];exact zNH HR.o fz
   have aa:=ax.o;rw[←dc]at aa;obtain⟨A6,c6,rfl⟩:=zA3 aa;have dl:Below wq.heap.size wq (wq.alloc (.cells #[.int .i64 q,.int .i64 rk,.slice A6 k c6] 74)):=(Zc _ _).alloc (Za _) _;have cn:=ch.o.trans (dl.mono ch.o.size);have bj:=zA4 bf.o cn (Za _);have bx:=cv.o.below cn;have bg:=cv.o.below ch.o;have p0:=bg.cell 0 rfl;have ic:=bx.cell 0 rfl;obtain⟨x0,x1,x2,_,_,_⟩:=bz.o.three;have ei:=bi.o.below cn;have e5:=(Slt.of_own aa).below dl;have ee:=hy' (zCa (w:=wq.alloc (.cells #[.int .i64 q,.int .i64 rk,.slice A6 k c6] 74)) (A:=some ⟨wq.heap.size,0,none⟩) (xs:=[.int .i64 q,.int .i64 rk,.slice A6 k c6]) rfl 74 (0,0) (ZV wq _));have dz:w.heap.size+3≤(wq.alloc (.cells #[.int .i64 q,.int .i64 rk,.slice A6 k c6] 74)).heap.size:=by simp;omega
   have ay:=hy' bj;have ed:=hy' bx;have gj:=hy' ei;have fy:=hy' e5;have e6:=hy' cn;have bn:=hy' aa;have gl:=hy' fe;have gy:=hy' fo;have hh:=hy' e9;have e8:=hy' fm;have dw:=hy' (zBi bf.o (w.heap.size+2) (by omega));have cy:=hy' (zBi bf.o (w.heap.size+1) (by omega));have hl:w.heap.size+2<wq.heap.size:=by omega
   clear ez hR fo e9 dc fm fe aa dl cn bj bx bg ei e5 dk z0 c2;go_wp2_with (first|(at_builtin;refine zAd _ rfl _ _ _ rfl (w.heap.size+3) 74 j0 _ 3 40 underlying35 hj0 gq gh gw rfl (by omega) v j _ rfl ay.o _ (some ⟨wq.heap.size,0,none⟩) 1 1 [.int .i64 q,.int .i64 rk,.slice A6 k c6] rfl rfl ee.out (by simp[Value.oneCell']) (by simp only[maxLen];omega) (by omega) dz ?_;intro v1 w6 bo eu ae;have aw:=ed.o.grown ae dw.o;have y0:=aw.cell 0 rfl;have h9:=aw.frozen 0;have im:=aw.lt;obtain⟨A8,c8,rfl⟩:=zA3 bo)|fail);have e1:=((gj.o).grown ae (zAy ay.o (by decide))).grown (Rw.grown_set (w.heap.size+2) 0 (.slice A8 (j+1) c8)) (by intro q hq;cases hq;exact aw.not (by decide));have e2:=((fy.o).grown ae (zAy ay.o (by decide))).grown (Rw.grown_set (w.heap.size+2) 0 (.slice A8 (j+1) c8)) (by intro q hq;cases hq;exact aw.not (by decide));have e3:=zA8 bo (ZN (w.heap.size+2)) (Rw.grown_set (w.heap.size+2) 0 (.slice A8 (j+1) c8));have bc:M.take (j+1)=M.take j++[R]:=by rw[ZA,gl.o];rfl
   have gi:wq.heap.size<w6.heap.size:=Zf (by simp) eu.size;refine⟨⟨j+1,_,ads++[(A6,c6)],by omega,by go_num,(((ej.o.below e6.o).grown ae cy.o).other (by omega) _),aw.set 0 _,⟨by rw[bc];simp[bb.o],by rw[bc];exact bk.o.app bb.o (by rw[e8.o];exact zFl bn.o)⟩,?_,?_,?_,?_⟩,by simp[intOf];omega⟩
   · rw[bc,zGL _ _ R (A6,c6) bb.o,gy.o,hh.o,show R.2.2.length=k from e8.o];exact e3
   · rw[bc];exact e1.app bb.o e2
   · refine fp.o.app (hi':=(w6.setCell ⟨w.heap.size+2,0,none⟩ (.slice A8 (j+1) c8)).heap.size) ?_ fc ?_
     · rw[ZP];omega
     intro p hp;simp only at hp;subst hp;have:=bn.o.lt p.block rfl;rw[ZP];omega
   have b1:=ec.o.trans (e6.o.mono (Zh (by omega) fc));exact (b1.trans (eu.mono (by omega))).setCell (p:=⟨w.heap.size+2,0,none⟩) (by show w.heap.size+1≤w.heap.size+2;omega) _
 obtain⟨cb,ij⟩:k<ml∧k<4:=YI a6.o;obtain⟨x,hx⟩:∃x,rm[k]?=some x:=⟨_,Zb (by rw[av.o];exact cb)⟩;obtain⟨ab,ao,rfl,ea,cc⟩:=dr.o (by rw[Ze,av.o];omega);have cw:ab<wo.heap.size:=Zf ea bl.o.size;have hc:=cc k (by rw[Ze,av.o];exact cb);rw[Zw,hx,Zx,←(zAP ch.o).1 _ _ cw]at hc
 have af:((rm.take (k+1)).map zDa).map (Value.int .i64)=((rm.take k).map zDa).map (Value.int .i64)++[.int .i64 (zDa x)]:=by
  rw[ZA,hx];simp
 obtain⟨y,hy⟩:∃y,IntKind.i32.wrap x=y:=⟨_,rfl⟩;have dt:IntKind.i64.wrap y=y:=by rw[←hy];exact zMl x
 rw[show zDa x=y from hy]at af;have kI:(k:Int)<ml:=by omega
 have k0:(0:Int)≤(k:Int):=by omega
 have du:ab<wq.heap.size:=by omega
 obtain⟨m1,m2,m3,m4,m5,m6⟩:=bz.o.three;have ai:=(ax.o.alloc (.cells #[.int .i64 y] 3)).drew;have br:Rw.At (wq.alloc (.cells #[.int .i64 y] 3)).drew wo.heap.size 74 [.int .i64 q,.int .i64 rk,u]:=bz.o.alloc _;have df:=zOw wq (.int .i64 y) 3 wq.heap.size rfl;have a7:wo.heap.size+1≤(wq.alloc (.cells #[.int .i64 y] 3)).drew.heap.size:=by simp;omega
 have cj:Below wq.heap.size wq (wq.alloc (.cells #[.int .i64 y] 3)).drew:=((Zc _ _).alloc (Za _) _).drew;have cr:=hy' ai;have cz:=hy' af;have dy:=hy' (zBi ax.o wo.heap.size (ZN _));have bs:=hy' cj;clear cj hx cc af ai;go_upto_region 9 with (fail)
 go_region_law
  (first
    | (refine zCH _ rfl _ _ _ rfl (wo.heap.size+1) 3 i0 _ 8 underlying36 fu eo ek ep rfl u k _ rfl cr.o _ rfl wq.heap.size rfl df (by simp only[maxLen];omega) (by omega) a7 ?_;intro v1 w4 ap dx ae;have aj:=br.grown ae dy.o;obtain⟨z1,z2,z3,z4,z5,z6⟩:=aj.three;obtain⟨A6,c6,rfl⟩:=zA3 ap)
    | fail)
 all_goals
  go_wp2_with fail
  exact⟨⟨k+1,_,by omega,by go_num,aj.set 2 _,by rw[cz.o];exact zA8 ap (ZN _) (Rw.grown_set _ 2 _),
   ((ch.o.trans (bs.o.mono (Z4 gz))).trans (dx.mono (ZW _))).setCell (p:=⟨wo.heap.size,2,none⟩) (Za _) _⟩,by simp[intOf];omega⟩
theorem Md.DocO.below {w w':World} {v:Value} {lo:Nat} {T:List Rw.Row} {E:List Int} (h:Md.DocO w v lo T E) (hb:Below w.heap.size w w'):Md.DocO w' v lo T E:=by
 obtain⟨A,c,XA,xc,ads,rfl,hl,ho,hm,mid,h1,h2,ha,hx⟩:=h;exact⟨A,c,XA,xc,ads,rfl,hl,zA4 ho hb (Za _),hm.below hb,mid,h1,Zh h2 hb.size,ha,zA4 hx hb (Za _)⟩
def Md.xs (E:List Int) (d:Int):Bool:=decide (d∈E)
def zKZ (T:List Rw.Row) (E:List Int) (c:Int):Bool:=decide (0<(zA6 c).length)||(decide ((Md.mp T c).length=2)&&(decide (Md.cls T c=0)&&(decide (Md.cls T ((Md.mp T c).headD 0)=0)&&!Md.xs E c)))
theorem zPp (T:List Rw.Row) (E:List Int) (c:Int):zKZ T E c=zAo T (Md.xs E) c:=by
 unfold zKZ zAo
 by_cases h:(zAg c).2.2=true
 · have hs:0<(zA6 c).length:=by
    unfold zAg at h;unfold zA6;split at h
    · rename_i h4;rw[Zl h4];simp
    split at h
    · rename_i h4 h5;rw[Zj h4,Zl h5];simp
    cases h
   rw[h,Zu hs,Xp,Xp]
 have hp:(zAg c).2.2=false:=by simpa using h
 have hs:(zA6 c).length=0:=by
  unfold zAg at h;unfold zA6;split at h
  · exact absurd rfl h
  split at h
  · exact absurd rfl h
  rename_i h4 h5;rw[Zj h4,Zj h5];rfl
 have hm:Md.mp T c=zAS T c:=by
  unfold Md.mp;rw[Zj h]
 rw[hp,Zt (by omega),Y5,Y5,hm];unfold zAS;cases hf:Md.find T c with
 | none=>simp
 | some r =>
   have he:=(zAq hf).2;have hc:Md.cls T c=r.2.1:=by unfold Md.cls;rw[hf];rfl
   simp only[Zx,JY];unfold zAc;rw[hc,he];cases decide (r.2.1=0) <;> cases decide (r.2.2.length=2) <;> rfl
theorem zHz (v:Value) (T:List Rw.Row) (E:List Int) (d:Int) (w:World) (b3:T.length≤100000) (b4:E.length≤1000000) (h:Md.Doc w v T E) (az:∀r∈T,r.2.2.length≤1000) (h3 : -2147483648≤d) (h4:d≤2147483647) :
 Calls prog 109 #[v,.int .i64 d] w fun e w'=>e=.returned (.bool (zAo T (Md.xs E) d))∧Below w.heap.size w w':=by
 rw[←zPp];have a1:=zLV az d;have ak:=hy' h;obtain⟨AT,cT,XA,xc,rfl,h2,hX⟩:=h;obtain⟨tn,a7⟩:∃k,T.length=k:=⟨_,rfl⟩;obtain⟨xn,hxn⟩:∃k,E.length=k:=⟨_,rfl⟩;have aa:zKZ T E d=(decide (0<(zA6 d).length)||(decide ((Md.mp T d).length=2)&&(decide (Md.cls T d=0)&&(decide (Md.cls T ((Md.mp T d).headD 0)=0)&&!Md.xs E d)))):=rfl;obtain⟨o,ho⟩:∃o,zKZ T E d=o:=⟨_,rfl⟩;rw[ho]at aa ⊢;have br:Below w.heap.size w (w.alloc (.cells #[.slice AT tn cT,.slice XA xn xc] 38)):=(Zc _ _).alloc (Za _) _;have bi:Rw.At (w.alloc (.cells #[.slice AT tn cT,.slice XA xn xc] 38)) w.heap.size 38 [.slice AT tn cT,.slice XA xn xc]:=Rw.At.new w 38 [.slice AT tn cT,.slice XA xn xc];have HP:=hy' (zH5 d (w.alloc (.cells #[.slice AT tn cT,.slice XA xn xc] 38)) h3 h4)
 have au:Hy (∀W,Below w.heap.size w W→Calls prog 107 #[.agg #[.slice AT tn cT,.slice XA xn xc],.int .i64 d] W (zCR .i64 (Md.mp T d) W)):=hy' fun W hW=>by
  have:=zIx _ T E d W (by omega) (ak.o.below hW) h3 h4;rw[a7,hxn]at this;exact this
 have ba:Hy (∀x W,Below w.heap.size w W→Calls prog 71 #[.agg #[.slice AT tn cT,.slice XA xn xc],.int .i64 x] W fun e w'=>e=.returned (.int .i64 (Md.cls T x))∧Below W.heap.size W w'):=hy' fun x W hW=>by
  have:=zFN _ T E x W (by omega) (ak.o.below hW);rw[a7,hxn]at this;exact this
 have bf:Hy (∀W,Below w.heap.size w W→Calls prog 146 #[.slice XA xn xc,.int .i64 d] W fun e w'=>e=.returned (.bool (Md.xs E d))∧W=w'):=hy' fun W hW =>
  Md.in_any XA xn xc E d W hxn (by omega) (hX.below hW hW.size)
 have bj:=hy' br;have bs:=hy' bi;have ay:=hy' aa;rw[a7,hxn];obtain⟨sp,bm⟩:∃s,zA6 d=s:=⟨_,rfl⟩;obtain⟨m,hm⟩:∃m,Md.mp T d=m:=⟨_,rfl⟩;rw[bm]at HP ay;rw[hm]at au ay a1;clear br bi aa ho a7 hxn h2 hX bm hm ak az;unfold zBd;go_enter func109,ntmps109;go_wp2_with fail;refine HP.o.mono ?_;rintro e w1 ⟨A1,c1,rfl,_,ar⟩;have ai:=bs.o.below ar;have z0:=ai.cell 0 rfl;have z1:=ai.cell 1 rfl;have bb:=hy' ai;have a8:=hy' (bj.o.trans (ar.mono bj.o.size));obtain⟨sl,bk⟩:∃k,sp.length=k:=⟨_,rfl⟩;rw[bk]at ay ⊢;clear ar ai HP bk bs
 by_cases hs0:0<sl
 · have ag:o=true:=by rw[ay.o,Zu hs0,Xp]
   have ah:=hy' ag;have bu:(0:Int)<sl:=by omega
   clear ag;go_wp2_with fail;go_ret;exact⟨by rw[ah.o];rfl,a8.o⟩
 have aa:=ay.o;rw[Zt hs0,Y5]at aa;have aj:=hy' aa;have bu:¬(0:Int)<sl:=by omega
 clear aa ay;go_wp2_with fail;refine (au.o w1 a8.o).mono ?_;rintro e w2 ⟨A2,c2,rfl,bq,aq⟩;have af:=bb.o.below aq;have y0:=af.cell 0 rfl;have y1:=af.cell 1 rfl;have bc:=af.lt;have ae:=hy' (a8.o.trans (aq.mono a8.o.size));have bx:=hy' bq;have bt:=hy' af;obtain⟨ml,az⟩:∃k,m.length=k:=⟨_,rfl⟩;rw[az]at aj a1 ⊢;have b2:=hy' az;clear bq aq af z0 z1 au az;rcases hd2:((ml:Int) == 2) with _|_
 · have hne:¬ml=2:=fun e=>by rw[e]at hd2;simp at hd2
   have ag:o=false:=by rw[aj.o,Zt hne,Xl]
   have ah:=hy' ag;clear ag hne;go_wp2_with fail;go_quiet (fail);go_wp2_with fail;go_ret;exact⟨by rw[ah.o];rfl,below_drewN ae.o _⟩
 have bp:ml=2:=by have:=beq_iff_eq.1 hd2;omega
 obtain⟨x,y,rfl⟩:∃x y,m=[x,y]:=by
  have h2:m.length=2:=by rw[b2.o,bp]
  match m,h2 with
  | [x,y],_=>exact⟨x,y,rfl⟩
 obtain⟨ab,ao,hA,bz,bn⟩:=bx.o (by simp);have bl:w2.cell? ⟨ab,ao,none⟩=some (.int .i64 x):=by simpa using bn 0 (by simp)
 subst hA;have b1:0<ml:=by omega
 have bw:(0:Int)<ml:=by omega
 have aa:=aj.o;rw[Zu bp,Xe,List.headD_cons]at aa;have ax:=Ext.call fun W hW=>ba.o d W (ae.o.trans (hW.mono ae.o.size))
 have aw:=Ext.call fun W hW=>ba.o x W (ae.o.trans (hW.mono ae.o.size))
 have av:=Ext.same fun W hW=>bf.o W (ae.o.trans (hW.mono ae.o.size))
 have e0:=Ext.cells y0 bc;have e1:=Ext.cells y1 bc;have e2:=Ext.cells bl bz;obtain⟨q1,bo⟩:∃q,Md.cls T d=q:=⟨_,rfl⟩;obtain⟨q2,bg⟩:∃q,Md.cls T x=q:=⟨_,rfl⟩;obtain⟨xi,bh⟩:∃b,Md.xs E d=b:=⟨_,rfl⟩;rw[bo]at ax aa;rw[bg]at aw aa;rw[bh]at av aa;have C1:=hy' ax;have C2:=hy' aw;have C3:=hy' av;have ap:=hy' aa;clear aa aj ba bn bo bg bh ax aw av y0 y1 bl bf;rcases ar:(q1 == 0) with _|_
 · have ag:o=false:=by rw[ap.o,show decide (q1=0)=false by simpa using ar,Bool.false_and]
   have ah:=hy' ag;clear ag;go_wp2_with fail;refine zA7 (by kernel_rfl) (by kernel_rfl) ?_
   repeat (go_big_quiet_step ((first|(go_at_call 71;first|with_reducible exact C1.o _|with_reducible exact C2.o _)|(go_at_call 146;with_reducible exact C3.o _))))
   refine wpQuiet_nil ?_;intro xw;have a6:=hy' (ae.o.trans (xw.below.mono ae.o.size));go_wp2_with fail;go_ret;exact⟨by rw[ah.o];rfl,a6.o⟩
 have h0:q1=0:=beq_iff_eq.1 ar;subst h0;have aa:=ap.o;rw[show decide ((0:Int)=0)=true from rfl,Xe]at aa;clear ap ar;rcases aq:(q2 == 0) with _|_
 · have ag:o=false:=by rw[aa,show decide (q2=0)=false by simpa using aq,Bool.false_and]
   have ah:=hy' ag;clear ag aa;go_wp2_with fail;refine zA7 (by kernel_rfl) (by kernel_rfl) ?_
   repeat (go_big_quiet_step ((first|(go_at_call 71;first|with_reducible exact C1.o _|with_reducible exact C2.o _)|(go_at_call 146;with_reducible exact C3.o _))))
   refine wpQuiet_nil ?_;intro xw;have a6:=hy' (ae.o.trans (xw.below.mono ae.o.size));go_wp2_with fail;go_ret;exact⟨by rw[ah.o];rfl,a6.o⟩
 have h0:q2=0:=beq_iff_eq.1 aq;subst h0;rw[show decide ((0:Int)=0)=true from rfl,Xe]at aa;have ah:=hy' aa;clear aa aq;go_wp2_with fail;refine zA7 (by kernel_rfl) (by kernel_rfl) ?_
 repeat (go_big_quiet_step ((first|(go_at_call 71;first|with_reducible exact C1.o _|with_reducible exact C2.o _)|(go_at_call 146;with_reducible exact C3.o _))))
 refine wpQuiet_nil ?_;intro xw;have a6:=hy' (ae.o.trans (xw.below.mono ae.o.size));go_wp2_with fail;go_ret;exact⟨by rw[ah.o];rfl,a6.o⟩
end Go.Proofs.YthngjlllojiacaaGreatDoor
