/- The laws' Few of a document's table, by walking its text. -/
import Derived.Test.YtddbccflcekdpaaGreatDoorRwOpen
set_option maxRecDepth 100000
set_option maxHeartbeats 8000000
set_option linter.unusedVariables false
set_option linter.unusedSimpArgs false
namespace Go.Proofs.YtddbccflcekdpaaGreatDoor
open Go.Proofs.Tryz
open Go.RowKit
def zDm (x:Int):Int:=IntKind.i32.wrap x
theorem zQV (x:Int) : -2147483648≤zDm x∧zDm x≤2147483647:=by
 unfold zDm;rw[Qr];omega
theorem zMQ (x:Int):IntKind.i64.wrap (zDm x)=zDm x:=by
 have:=zQV x;rw[Ya];omega
def zLs (r:Rw.Row):Rw.Row:=(zDm r.1,r.2.1,(r.2.2.take 4).map zDm)
def zF6 (T:List Rw.Row):List Rw.Row:=(T.take 20).map zLs
def zF7 (E:List Int):List Int:=(E.take 30).map Ch.K
theorem zOe {T:List Rw.Row} {j:Nat} {r:Rw.Row} (h:T[j]?=some r) (hj:j<20):(zF6 T)[j]?=some (zLs r):=by
 unfold zF6;rw[Zs,Ym,Zo hj,h];rfl
theorem zOf {E:List Int} {j:Nat} {x:Int} (h:E[j]?=some x) (hj:j<30):(zF7 E)[j]?=some (Ch.K x):=by
 unfold zF7;rw[Zs,Ym,Zo hj,h];rfl
theorem Md.grown_below {w w' w'':World} {row:Option Nat} (h:w.grownBy w' row) (hb:Below w.heap.size w' w''):w.grownBy w'' row :=
 ⟨hb.os.trans h.os,hb.tape.trans h.tape,hb.output.trans h.output,Zi h.size hb.size,fun k hk hr=>(hb.block k hk).trans (h.block k hk hr)⟩
def Md.apart (lo hi:Nat) (ads:List (Option Addr × Nat)):Prop :=
 (ads.Pairwise fun a b=>∀p q,a.1=some p→b.1=some q→p.block<q.block)∧∀a∈ads,∀p,a.1=some p→lo≤p.block∧p.block<hi
theorem Md.apart.nil (lo hi:Nat):Md.apart lo hi []:=⟨List.Pairwise.nil,fun a h=>by simp at h⟩
theorem Md.apart.app {lo hi hi':Nat} {ads:List (Option Addr × Nat)} (h:Md.apart lo hi ads) (hh:hi≤hi') (hl:lo≤hi) {a:Option Addr × Nat} (ha:∀p,a.1=some p→hi≤p.block∧p.block<hi'):Md.apart lo hi' (ads++[a]):=by
 refine⟨List.pairwise_append.2 ⟨h.1,by simp,fun x hx y hy p q hp hq=>?_⟩,fun x hx p hp=>?_⟩
 · simp only[Zw]at hy;subst hy;have h1:=(h.2 x hx p hp).2;have h2:=(ha q hq).1;omega
 rcases List.mem_append.1 hx with hx|hx
 · have:=h.2 x hx p hp;omega
 simp only[Zw]at hx;subst hx;have:=ha p hp;omega
def Md.caps (rs:List Rw.Row) (ads:List (Option Addr × Nat)):Prop:=∀(i:Nat) (r:Rw.Row) (a:Option Addr × Nat),rs[i]?=some r→ads[i]?=some a→r.2.2.length≤a.2
theorem Md.caps.app {rs:List Rw.Row} {ads:List (Option Addr × Nat)} (h:Md.caps rs ads) (hl:ads.length=rs.length) {r:Rw.Row} {a:Option Addr × Nat} (hr:r.2.2.length≤a.2):Md.caps (rs++[r]) (ads++[a]):=by
 intro i q x hq hx;rcases ZY i rs.length with hi|hi
 · rw[ZT hi]at hq;rw[ZT (by omega)]at hx;exact h i q x hq hx
 have aa:=(List.getElem?_eq_some_iff.1 hq).1;rw[Zd,YA]at aa;obtain rfl:i=rs.length:=by omega
 rw[ZJ (Za _),Yo]at hq;rw[ZJ (by omega),show rs.length-ads.length=0 by omega]at hx;simp at hq hx;subst hq hx;exact hr
theorem zFA {w:World} {base:Nat} {e:TypeId} {size n m c:Nat} {A:Option Addr} {xs:List Value} (h:w.ownsRow base e size (.slice A m c) n xs):n≤c:=by
 rcases h.2 with ⟨hv,h0⟩|⟨g,cap,aa,hv,_,_,hc,_⟩
 · omega
 simp only[Z3]at hv;obtain⟨_,_,rfl⟩:=hv;exact hc
def Md.DocO (w:World) (v:Value) (lo:Nat) (T:List Rw.Row) (E:List Int):Prop :=
 ∃A c XA xc ads,v=zBs A T.length c XA E.length xc∧(ads.length=T.length∧Md.caps T ads)∧w.ownsRow lo 68 3 (.slice A T.length c) T.length (zBn T ads)∧Rw.MapsI w T ads ∧
  ∃mid,lo≤mid∧mid≤w.heap.size∧Md.apart lo mid ads∧w.ownsRow mid 3 1 (.slice XA E.length xc) E.length (E.map (Value.int .i64))
theorem zPP (A XA:Option Addr) (n c xn xc:Nat) (T:List Rw.Row) (E:List Int) (w:World) (hn:T.length=n) (hxn:E.length=xn) (hnb:n≤maxLen) (hxb:xn≤maxLen) (eg:∀r∈T,r.2.2.length≤maxLen) (h2:Rw.SeesI w A T) (hX:Sl w w.heap.size XA (E.map (Value.int .i64))) :
 Calls prog 92 #[.agg #[.slice A n c,.slice XA xn xc]] w fun e w'=>∃v,e=.returned v∧Md.DocO w' v w.heap.size (zF6 T) (zF7 E)∧Below w.heap.size w w':=by
 obtain⟨j0,hj0,h5,h7,fz⟩:=Z7 zOE;obtain⟨i0,ez,fj,ej,ei⟩:=Z7 zDE;obtain⟨wa,b2⟩:∃wa,((w.alloc (.cells #[.slice A n c,.slice XA xn xc] 25)).alloc (.cells #[.slice none 0 0,.slice none 0 0] 25)).alloc (.cells #[.slice none 0 0,.slice none 0 0] 25)=wa:=⟨_,rfl⟩;have fg:Below w.heap.size w wa:=by rw[←b2];exact (((Zc _ _).alloc (Za _) _).alloc (by simp) _).alloc (by simp;omega) _
 have ck:Rw.At wa w.heap.size 25 [.slice A n c,.slice XA xn xc]:=by
  rw[←b2];exact ((Rw.At.new w 25 [.slice A n c,.slice XA xn xc]).alloc _).alloc _
 have ag:Rw.At wa (w.heap.size+1) 25 [.slice none 0 0,.slice none 0 0]:=by
  have h:=Rw.At.new (w.alloc (.cells #[.slice A n c,.slice XA xn xc] 25)) 25 [.slice none 0 0,.slice none 0 0];rw[ZL]at h;rw[←b2];exact h.alloc _
 have ar:Rw.At wa (w.heap.size+2) 25 [.slice none 0 0,.slice none 0 0]:=by
  have h:=Rw.At.new ((w.alloc (.cells #[.slice A n c,.slice XA xn xc] 25)).alloc (.cells #[.slice none 0 0,.slice none 0 0] 25)) 25 [.slice none 0 0,.slice none 0 0];rw[ZL,ZL]at h;rw[←b2];exact h
 have hz:w.heap.size+2<wa.heap.size:=ar.lt;obtain⟨M,hM⟩:∃M,zF6 T=M:=⟨_,rfl⟩;obtain⟨F,hF⟩:∃F,zF7 E=F:=⟨_,rfl⟩;have fc:M.length=min n 20:=by rw[←hM];unfold zF6;rw[List.length_map,List.length_take,hn];omega
 have e8:F.length=min xn 30:=by rw[←hF];unfold zF7;rw[List.length_map,List.length_take,hxn];omega
 rw[hM,hF];have HM:=hy' hM;have HF:=hy' hF;have fx:=hy' fc;have gx:=hy' e8;have gj:=hy' b2;have h3:=hy' fg;have HN:=hy' hn;have ea:=hy' hxn;have dk:=hy' eg;have dn:=hy' h2;have HX:=hy' hX;have c7:=hy' ck;clear b2 fg hn hxn eg h2 hX ck hM hF fc e8;go_enter func92,ntmps92;go_upto_region 2 with (fail)
 rw[gj.o];go_wp2_with fail
 go_loopw [4] (fun i wr=>∃(j:Nat) (v:Value) (ads:List (Option Addr × Nat)),j≤min n 20∧i=.int .i64 j∧Rw.At wr (w.heap.size+1) 25 [.slice none 0 0,.slice none 0 0]∧Rw.At wr (w.heap.size+2) 25 [v,.slice none 0 0] ∧
  (ads.length=(M.take j).length∧Md.caps (M.take j) ads)∧wr.ownsRow (w.heap.size+3) 68 3 v j (zBn (M.take j) ads)∧Rw.MapsI wr (M.take j) ads∧Md.apart (w.heap.size+3) wr.heap.size ads∧Below (w.heap.size+1) wa wr) (fun i _=>min n 20-(intOf i).toNat)
 case atStart=>exact⟨0,.slice none 0 0,[],ZG _,rfl,ag,ar,⟨rfl,fun i r a h=>by simp at h⟩,ZI _ _ _ _,fun i r a h=>by simp at h,Md.apart.nil _ _,Zc _ _⟩
 obtain⟨j,v,ads,hj,rfl,en,eu,⟨ch,bl⟩,ah,bg,eh,a6⟩:=hrel;have fu:w.heap.size+3≤wr.heap.size:=Zi hz a6.size;have ha0:=c7.o.below' a6 (ZP _);have fh:=hy' en;have cv:=hy' eu;have a8:=hy' ch;have bk:=hy' bl;have bf:=hy' ah;have bn:=hy' bg;have e0:=hy' eh;have du:=hy' a6;have e9:=hy' ha0;have ek:Below w.heap.size w wr:=h3.o.trans (a6.mono (ZX _));have bm:=hy' ek;have z0:=ha0.cell 0 rfl;have ho:=ha0.lt;obtain⟨tb,ew⟩:∃tb,decide (j<n∧j<20)=tb:=⟨_,rfl⟩;have cq:=hy' ew;clear en eu ch bl ah bg eh a6 ha0 ek ag ar ew;go_upto_region 3 with (fail)
 go_cut [16] (fun s wx=>s=.bool tb∧wx=wr)
 case first =>
  by_cases h1:j<n
  · have cr:(j:Int)<n:=by omega
    by_cases h2:j<20
    · have ct:(j:Int)<20:=by omega
      have ak:tb=true:=by rw[←cq.o];simp[h1,h2]
      subst ak;clear h1 h2;go_wp2_with fail;go_meet;exact⟨rfl,rfl⟩
    have ct:¬(j:Int)<20:=by omega
    have ak:tb=false:=by rw[←cq.o];simp[h2]
    subst ak;clear h1 h2;go_wp2_with fail;go_meet;exact⟨rfl,rfl⟩
  have cr:¬(j:Int)<n:=by omega
  have ak:tb=false:=by rw[←cq.o];simp[h1]
  subst ak;clear h1;go_wp2_with fail;go_meet;exact⟨rfl,rfl⟩
 obtain⟨rfl,rfl⟩:=hcut;obtain⟨wo,rfl⟩:∃wo:World,wo=wc:=⟨_,rfl⟩;rcases tb with _|_
 · have gl:¬(j<n∧j<20):=XG cq.o;have gq:j=min n 20:=by omega
   have bc:M.take j=M:=Zm (by rw[fx.o];omega);have fo:M.length=j:=by rw[fx.o];omega
   have au:=bf.o;have ax:=a8.o;have aq:=bk.o;have bb:=bn.o;rw[bc]at au ax bb aq;obtain⟨A8,c8,rfl⟩:=zA2 au;have cc:=hy' au;have cd:=hy' (And.intro ax aq);have b7:=hy' bb;have e6:=hy' fo;clear au ax aq bb bc fo gq gl z0;go_wp2_with fail;go_loopw [7] (fun i wr=>∃(k:Nat) (u:Value),k≤min xn 30∧i=.int .i64 k∧Rw.At wr (w.heap.size+2) 25 [.slice A8 j c8,u]∧wr.ownsRow wo.heap.size 3 1 u k ((F.take k).map (Value.int .i64))∧wo.grownBy wr (some (w.heap.size+2))) (fun i _=>min xn 30-(intOf i).toNat)
   case atStart=>exact⟨0,.slice none 0 0,ZG _,rfl,cv.o,ZI _ _ _ _,zDs (Zc _ _)⟩
   obtain⟨k,u,hk,rfl,dh,ah,hg⟩:=hrel;have hl:w.heap.size+2<wr.heap.size:=dh.lt;have hzz:wo.heap.size≤wr.heap.size:=hg.size;have h0:=e9.o.grown hg (by simp);have z1:=h0.cell 1 rfl;have ir:=h0.lt;have b8:=bm.o.trans (zAf (b:=w.heap.size) hg bm.o.size fun q hq=>by cases hq;omega);obtain⟨kb,cb⟩:∃kb,decide (k<xn∧k<30)=kb:=⟨_,rfl⟩;have ba:=hy' cb;have cu:=hy' dh;have a7:=hy' ah;have HG:=hy' hg;have bt:=hy' b8;clear cb dh ah hg h0 b8;go_upto_region 12 with (fail)
   go_cut [79] (fun s wx=>s=.bool kb∧wx=wr)
   case first =>
    by_cases h1:k<xn
    · have cr:(k:Int)<xn:=by omega
      by_cases h2:k<30
      · have ct:(k:Int)<30:=by omega
        have ak:kb=true:=by rw[←ba.o];simp[h1,h2]
        subst ak;clear h1 h2;go_wp2_with fail;go_meet;exact⟨rfl,rfl⟩
      have ct:¬(k:Int)<30:=by omega
      have ak:kb=false:=by rw[←ba.o];simp[h2]
      subst ak;clear h1 h2;go_wp2_with fail;go_meet;exact⟨rfl,rfl⟩
    have cr:¬(k:Int)<xn:=by omega
    have ak:kb=false:=by rw[←ba.o];simp[h1]
    subst ak;clear h1;go_wp2_with fail;go_meet;exact⟨rfl,rfl⟩
   obtain⟨rfl,rfl⟩:=hcut;obtain⟨wq,rfl⟩:∃wq:World,wq=wc:=⟨_,rfl⟩;rcases kb with _|_
   · have ec:¬(k<xn∧k<30):=XG ba.o;have b3:F.length=k:=by rw[gx.o];omega
     have bc:F.take k=F:=Zm (by rw[b3];omega);have ah:=a7.o;rw[bc]at ah;obtain⟨A9,c9,rfl⟩:=zA2 ah;have ar:=cu.o;have ag:=fh.o.grown HG.o (by simp);have p0:=ar.cell 0 rfl;have p1:=ar.cell 1 rfl;have r0:=ag.cell 0 rfl;have r1:=ag.cell 1 rfl;have il:=ag.frozen 0;have ik:=ag.frozen 1;have b6:=hy' ag;have cg:=hy' ah;have fp:=hy' b3;have iq:=ag.lt;clear ec b3 bc ah ag ar z1;go_wp2_with fail;have k1:=b6.o.set 0 (.slice A8 j c8);have k2:=k1.set 1 (.slice A9 k c9);refine YH (zJ9 rfl _ _ (w.heap.size+1) _ _ _ _ rfl k2 underlying25 rfl (by kernel_rfl)) rfl ⟨_,rfl,⟨A8,c8,A9,c9,ads,?_,cd.o,?_,?_,wo.heap.size,by omega,by rw[ZQ,ZQ];omega,?_,?_⟩,?_⟩
     · rw[e6.o,fp.o];rfl
     · rw[e6.o];exact own_base (zA8 (zA8 (zA8 cc.o (by omega) HG.o) (by omega) (Rw.grown_set (w.heap.size+1) 0 _)) (by omega) (Rw.grown_set (w.heap.size+1) 1 _)) (by omega)
     · exact ((b7.o.grown HG.o (by intro q hq;cases hq;exact cv.o.not (by decide))).grown (Rw.grown_set (w.heap.size+1) 0 _) (by intro q hq;cases hq;exact b6.o.not (by decide))).grown (Rw.grown_set (w.heap.size+1) 1 _) (by intro q hq;cases hq;exact k1.not (by decide))
     · have:=e0.o;exact⟨this.1,fun a ha p hp=>by have h:=this.2 a ha p hp;omega⟩
     · rw[fp.o];exact zA8 (zA8 cg.o (by omega) (Rw.grown_set (w.heap.size+1) 0 _)) (by omega) (Rw.grown_set (w.heap.size+1) 1 _)
     exact (bt.o.setCell (p:=⟨w.heap.size+1,0,none⟩) (ZX _) _).setCell (p:=⟨w.heap.size+1,1,none⟩) (ZX _) _
   obtain⟨b9,ed⟩:k<xn∧k<30:=YF ba.o;obtain⟨x,hx⟩:∃x,E[k]?=some x:=⟨_,Zb (by rw[ea.o];exact b9)⟩;obtain⟨ab,ao,rfl,cx,cj⟩:=HX.o (by rw[Ze,ea.o];omega);have hc:=cj k (by rw[Ze,ea.o];exact b9);rw[Zs,hx,ZA,←(zAI bt.o).1 _ _ cx]at hc;have b3:F[k]?=some (Ch.K x):=by rw[←HF.o];exact zOf hx ed
   have ey:=Ch.char_any x;have e7:=(Ch.isC_iff _).1 (Ch.K_is x)
   have af:(F.take (k+1)).map (Value.int .i64)=(F.take k).map (Value.int .i64)++[.int .i64 (Ch.K x)]:=by
    rw[ZB,b3];simp
   obtain⟨y,hy⟩:∃y,Ch.K x=y:=⟨_,rfl⟩;rw[hy]at e7 af;simp only[hy]at ey;have dy:IntKind.i64.wrap y=y:=by rw[Ya];omega
   have kI:(k:Int)<xn:=by omega
   have k0:(0:Int)≤(k:Int):=by omega
   have dt:ab<wq.heap.size:=Zg cx bt.o.size;have q0:=cu.o.cell 0 rfl;have q1:=cu.o.cell 1 rfl;have ai:=(a7.o.alloc (.cells #[.int .i64 y] 3)).drew;have bw:Rw.At (wq.alloc (.cells #[.int .i64 y] 3)).drew (w.heap.size+2) 25 [.slice A8 j c8,u]:=cu.o.alloc _;have cy:=zOW wq (.int .i64 y) 3 wq.heap.size rfl;have a1:wo.heap.size≤(wq.alloc (.cells #[.int .i64 y] 3)).drew.heap.size:=by simp;omega
   have cf:Below wq.heap.size wq (wq.alloc (.cells #[.int .i64 y] 3)).drew:=((Zc _ _).alloc (Za _) _).drew;have cp:=hy' ai;have dc:=hy' af;have df:=hy' (zBm a7.o (w.heap.size+2) (by omega));have bq:=hy' cf;clear cf hx cj af ai b3 e7 hy;go_upto_region 14 with (fail)
   go_region_law
    (first
      | (refine zKt _ (by rfl) 40 _ _ (by rfl) (C.enter func40 (by kernel_rfl) rfl) (.int .i64 x) (by rfl) _ (ey _) ?_)
      | (refine zCS _ rfl _ _ _ rfl wo.heap.size 3 i0 _ 8 underlying23 ez fj ej ei rfl u k _ rfl cp.o _ rfl wq.heap.size rfl cy (by simp only[maxLen];omega) (by omega) a1 ?_;intro v1 w4 aj dx ae;have ap:=bw.grown ae df.o;have ie:=ap.cell 0 rfl;have im:=ap.cell 1 rfl;have ij:=ap.frozen 1;have ib:=ap.lt;obtain⟨A6,c6,rfl⟩:=zA2 aj)
      | fail)
   all_goals
    go_wp2_with fail
    exact⟨⟨k+1,_,by omega,by go_num,ap.set 1 _,by rw[dc.o];exact zA8 aj (by omega) (Rw.grown_set _ 1 _),
     zA0 (Md.grown_below HG.o ((bq.o.mono hzz).trans dx)) (Rw.grown_set _ 1 _)⟩,by simp[intOf];omega⟩
 obtain⟨gv,gp⟩:j<n∧j<20:=YF cq.o;obtain⟨r,hr⟩:∃r,T[j]?=some r:=⟨_,Zb (by rw[HN.o];exact gv)⟩;have b5:=dk.o r (Zn hr);obtain⟨b,o,a,gw,hb,fy,fe,e4,dv⟩:=dn.o.row hr;have c0:=((zAI bm.o).1 b (o+j*3) hb).trans fy;have c1:=((zAI bm.o).1 b (o+j*3+1) hb).trans fe;have c2:=((zAI bm.o).1 b (o+j*3+2) hb).trans e4;have gb:b<wo.heap.size:=Zg hb bm.o.size;obtain⟨rc,rk,rm⟩:=r;obtain⟨aA,ac⟩:=a;simp only at c0 c1 c2 dv b5;obtain⟨ml,bs⟩:∃k,rm.length=k:=⟨_,rfl⟩;rw[bs]at c2 b5;obtain⟨q,hq⟩:∃q,IntKind.i32.wrap rc=q:=⟨_,rfl⟩;have gi:IntKind.i64.wrap q=q:=by rw[←hq];exact zMQ rc
 have jI:(j:Int)<n:=by omega
 have ic:(0:Int)≤j:=by omega
 have HR:=hy' hr;have av:=hy' bs;have dm:=hy' (dv.below bm.o (Za _));have HQ:=hy' hq;subst gw;clear fy fe e4 dv hr bs;go_upto_region 5 with (fail)
 go_cut [5] (fun s wx=>s=.pointer (some ⟨wo.heap.size,0,none⟩)∧Rw.At wx wo.heap.size 68 [.int .i64 q,.int .i64 rk,.slice none 0 0]∧Below wo.heap.size wo wx)
 case first =>
  go_region
  all_goals
   go_wp2_with fail;go_meet;exact⟨rfl,Rw.At.new _ 68 [.int .i64 q,.int .i64 rk,.slice none 0 0],((Zc _ _).drew.alloc (Za _) _)⟩
 obtain⟨rfl,br,bz⟩:=hcut;obtain⟨wA,rfl⟩:∃wA:World,wA=wc:=⟨_,rfl⟩;have h9:wo.heap.size<wA.heap.size:=br.lt;have gg:=hy' bz;have C2:=hy' c2;clear c0 c1 c2 z0;go_wp2_with fail;go_loopw [6] (fun i wq=>∃(k:Nat) (u:Value),k≤min ml 4∧i=.int .i64 k∧Rw.At wq wo.heap.size 68 [.int .i64 q,.int .i64 rk,u]∧wq.ownsRow (wo.heap.size+1) 3 1 u k (((rm.take k).map zDm).map (Value.int .i64))∧Below wo.heap.size wo wq) (fun i _=>min ml 4-(intOf i).toNat)
 case atStart=>exact⟨0,.slice none 0 0,ZG _,rfl,br,ZI _ _ _ _,bz⟩
 obtain⟨k,u,hk,rfl,bp,aa,cw⟩:=hrel;obtain⟨wq,rfl⟩:∃wq:World,wq=wr:=⟨_,rfl⟩;have gh:wo.heap.size<wq.heap.size:=bp.lt;have dz:=e9.o.below cw;have z0:=dz.cell 0 rfl;have h8:=dz.lt;have gz:b<wq.heap.size:=by omega
 have c2:=((zAI cw).1 b (o+j*3+2) gb).trans C2.o;obtain⟨kb,cb⟩:∃kb,decide (k<ml∧k<4)=kb:=⟨_,rfl⟩;have ba:=hy' cb;have bx:=hy' bp;have az:=hy' aa;have cn:=hy' cw;clear cb dz bp aa cw br bz;go_upto_region 7 with (fail)
 go_cut [46] (fun s wx=>s=.bool kb∧wx=wq)
 case first =>
  by_cases h1:k<ml
  · have cr:(k:Int)<ml:=by omega
    by_cases h2:k<4
    · have ct:(k:Int)<4:=by omega
      have ak:kb=true:=by rw[←ba.o];simp[h1,h2]
      subst ak;clear h1 h2;go_wp2_with fail;go_meet;exact⟨rfl,rfl⟩
    have ct:¬(k:Int)<4:=by omega
    have ak:kb=false:=by rw[←ba.o];simp[h2]
    subst ak;clear h1 h2;go_wp2_with fail;go_meet;exact⟨rfl,rfl⟩
  have cr:¬(k:Int)<ml:=by omega
  have ak:kb=false:=by rw[←ba.o];simp[h1]
  subst ak;clear h1;go_wp2_with fail;go_meet;exact⟨rfl,rfl⟩
 obtain⟨rfl,rfl⟩:=hcut;obtain⟨wq,rfl⟩:∃wq:World,wq=wc:=⟨_,rfl⟩;rcases kb with _|_
 · have ec:¬(k<ml∧k<4):=XG ba.o
   have fq:(rm.take k).map zDm=(rm.take 4).map zDm:=by
    by_cases h4:k=4
    · rw[h4]
    rw[Zm (by rw[av.o];omega),Zm (by rw[av.o];omega)]
   obtain⟨R,hR⟩:∃R,zLs (rc,rk,rm)=R:=⟨_,rfl⟩;have ef:R.1=q:=by rw[←hR];exact HQ.o
   have ft:R.2.1=rk:=by rw[←hR];rfl
   have dr:R.2.2=(rm.take k).map zDm:=by rw[←hR,fq];rfl
   have et:R.2.2.length=k:=by rw[dr,Ze,Zq,av.o];omega
   have eo:M[j]?=some R:=by rw[←HM.o,←hR];exact zOe HR.o gp
   have aa:=az.o;rw[←dr]at aa;obtain⟨A6,c6,rfl⟩:=zA2 aa;have dp:Below wq.heap.size wq (wq.alloc (.cells #[.int .i64 q,.int .i64 rk,.slice A6 k c6] 68)):=(Zc _ _).alloc (Za _) _;have cm:=cn.o.trans (dp.mono cn.o.size);have bj:=zA4 bf.o cm (Za _);have bu:=cv.o.below cm;have bh:=cv.o.below cn.o;have p0:=bh.cell 0 rfl;have ig:=bu.cell 0 rfl;obtain⟨x0,x1,x2,_,_,_⟩:=bx.o.three;have ep:=bn.o.below cm;have e5:=(Slt.of_own aa).below dp;have dw:=hy' (zCj (w:=wq.alloc (.cells #[.int .i64 q,.int .i64 rk,.slice A6 k c6] 68)) (A:=some ⟨wq.heap.size,0,none⟩) (xs:=[.int .i64 q,.int .i64 rk,.slice A6 k c6]) rfl 68 (0,0) (ZS wq _));have ee:w.heap.size+3≤(wq.alloc (.cells #[.int .i64 q,.int .i64 rk,.slice A6 k c6] 68)).heap.size:=by simp;omega
   have ay:=hy' bj;have cz:=hy' bu;have gf:=hy' ep;have h6:=hy' e5;have fk:=hy' cm;have bi:=hy' aa;have gy:=hy' eo;have gu:=hy' ef;have hh:=hy' ft;have fw:=hy' et;have eb:=hy' (zBm bf.o (w.heap.size+2) (by omega));have dl:=hy' (zBm bf.o (w.heap.size+1) (by omega));have hl:w.heap.size+2<wq.heap.size:=by omega
   clear fq hR ef ft dr et eo aa dp cm bj bu bh ep e5 ec z0 c2;go_wp2_with (first|(at_builtin;refine zAc _ rfl _ _ _ rfl (w.heap.size+3) 68 j0 _ 3 40 underlying22 hj0 h5 h7 fz rfl (by omega) v j _ rfl ay.o _ (some ⟨wq.heap.size,0,none⟩) 1 1 [.int .i64 q,.int .i64 rk,.slice A6 k c6] rfl rfl dw.out (by simp[Value.oneCell']) (by simp only[maxLen];omega) (by omega) ee ?_;intro v1 w6 bo fm ae;have aw:=cz.o.grown ae eb.o;have y0:=aw.cell 0 rfl;have ih:=aw.frozen 0;have ia:=aw.lt;obtain⟨A8,c8,rfl⟩:=zA2 bo)|fail);have e1:=((gf.o).grown ae (zAC ay.o (by decide))).grown (Rw.grown_set (w.heap.size+2) 0 (.slice A8 (j+1) c8)) (by intro q hq;cases hq;exact aw.not (by decide));have e2:=((h6.o).grown ae (zAC ay.o (by decide))).grown (Rw.grown_set (w.heap.size+2) 0 (.slice A8 (j+1) c8)) (by intro q hq;cases hq;exact aw.not (by decide));have e3:=zA8 bo (ZP (w.heap.size+2)) (Rw.grown_set (w.heap.size+2) 0 (.slice A8 (j+1) c8));have bc:M.take (j+1)=M.take j++[R]:=by rw[ZB,gy.o];rfl
   have gm:wq.heap.size<w6.heap.size:=Zg (by simp) fm.size;refine⟨⟨j+1,_,ads++[(A6,c6)],by omega,by go_num,(((fh.o.below fk.o).grown ae dl.o).other (by omega) _),aw.set 0 _,⟨by rw[bc];simp[a8.o],by rw[bc];exact bk.o.app a8.o (by rw[fw.o];exact zFA bi.o)⟩,?_,?_,?_,?_⟩,by simp[intOf];omega⟩
   · rw[bc,zH3 _ _ R (A6,c6) a8.o,gu.o,hh.o,show R.2.2.length=k from fw.o];exact e3
   · rw[bc];exact e1.app a8.o e2
   · refine e0.o.app (hi':=(w6.setCell ⟨w.heap.size+2,0,none⟩ (.slice A8 (j+1) c8)).heap.size) ?_ fu ?_
     · rw[ZQ];omega
     intro p hp;simp only at hp;subst hp;have:=bi.o.lt p.block rfl;rw[ZQ];omega
   have b1:=du.o.trans (fk.o.mono (Zi (by omega) fu));exact (b1.trans (fm.mono (by omega))).setCell (p:=⟨w.heap.size+2,0,none⟩) (by show w.heap.size+1≤w.heap.size+2;omega) _
 obtain⟨b9,iu⟩:k<ml∧k<4:=YF ba.o;obtain⟨x,hx⟩:∃x,rm[k]?=some x:=⟨_,Zb (by rw[av.o];exact b9)⟩;obtain⟨ab,ao,rfl,di,cj⟩:=dm.o (by rw[Ze,av.o];omega);have cx:ab<wo.heap.size:=Zg di bm.o.size;have hc:=cj k (by rw[Ze,av.o];exact b9);rw[Zs,hx,ZA,←(zAI cn.o).1 _ _ cx]at hc
 have af:((rm.take (k+1)).map zDm).map (Value.int .i64)=((rm.take k).map zDm).map (Value.int .i64)++[.int .i64 (zDm x)]:=by
  rw[ZB,hx];simp
 obtain⟨y,hy⟩:∃y,IntKind.i32.wrap x=y:=⟨_,rfl⟩;have dy:IntKind.i64.wrap y=y:=by rw[←hy];exact zMQ x
 rw[show zDm x=y from hy]at af;have kI:(k:Int)<ml:=by omega
 have k0:(0:Int)≤(k:Int):=by omega
 have dt:ab<wq.heap.size:=by omega
 obtain⟨m1,m2,m3,m4,m5,m6⟩:=bx.o.three;have ai:=(az.o.alloc (.cells #[.int .i64 y] 3)).drew;have bw:Rw.At (wq.alloc (.cells #[.int .i64 y] 3)).drew wo.heap.size 68 [.int .i64 q,.int .i64 rk,u]:=bx.o.alloc _;have cy:=zOW wq (.int .i64 y) 3 wq.heap.size rfl;have a1:wo.heap.size+1≤(wq.alloc (.cells #[.int .i64 y] 3)).drew.heap.size:=by simp;omega
 have cf:Below wq.heap.size wq (wq.alloc (.cells #[.int .i64 y] 3)).drew:=((Zc _ _).alloc (Za _) _).drew;have b4:=hy' ai;have dc:=hy' af;have df:=hy' (zBm az.o wo.heap.size (ZP _));have bq:=hy' cf;clear cf hx cj af ai;go_upto_region 9 with (fail)
 go_region_law
  (first
    | (refine zCS _ rfl _ _ _ rfl (wo.heap.size+1) 3 i0 _ 8 underlying23 ez fj ej ei rfl u k _ rfl b4.o _ rfl wq.heap.size rfl cy (by simp only[maxLen];omega) (by omega) a1 ?_;intro v1 w4 aj dx ae;have ap:=bw.grown ae df.o;obtain⟨z1,z2,z3,z4,z5,z6⟩:=ap.three;obtain⟨A6,c6,rfl⟩:=zA2 aj)
    | fail)
 all_goals
  go_wp2_with fail
  exact⟨⟨k+1,_,by omega,by go_num,ap.set 2 _,by rw[dc.o];exact zA8 aj (ZP _) (Rw.grown_set _ 2 _),
   ((cn.o.trans (bq.o.mono (Z8 gh))).trans (dx.mono (ZX _))).setCell (p:=⟨wo.heap.size,2,none⟩) (Za _) _⟩,by simp[intOf];omega⟩
theorem Md.DocO.set {w:World} {v:Value} {lo:Nat} {T:List Rw.Row} {E:List Int} (h:Md.DocO w v lo T E) {b:Nat} {cs:List Value} (aa:Rw.At w b 25 cs) (hb:b<lo) (i:Nat) (u:Value):Md.DocO (w.setCell ⟨b,i,none⟩ u) v lo T E:=by
 obtain⟨A,c,XA,xc,ads,rfl,hl,ho,hm,mid,h1,h2,ha,hx⟩:=h;exact⟨A,c,XA,xc,ads,rfl,hl,zA8 ho hb (Rw.grown_set b i u),hm.grown (Rw.grown_set b i u) (by intro q hq;cases hq;exact aa.not (by decide)),mid,h1,by rw[ZQ];exact h2,ha,zA8 hx (by omega) (Rw.grown_set b i u)⟩
theorem Md.DocO.below {w w':World} {v:Value} {lo:Nat} {T:List Rw.Row} {E:List Int} (h:Md.DocO w v lo T E) (hb:Below w.heap.size w w'):Md.DocO w' v lo T E:=by
 obtain⟨A,c,XA,xc,ads,rfl,hl,ho,hm,mid,h1,h2,ha,hx⟩:=h;exact⟨A,c,XA,xc,ads,rfl,hl,zA4 ho hb (Za _),hm.below hb,mid,h1,Zi h2 hb.size,ha,zA4 hx hb (Za _)⟩
def Md.xs (E:List Int) (d:Int):Bool:=decide (d∈E)
def zLt (T:List Rw.Row) (E:List Int) (c:Int):Bool:=decide (0<(zA9 c).length)||(decide ((Md.mp T c).length=2)&&(decide (Md.cls T c=0)&&(decide (Md.cls T ((Md.mp T c).headD 0)=0)&&!Md.xs E c)))
theorem zPQ (T:List Rw.Row) (E:List Int) (c:Int):zLt T E c=zAr T (Md.xs E) c:=by
 unfold zLt zAr
 by_cases h:(zAh c).2.2=true
 · have hs:0<(zA9 c).length:=by
    unfold zAh at h;unfold zA9;split at h
    · rename_i h4;rw[Zo h4];simp
    split at h
    · rename_i h4 h5;rw[Zl h4,Zo h5];simp
    cases h
   rw[h,Zr hs,Xq,Xq]
 have hp:(zAh c).2.2=false:=by simpa using h
 have hs:(zA9 c).length=0:=by
  unfold zAh at h;unfold zA9;split at h
  · exact absurd rfl h
  split at h
  · exact absurd rfl h
  rename_i h4 h5;rw[Zl h4,Zl h5];rfl
 have hm:Md.mp T c=zAM T c:=by
  unfold Md.mp;rw[Zl h]
 rw[hp,Zu (by omega),Y5,Y5,hm];unfold zAM;cases hf:Md.find T c with
 | none=>simp
 | some r =>
   have he:=(zAp hf).2;have hc:Md.cls T c=r.2.1:=by unfold Md.cls;rw[hf];rfl
   simp only[ZA,Kb];unfold zAe;rw[hc,he];cases decide (r.2.1=0) <;> cases decide (r.2.2.length=2) <;> rfl
theorem zMR (v:Value) (T:List Rw.Row) (E:List Int) (d:Int) (w:World) (b4:T.length≤100000) (b3:E.length≤1000000) (h:Md.Doc w v T E) (ay:∀r∈T,r.2.2.length≤1000) (h3 : -2147483648≤d) (h4:d≤2147483647) :
 Calls prog 113 #[v,.int .i64 d] w fun e w'=>e=.returned (.bool (zAr T (Md.xs E) d))∧Below w.heap.size w w':=by
 rw[←zPQ];have a6:=zJ1 ay d;have aw:=hy' h;obtain⟨AT,cT,XA,xc,rfl,h2,hX⟩:=h;obtain⟨tn,a7⟩:∃k,T.length=k:=⟨_,rfl⟩;obtain⟨xn,hxn⟩:∃k,E.length=k:=⟨_,rfl⟩;have aa:zLt T E d=(decide (0<(zA9 d).length)||(decide ((Md.mp T d).length=2)&&(decide (Md.cls T d=0)&&(decide (Md.cls T ((Md.mp T d).headD 0)=0)&&!Md.xs E d)))):=rfl;obtain⟨o,ho⟩:∃o,zLt T E d=o:=⟨_,rfl⟩;rw[ho]at aa ⊢;have bm:Below w.heap.size w (w.alloc (.cells #[.slice AT tn cT,.slice XA xn xc] 25)):=(Zc _ _).alloc (Za _) _;have bq:Rw.At (w.alloc (.cells #[.slice AT tn cT,.slice XA xn xc] 25)) w.heap.size 25 [.slice AT tn cT,.slice XA xn xc]:=Rw.At.new w 25 [.slice AT tn cT,.slice XA xn xc];have HP:=hy' (Hg.parts_any d (w.alloc (.cells #[.slice AT tn cT,.slice XA xn xc] 25)) h3 h4)
 have ar:Hy (∀W,Below w.heap.size w W→Calls prog 17 #[.agg #[.slice AT tn cT,.slice XA xn xc],.int .i64 d] W (RetInts .i64 (Md.mp T d) W)):=hy' fun W hW=>by
  have:=zEj _ T E d W (by omega) (aw.o.below hW) h3 h4;rw[a7,hxn]at this;exact this
 have ba:Hy (∀x W,Below w.heap.size w W→Calls prog 43 #[.agg #[.slice AT tn cT,.slice XA xn xc],.int .i64 x] W fun e w'=>e=.returned (.int .i64 (Md.cls T x))∧Below W.heap.size W w'):=hy' fun x W hW=>by
  have:=zFY _ T E x W (by omega) (aw.o.below hW);rw[a7,hxn]at this;exact this
 have bf:Hy (∀W,Below w.heap.size w W→Calls prog 137 #[.slice XA xn xc,.int .i64 d] W fun e w'=>e=.returned (.bool (Md.xs E d))∧W=w'):=hy' fun W hW =>
  Md.in_any XA xn xc E d W hxn (by omega) (hX.below hW hW.size)
 have br:=hy' bm;have bk:=hy' bq;have az:=hy' aa;rw[a7,hxn];obtain⟨sp,bj⟩:∃s,zA9 d=s:=⟨_,rfl⟩;obtain⟨m,hm⟩:∃m,Md.mp T d=m:=⟨_,rfl⟩;rw[bj]at HP az;rw[hm]at ar az a6;clear bm bq aa ho a7 hxn h2 hX bj hm aw ay;unfold zBs;go_enter func113,ntmps113;go_wp2_with fail;refine HP.o.mono ?_;rintro e w1 ⟨A1,c1,rfl,_,av⟩;have aj:=bk.o.below av;have z0:=aj.cell 0 rfl;have z1:=aj.cell 1 rfl;have bb:=hy' aj;have a8:=hy' (br.o.trans (av.mono br.o.size));obtain⟨sl,bh⟩:∃k,sp.length=k:=⟨_,rfl⟩;rw[bh]at az ⊢;clear av aj HP bh bk
 by_cases hs0:0<sl
 · have ag:o=true:=by rw[az.o,Zr hs0,Xq]
   have ai:=hy' ag;have bt:(0:Int)<sl:=by omega
   clear ag;go_wp2_with fail;go_ret;exact⟨by rw[ai.o];rfl,a8.o⟩
 have aa:=az.o;rw[Zu hs0,Y5]at aa;have ah:=hy' aa;have bt:¬(0:Int)<sl:=by omega
 clear aa az;go_wp2_with fail;refine (ar.o w1 a8.o).mono ?_;rintro e w2 ⟨A2,c2,rfl,bn,au⟩;have af:=bb.o.below au;have y0:=af.cell 0 rfl;have y1:=af.cell 1 rfl;have bo:=af.lt;have ae:=hy' (a8.o.trans (au.mono a8.o.size));have bu:=hy' bn;have b1:=hy' af;obtain⟨ml,ay⟩:∃k,m.length=k:=⟨_,rfl⟩;rw[ay]at ah a6 ⊢;have b2:=hy' ay;clear bn au af z0 z1 ar ay;rcases hd2:((ml:Int) == 2) with _|_
 · have hne:¬ml=2:=fun e=>by rw[e]at hd2;simp at hd2
   have ag:o=false:=by rw[ah.o,Zu hne,Xx]
   have ai:=hy' ag;clear ag hne;go_wp2_with fail;go_quiet (fail);go_wp2_with fail;go_ret;exact⟨by rw[ai.o];rfl,below_drewN ae.o _⟩
 have bg:ml=2:=by have:=beq_iff_eq.1 hd2;omega
 obtain⟨x,y,rfl⟩:∃x y,m=[x,y]:=by
  have h2:m.length=2:=by rw[b2.o,bg]
  match m,h2 with
  | [x,y],_=>exact⟨x,y,rfl⟩
 obtain⟨ab,ao,hA,bw,bi⟩:=bu.o (by simp);have bp:w2.cell? ⟨ab,ao,none⟩=some (.int .i64 x):=by simpa using bi 0 (by simp)
 subst hA;have bz:0<ml:=by omega
 have bx:(0:Int)<ml:=by omega
 have aa:=ah.o;rw[Zr bg,YJ,List.headD_cons]at aa;have ak:=Ext.call fun W hW=>ba.o d W (ae.o.trans (hW.mono ae.o.size))
 have ax:=Ext.call fun W hW=>ba.o x W (ae.o.trans (hW.mono ae.o.size))
 have ap:=Ext.same fun W hW=>bf.o W (ae.o.trans (hW.mono ae.o.size))
 have e0:=Ext.cells y0 bo;have e1:=Ext.cells y1 bo;have e2:=Ext.cells bp bw;obtain⟨q1,bs⟩:∃q,Md.cls T d=q:=⟨_,rfl⟩;obtain⟨q2,bl⟩:∃q,Md.cls T x=q:=⟨_,rfl⟩;obtain⟨xi,bc⟩:∃b,Md.xs E d=b:=⟨_,rfl⟩;rw[bs]at ak aa;rw[bl]at ax aa;rw[bc]at ap aa;have C1:=hy' ak;have C2:=hy' ax;have C3:=hy' ap;have aq:=hy' aa;clear aa ah ba bi bs bl bc ak ax ap y0 y1 bp bf;rcases av:(q1 == 0) with _|_
 · have ag:o=false:=by rw[aq.o,show decide (q1=0)=false by simpa using av,Bool.false_and]
   have ai:=hy' ag;clear ag;go_wp2_with fail;refine zAa (by kernel_rfl) (by kernel_rfl) ?_
   repeat (go_big_quiet_step ((first|(go_at_call 43;first|with_reducible exact C1.o _|with_reducible exact C2.o _)|(go_at_call 137;with_reducible exact C3.o _))))
   refine wpQuiet_nil ?_;intro xw;have a1:=hy' (ae.o.trans (xw.below.mono ae.o.size));go_wp2_with fail;go_ret;exact⟨by rw[ai.o];rfl,a1.o⟩
 have h0:q1=0:=beq_iff_eq.1 av;subst h0;have aa:=aq.o;rw[show decide ((0:Int)=0)=true from rfl,YJ]at aa;clear aq av;rcases au:(q2 == 0) with _|_
 · have ag:o=false:=by rw[aa,show decide (q2=0)=false by simpa using au,Bool.false_and]
   have ai:=hy' ag;clear ag aa;go_wp2_with fail;refine zAa (by kernel_rfl) (by kernel_rfl) ?_
   repeat (go_big_quiet_step ((first|(go_at_call 43;first|with_reducible exact C1.o _|with_reducible exact C2.o _)|(go_at_call 137;with_reducible exact C3.o _))))
   refine wpQuiet_nil ?_;intro xw;have a1:=hy' (ae.o.trans (xw.below.mono ae.o.size));go_wp2_with fail;go_ret;exact⟨by rw[ai.o];rfl,a1.o⟩
 have h0:q2=0:=beq_iff_eq.1 au;subst h0;rw[show decide ((0:Int)=0)=true from rfl,YJ]at aa;have ai:=hy' aa;clear aa au;go_wp2_with fail;refine zAa (by kernel_rfl) (by kernel_rfl) ?_
 repeat (go_big_quiet_step ((first|(go_at_call 43;first|with_reducible exact C1.o _|with_reducible exact C2.o _)|(go_at_call 137;with_reducible exact C3.o _))))
 refine wpQuiet_nil ?_;intro xw;have a1:=hy' (ae.o.trans (xw.below.mono ae.o.size));go_wp2_with fail;go_ret;exact⟨by rw[ai.o];rfl,a1.o⟩
theorem zPR (w:World) (e:TypeId) (u:Value):(w.alloc (.cells #[u] e)).ownsRow w.heap.size e 1 (.slice (some ⟨w.heap.size,0,none⟩) 1 1) 1 [u] :=
 ⟨rfl,.inr ⟨w.heap.size,1,#[u],rfl,Za _,ZS w _,Za _,by decide,rfl,rfl⟩⟩
theorem zE4 {last:Int} {r:Rw.Row} (h:(!C.isC r.1||decide (r.1≤last)||decide (r.2.1<0)||decide (254<r.2.1)||decide (2<r.2.2.length))=true):zBT last r=1:=by
 unfold zBT;rw[Zo h]
theorem zLu {last:Int} {r:Rw.Row} {x:Int} {j:Nat} (h:(!C.isC r.1||decide (r.1≤last)||decide (r.2.1<0)||decide (254<r.2.1)||decide (2<r.2.2.length))=false) (hx:(r.1::r.2.2)[j]?=some x) (hk:zA3 x≠0):zBT last r=2:=by
 unfold zBT;rw[Zl (by rw[h];decide),Zo];rw[YK];exact⟨x,List.mem_of_getElem? hx,by simpa using hk⟩
theorem zLv {last:Int} {r:Rw.Row} {x:Int} {j:Nat} (h:(!C.isC r.1||decide (r.1≤last)||decide (r.2.1<0)||decide (254<r.2.1)||decide (2<r.2.2.length))=false) (h2:∀x∈r.1::r.2.2,zA3 x=0) (hx:r.2.2[j]?=some x) (hk:C.isC x=false):zBT last r=3:=by
 unfold zBT;rw[Zl (by rw[h];decide),Zl,Zo]
 · rw[YK];exact⟨x,Zn hx,by rw[hk];rfl⟩
 rw[YK];rintro⟨y,hy,aa⟩;rw[Zp]at aa;exact aa (h2 y hy)
theorem zOg {last:Int} {r:Rw.Row} (h:(!C.isC r.1||decide (r.1≤last)||decide (r.2.1<0)||decide (254<r.2.1)||decide (2<r.2.2.length))=false) (h2:∀x∈r.1::r.2.2,zA3 x=0) (h3:∀x∈r.2.2,C.isC x=true):zBT last r=0:=by
 unfold zBT;rw[Zl (by rw[h];decide),Zl,Zl]
 · rw[YK];rintro⟨y,hy,aa⟩;rw[h3 y hy]at aa;cases aa
 rw[YK];rintro⟨y,hy,aa⟩;rw[Zp]at aa;exact aa (h2 y hy)
theorem zQW (c:Int):0≤zA3 c:=by
 unfold zA3
 repeat' split
 all_goals decide
theorem zJu {l:List Int} {P:Int→Prop} {k:Nat} {x:Int} (hx:l[k]?=some x) (h:∀y∈l.take k,P y) (hp:P x):∀y∈l.take (k+1),P y:=by
 rw[ZB,hx];intro y hy;rcases List.mem_append.1 hy with hy|hy
 · exact h y hy
 simp at hy;subst hy;exact hp
theorem zLw (v:Value) (T:List Rw.Row) (E:List Int) (w:World) (e9:T.length≤100000) (ik:E.length≤1000000) (hbd:Md.bd T) (dz:∀r∈T,r.2.2.length≤1000) (fk:∀r∈T,-9223372036854775808≤r.2.1∧r.2.1≤9223372036854775807) (h:Md.Doc w v T E) (ch:∀A n c x,v=.agg #[.slice A n c,x]→n≤c) :
 Calls prog 93 #[v] w fun e w'=>e=.returned (.string (zBf (Md.chk T (Md.xs E))))∧Below w.heap.size w w':=by
 obtain⟨i0,iu,jg,jf,iq⟩:=Z7 zDE;have ix:=hy' h;obtain⟨A,c,XA,xc,rfl,h2,hX⟩:=id h;have ch:=ch _ _ _ _ rfl;obtain⟨xn,hxn⟩:∃k,E.length=k:=⟨_,rfl⟩;obtain⟨n,hn⟩:∃k,T.length=k:=⟨_,rfl⟩;obtain⟨res,ck⟩:∃k,Md.chk T (Md.xs E)=k:=⟨_,rfl⟩
 have dc:Hy (∀(d:Int) (W:World),Below w.heap.size w W → -2147483648≤d→d≤2147483647→Calls prog 26 #[.agg #[.slice A n c,.slice XA xn xc],.int .i64 d] W (zFm (Md.full T d) W)):=hy' fun d W hW a b=>by
  have:=zHB _ T E d W e9 (h.below hW) hbd dz a b;rw[hn,hxn]at this;exact this
 have b1:Hy (∀(d:Int) (W:World),Below w.heap.size w W → -2147483648≤d→d≤2147483647→Calls prog 113 #[.agg #[.slice A n c,.slice XA xn xc],.int .i64 d] W fun e w'=>e=.returned (.bool (zAr T (Md.xs E) d))∧Below W.heap.size W w'):=hy' fun d W hW a b=>by
  have:=zMR _ T E d W e9 ik (h.below hW) dz a b;rw[hn,hxn]at this;exact this
 rw[hn]at e9 ch;rw[hn,hxn,ck];obtain⟨wa,ea⟩:∃wa,w.alloc (.cells #[.slice A n c,.slice XA xn xc] 25)=wa:=⟨_,rfl⟩;have eo:Below w.heap.size w wa:=by rw[←ea];exact (Zc _ _).alloc (Za _) _
 have ej:Rw.At wa w.heap.size 25 [.slice A n c,.slice XA xn xc]:=by rw[←ea];exact Rw.At.new w 25 [.slice A n c,.slice XA xn xc]
 have ia:=hy' ea;have bn:=hy' eo;have ir:=hy' ej;have bs:=hy' (h2.below eo);have HN:=hy' hn;have cr:=hy' ck;have dy:=hy' hbd;have jl:=hy' dz;have jd:=hy' fk;have z0:=ej.cell 0 rfl;clear ea eo ej hn hxn ck hbd dz fk h h2 hX;unfold zBs at *;go_enter func93,ntmps93;go_upto_region 1 with (fail)
 rw[ia.o];go_wp2_with fail;go_loopw [3,21] (fun v3 i wr=>∃(k:Nat) (last:Int),k≤n∧i=.int .i64 k∧v3=.int .i64 last∧(-2147483648≤last∧last≤2147483647)∧zAx (-1) T=zAx last (T.drop k)∧Below wa.heap.size wa wr) (fun _ i _=>n-(intOf i).toNat)
 case atStart=>exact⟨0,-1,ZG _,rfl,rfl,by omega,rfl,Zc _ _⟩
 obtain⟨k,last,hk,rfl,rfl,ho,ar,bf⟩:=hrel;have aa:=ir.o.below bf;have z0:=aa.cell 0 rfl;have z1:=aa.cell 1 rfl;have fp:=hy' ar;have bt:=hy' bf;have ee:=hy' aa;clear ar aa
 by_cases hlt:k<n
 · obtain⟨r,hr⟩:∃r,T[k]?=some r:=⟨_,Zb (by rw[HN.o];exact hlt)⟩;have aj:=Zn hr;have ar:=dy.o r aj;have ef:=jd.o r aj;have ib:=jl.o r aj;obtain⟨b,o,a,di,hb,c0,c1,c2,cn⟩:=(bs.o.below bf).row hr;obtain⟨ml,cj⟩:∃k,r.2.2.length=k:=⟨_,rfl⟩;rw[cj]at c2 ib;have a6:Below wr.heap.size wr (wr.alloc (.cells #[.int .i64 r.1,.int .i64 r.2.1,.slice a.1 ml a.2] 68)):=(Zc _ _).alloc (Za _) _;have af:=Rw.At.new wr 68 [.int .i64 r.1,.int .i64 r.2.1,.slice a.1 ml a.2];obtain⟨x0,x1,x2,_,_,_⟩:=af.three;have iv:=hy' (cn.below a6 (Za _));have bp:=hy' (bf.trans (a6.mono bf.size));have hd:=zDu hr;have ct:=fp.o;rw[hd,zAx]at ct;have du:=hy' ct;have gl:=hy' ar;have bc:=hy' cj;have i7:(k:Int)<n:=by omega
   have jc:(0:Int)≤k:=by omega
   obtain⟨iw,h6⟩:=ar.1
   have cz:∀j,zBT last r=j→j≠0→res=j:=by
    intro j hj h0;rw[←cr.o];unfold Md.chk;rw[du.o,hj,Zl h0,Zo h0]
   have aw:=hy' cz;have cq:=Ch.ris_any r.1 (wr.alloc (.cells #[.int .i64 r.1,.int .i64 r.2.1,.slice a.1 ml a.2] 68));obtain⟨ic,fh⟩:∃b,C.isC r.1=b:=⟨_,rfl⟩;rw[fh]at cq;have cv:=hy' fh;subst di;clear hr aj ar cn a6 af hd ct bf cj cz fh
   have dt:∀(j:Nat) (W:World) (e:Ending) (w':World),res=j→e=.returned (.string (zBf j))→Below wa.heap.size wa W→W=w'→e=.returned (.string (zBf res))∧Below w.heap.size w w':=by
    rintro j W e w' rfl rfl hW rfl;exact⟨rfl,bn.o.trans (hW.mono bn.o.size)⟩
   have ag:=hy' dt;clear dt;cases ic
   · have ai:=aw.o 1 (zE4 (by rw[cv.o,JE,Xq,Xq,Xq,Xq])) (by decide);have ax:=hy' ai;clear ai;go_wp2_with (first|(go_at_call 70;refine cq.mono ?_;rintro e w' ⟨rfl,rfl⟩)|fail);go_ret;exact ag.o 1 _ _ _ ax.o rfl bp.o rfl
   rcases hb2:decide (r.1≤last) with _|_
   rotate_left
   · have ai:=aw.o 1 (zE4 (by rw[cv.o,hb2];simp)) (by decide);have ax:=hy' ai;clear ai;go_wp2_with (first|(go_at_call 70;refine cq.mono ?_;rintro e w' ⟨rfl,rfl⟩)|fail);go_ret;exact ag.o 1 _ _ _ ax.o rfl bp.o rfl
   rcases hb3:decide (r.2.1<0) with _|_
   rotate_left
   · have ai:=aw.o 1 (zE4 (by rw[cv.o,hb2,hb3];simp)) (by decide);have ax:=hy' ai;clear ai;go_wp2_with (first|(go_at_call 70;refine cq.mono ?_;rintro e w' ⟨rfl,rfl⟩)|fail);go_ret;exact ag.o 1 _ _ _ ax.o rfl bp.o rfl
   rcases b8:decide (254<r.2.1) with _|_
   rotate_left
   · have ai:=aw.o 1 (zE4 (by rw[cv.o,hb2,hb3,b8];simp)) (by decide);have ax:=hy' ai;clear ai;go_wp2_with (first|(go_at_call 70;refine cq.mono ?_;rintro e w' ⟨rfl,rfl⟩)|fail);go_ret;exact ag.o 1 _ _ _ ax.o rfl bp.o rfl
   rcases hb5:decide (2<(ml:Int)) with _|_
   rotate_left
   · have h5:decide (2<r.2.2.length)=true:=by rw[bc.o];simp at hb5 ⊢;omega
     have ai:=aw.o 1 (zE4 (by rw[cv.o,hb2,hb3,b8,h5];rfl)) (by decide);have ax:=hy' ai;clear ai h5;go_wp2_with (first|(go_at_call 70;refine cq.mono ?_;rintro e w' ⟨rfl,rfl⟩)|fail);go_ret;exact ag.o 1 _ _ _ ax.o rfl bp.o rfl
   have h5:decide (2<r.2.2.length)=false:=by rw[bc.o];simp at hb5 ⊢;omega
   have gh:(!C.isC r.1||decide (r.1≤last)||decide (r.2.1<0)||decide (254<r.2.1)||decide (2<r.2.2.length))=false:=by rw[cv.o,hb2,hb3,b8,h5];rfl
   have e5:=hy' gh;clear gh h5;obtain⟨wn,bo⟩:∃wn,(wr.alloc (.cells #[.int .i64 r.1,.int .i64 r.2.1,.slice a.1 ml a.2] 68)).alloc (.cells #[.int .i64 r.1] 3)=wn:=⟨_,rfl⟩
   have dv:wn.ownsRow (wr.heap.size+1) 3 1 (.slice (some ⟨wr.heap.size+1,0,none⟩) 1 1) 1 [.int .i64 r.1]:=by
    have:=zPR (wr.alloc (.cells #[.int .i64 r.1,.int .i64 r.2.1,.slice a.1 ml a.2] 68)) 3 (.int .i64 r.1);rw[ZL]at this;rw[←bo];exact this
   have ek:Below (wr.heap.size+1) (wr.alloc (.cells #[.int .i64 r.1,.int .i64 r.2.1,.slice a.1 ml a.2] 68)) wn:=by rw[←bo];exact (Zc _ _).alloc (by simp) _
   have ft:=iv.o.belowN ek (ZX _) (Za _);have af:Rw.At wn wr.heap.size 68 [.int .i64 r.1,.int .i64 r.2.1,.slice a.1 ml a.2]:=by rw[←bo];exact (Rw.At.new wr 68 [.int .i64 r.1,.int .i64 r.2.1,.slice a.1 ml a.2]).alloc _
   have e3:wr.heap.size+1≤wn.heap.size:=af.lt;have eu:=hy' dv;have fz:=hy' ft;have cm:=hy' af;have eh:=hy' bo;have eb:=hy' (bp.o.trans (ek.mono (Zi bt.o.size (ZX _))));have jh:Hy (∀u∈r.2.2.map (Value.int .i64),u.oneCell'=true):=hy' (zBN .i64 _);have ed:Hy ((r.2.2.map (Value.int .i64)).length=ml*1):=hy' (by rw[Ze,bc.o,Xm]);clear dv ek ft af bo;go_wp2_with (first|(go_at_call 70;refine cq.mono ?_;rintro e w' ⟨rfl,rfl⟩)|(at_builtin;(rw[eh.o]);refine zAc _ rfl _ _ _ rfl (wr.heap.size+1) 3 i0 _ 1 8 underlying23 iu jg jf iq rfl (by omega) _ 1 _ rfl eu.o _ a.1 ml a.2 (r.2.2.map (Value.int .i64)) rfl ed.o fz.o jh.o (by simp only[maxLen];omega) (by omega) e3 ?_;intro v1 w4 bi b8 iy;obtain⟨A4,c4,rfl⟩:=zA2 bi)|fail);have dn:=cm.o.below' b8 (ZP _);obtain⟨y0,y1,y2,_,_,_⟩:=dn.three;have gx:=hy' (Sl.of_own bi);have dm:=hy' (eb.o.trans (b8.mono (Zi bt.o.size (ZX _))));have jb:=hy' (fz.o.belowN b8 (ZX _) (Za _));obtain⟨L,hL⟩:∃L,r.1::r.2.2=L:=⟨_,rfl⟩;have HL:=hy' hL;have gy:[.int .i64 r.1]++r.2.2.map (Value.int .i64)=L.map (Value.int .i64):=by rw[←hL];rfl
   rw[gy]at gx;have fm:Hy (L.length=1+ml):=hy' (by rw[←hL,ZE,bc.o];omega)
   have i6:Hy (∀x∈L,-2147483648≤x∧x≤2147483647):=hy' (by
    rw[←hL];intro x hx;rcases List.mem_cons.1 hx with rfl|hx
    · exact gl.o.1
    exact gl.o.2 x hx)
   clear dn bi b8 iy hL gy x0 x1 x2 c0 c1 c2 z0 z1;go_loop [60] (fun i=>∃j:Nat,j≤1+ml∧i=.int .i64 j∧∀x∈L.take j,zA3 x=0) (fun i=>1+ml-(intOf i).toNat)
   case atStart=>exact⟨0,ZG _,rfl,by simp⟩
   obtain⟨j,hj,rfl,bl⟩:=hrel;have ay:=hy' bl;clear bl
   by_cases hlt2:j<1+ml
   · obtain⟨x,hx⟩:∃x,L[j]?=some x:=⟨_,Zb (by rw[fm.o];exact hlt2)⟩;obtain⟨g,go,rfl,hg,ie,_⟩:=gx.o.ints hx;have hxb:=i6.o x (Zn hx);have hK:=zN4 x w4 hxb.1 hxb.2;have ez:=zQW x;obtain⟨kx,cf⟩:∃q,zA3 x=q:=⟨_,rfl⟩;rw[cf]at hK ez;have ji:(j:Int)<((1+ml:Nat):Int):=by omega
     have hj0:(0:Int)≤j:=by omega
     have HX:=hy' hx;have dh:=hy' cf;have HK:=hy' hK;clear hx hxb cf hK;rcases hd:decide (0<kx) with _|_
     · have hz:kx=0:=by simp at hd;omega
       have HZ:=hy' hz;clear hz ez;go_wp2_with (first|(go_at_call 112;refine HK.o.mono ?_;rintro e w' ⟨rfl,rfl⟩)|fail);exact⟨⟨j+1,by omega,by go_num,zJu HX.o ay.o (by rw[dh.o,HZ.o])⟩,by simp[intOf];omega⟩
     have hz:kx≠0:=by simp at hd;omega
     have ai:=aw.o 2 (zLu e5.o (by rw[HL.o];exact HX.o) (by rw[dh.o];exact hz)) (by decide);have ax:=hy' ai;clear hz ez ai;go_wp2_with (first|(go_at_call 112;refine HK.o.mono ?_;rintro e w' ⟨rfl,rfl⟩)|fail);go_ret;exact ag.o 2 _ _ _ ax.o rfl dm.o rfl
   have b7:∀x∈r.1::r.2.2,zA3 x=0:=by
    rw[HL.o];intro x hx;exact ay.o x (by rw[Zm (by rw[fm.o];omega)];exact hx)
   have b9:=hy' b7;have hge:¬(j:Int)<((1+ml:Nat):Int):=by omega
   clear b7 ay hlt2;go_wp2_with fail;clear hge;go_loop [71] (fun i=>∃j:Nat,j≤ml∧i=.int .i64 j∧∀x∈r.2.2.take j,C.isC x=true) (fun i=>ml-(intOf i).toNat)
   case atStart=>exact⟨0,ZG _,rfl,by simp⟩
   obtain⟨j,hj,rfl,bl⟩:=hrel;have ay:=hy' bl;clear bl
   by_cases hlt2:j<ml
   · obtain⟨x,hx⟩:∃x,r.2.2[j]?=some x:=⟨_,Zb (by rw[bc.o];exact hlt2)⟩;obtain⟨g,go,gb,hg,ie,_⟩:=jb.o.ints hx;have hK:=Ch.ris_any x w4;obtain⟨kx,cf⟩:∃q,C.isC x=q:=⟨_,rfl⟩;rw[cf]at hK;have ji:(j:Int)<(ml:Int):=by omega
     have hj0:(0:Int)≤j:=by omega
     have HX:=hy' hx;have dh:=hy' cf;have HK:=hy' hK;obtain⟨a1,a2⟩:=a;simp only at gb;subst gb;clear hx cf hK;cases kx
     · have ai:=aw.o 3 (zLv e5.o b9.o HX.o dh.o) (by decide);have ax:=hy' ai;clear ai;go_wp2_with (first|(go_at_call 70;refine HK.o.mono ?_;rintro e w' ⟨rfl,rfl⟩)|fail);go_ret;exact ag.o 3 _ _ _ ax.o rfl dm.o rfl
     go_wp2_with (first|(go_at_call 70;refine HK.o.mono ?_;rintro e w' ⟨rfl,rfl⟩)|fail);exact⟨⟨j+1,by omega,by go_num,zJu HX.o ay.o dh.o⟩,by simp[intOf];omega⟩
   have gf:zBT last r=0:=zOg e5.o b9.o (fun x hx=>ay.o x (by rw[Zm (by rw[bc.o];omega)];exact hx));have bx:zAx (-1) T=zAx r.1 (T.drop (k+1)):=by rw[du.o,gf];rfl
   have dl:=hy' bx;have hge:¬(j:Int)<(ml:Int):=by omega
   clear gf bx hlt2 ay;go_wp2_with fail;exact⟨⟨k+1,r.1,by omega,by go_num,rfl,⟨iw,h6⟩,dl.o,dm.o⟩,by simp[intOf];omega⟩
 obtain rfl:n=k:=by omega
 have hz:zAx (-1) T=0:=by
  rw[fp.o,Xl (by rw[HN.o];exact Za _)];rfl
 obtain⟨bz,cd⟩:=zCd T (-1) hz;have HZ:=hy' hz;have b2:=hy' bz;have cb:=hy' cd
 have ag:Hy (∀(j:Nat) (W:World) (e:Ending) (w':World),res=j→e=.returned (.string (zBf j))→Below wa.heap.size wa W→W=w'→e=.returned (.string (zBf res))∧Below w.heap.size w w'):=hy' (by
  rintro j W e w' rfl rfl hW rfl;exact⟨rfl,bn.o.trans (hW.mono bn.o.size)⟩)
 obtain⟨wb,rfl⟩:∃wb:World,wb=wr:=⟨_,rfl⟩;clear hz bz cd hlt;go_wp2_with fail;go_loopw [83] (fun i wr=>∃k:Nat,k≤n∧i=.int .i64 k∧(∀r∈T.take k,(Md.full T r.1).isSome=true)∧Below wb.heap.size wb wr) (fun i _=>n-(intOf i).toNat)
 case atStart=>exact⟨0,ZG _,rfl,fun r hr=>by simp at hr,Zc _ _⟩
 obtain⟨k,hk,rfl,bk,a7⟩:=hrel;have aa:=ee.o.below a7;have y0:=aa.cell 0 rfl;have y1:=aa.cell 1 rfl;have cg:=hy' bk;have cc:=bt.o.trans (a7.mono bt.o.size);have a8:=hy' cc;have dp:=hy' aa;have b4:=hy' a7;have ja:=aa.lt;clear bk aa a7 z0 z1
 by_cases hlt:k<n
 · obtain⟨r,hr⟩:∃r,T[k]?=some r:=⟨_,Zb (by rw[HN.o];exact hlt)⟩;have aj:=Zn hr;have ar:=dy.o r aj;obtain⟨b,o,a,di,hb,c0,c1,c2,cn⟩:=(bs.o.below cc).row hr;have a6:Below wr.heap.size wr (wr.alloc (.cells #[.int .i64 r.1,.int .i64 r.2.1,.slice a.1 r.2.2.length a.2] 68)):=(Zc _ _).alloc (Za _) _;have fg:=a8.o.trans (a6.mono a8.o.size);have hE:=dc.o r.1 _ (bn.o.trans (fg.mono bn.o.size)) ar.1.1 ar.1.2;have c6:=hy' fg;have eb:=hy' (b4.o.trans (a6.mono b4.o.size));have af:=Rw.At.new wr 68 [.int .i64 r.1,.int .i64 r.2.1,.slice a.1 r.2.2.length a.2];obtain⟨x0,x1,x2,_,_,_⟩:=af.three;have i7:(k:Int)<n:=by omega
   have jc:(0:Int)≤k:=by omega
   obtain⟨fo,ep⟩:∃fo,Md.full T r.1=fo:=⟨_,rfl⟩;rw[ep]at hE;have fy:=hy' ep;have HR:=hy' hr;have dx:=hy' aj;subst di;clear hr aj ar cn a6 fg af ep;go_wp2_with fail;refine hE.mono ?_;rintro e w2 ⟨A1,js,rfl,_,hg⟩;have dm:=hy' (eb.o.trans (hg.mono eb.o.size));have je:=hy' (c6.out.trans (hg.mono c6.out.size));clear hg hE x0 x1 x2 y0 y1 c0 c1 c2;rcases fo with _|fl
   · have h3:res=4:=by
      rw[←cr.o];unfold Md.chk
      have:zBj T=true:=by
       unfold zBj;rw[YK];exact⟨r,dx.o,by rw[fy.o];rfl⟩
      rw[Zl (by rw[HZ.o];simp),Zo this]
     have i1:=hy' h3;clear h3;go_wp2_with fail;go_ret;exact ag.o 4 _ _ _ i1.o rfl je.o rfl
   have bk:∀r∈T.take (k+1),(Md.full T r.1).isSome=true:=by
    rw[ZB,HR.o];intro q hq;rcases List.mem_append.1 hq with hq|hq
    · exact cg.o q hq
    simp at hq;subst hq;rw[fy.o];rfl
   have dr:=hy' bk;clear bk;go_wp2_with fail;exact⟨⟨k+1,by omega,by go_num,dr.o,dm.o⟩,by simp[intOf];omega⟩
 obtain rfl:n=k:=by omega
 have gu:zBj T=false:=by
  unfold zBj;rw[Qe];intro r hr;have:=cg.o r (by rw[Zm (by rw[HN.o];exact Za _)];exact hr);cases hf:Md.full T r.1 with
  | none=>rw[hf]at this;cases this
  | some l=>simp
 have h4:res=if zB4 T (Md.xs E) [] T=true then 5 else 0:=by
  rw[←cr.o];unfold Md.chk;rw[Zl (by rw[HZ.o];simp),Zl (by rw[gu];simp),←zDq];rfl
 have gq:=hy' h4;obtain⟨wz,rfl⟩:∃wz:World,wz=wr:=⟨_,rfl⟩;clear gu h4 hlt cg;go_wp2_with fail;go_loopw [100] (fun i wr=>∃k:Nat,k≤n∧i=.int .i64 k∧zB4 T (Md.xs E) [] T=zB4 T (Md.xs E) (T.take k) (T.drop k)∧Below wz.heap.size wz wr) (fun i _=>n-(intOf i).toNat)
 case atStart=>exact⟨0,ZG _,rfl,rfl,Zc _ _⟩
 obtain⟨k,hk,rfl,bw,ba⟩:=hrel;have aa:=dp.o.below ba;have y0:=aa.cell 0 rfl;have y1:=aa.cell 1 rfl;have gp:=hy' bw;have ap:=a8.o.trans (ba.mono a8.o.size);have b6:=hy' ba;have dw:=hy' ap;have ih:=aa.lt;have cy:=hy' aa;clear bw aa ba
 by_cases hlt:k<n
 rotate_left
 · obtain rfl:n=k:=by omega
   have gg:res=0:=by
    rw[gq.o,gp.o,Xl (by rw[HN.o];exact Za _)];rfl
   have h9:=hy' gg;clear gg hlt;go_wp2_with fail;go_ret;exact ag.o 0 _ _ _ h9.o rfl dw.o rfl
 obtain⟨r,hr⟩:∃r,T[k]?=some r:=⟨_,Zb (by rw[HN.o];exact hlt)⟩;have aj:=Zn hr;have ar:=dy.o r aj;obtain⟨b,o,a,di,hb,c0,c1,c2,cn⟩:=(bs.o.below ap).row hr;obtain⟨wn,bo⟩:∃wn,wr.alloc (.cells #[.int .i64 r.1,.int .i64 r.2.1,.slice a.1 r.2.2.length a.2] 68)=wn:=⟨_,rfl⟩;have a6:Below wr.heap.size wr wn:=by rw[←bo];exact (Zc _ _).alloc (Za _) _
 have af:Rw.At wn wr.heap.size 68 [.int .i64 r.1,.int .i64 r.2.1,.slice a.1 r.2.2.length a.2]:=by rw[←bo];exact Rw.At.new wr 68 [.int .i64 r.1,.int .i64 r.2.1,.slice a.1 r.2.2.length a.2]
 have ig:=af.lt;have eh:=hy' bo;have bp:=hy' a6;have cm:=hy' af;have au:=hy' (ap.trans (a6.mono ap.size));have b5:=hy' (cy.o.below a6);have fc:=hy' (cn.below a6 a6.size);have bw:=gp.o;rw[zDu hr,zB4]at bw;have c8:=hy' bw;have gw:T.take (k+1)=T.take k++[r]:=by rw[ZB,hr];rfl
 have h7:=hy' gw;have ef:=zD5 (X:=Md.xs E) cb.o aj (b2.o r aj).1
 have im:Hy (∀W,Below wn.heap.size wn W→Calls prog 113 #[.agg #[.slice A n c,.slice XA xn xc],.int .i64 r.1] W fun e w'=>e=.returned (.bool (zAe T (Md.xs E) r))∧Below W.heap.size W w'):=hy' fun W hW=>by
  rw[←ef];exact b1.o r.1 W (bn.o.trans ((au.o.trans (hW.mono au.o.size)).mono bn.o.size)) ar.1.1 ar.1.2
 have x0:=af.cell 0 rfl;have ij:=b5.o.cell 0 rfl;have kI:(k:Int)<n:=by omega
 have k0:(0:Int)≤k:=by omega
 have kc:(k:Int)≤c:=by omega
 have j0:k≤c:=by omega
 subst di;clear hr aj ar cn bo a6 af bw gw ef ap;go_wp2_with fail;go_upto_region 31 with (fail)
 rw[eh.o];go_wp2_with fail;clear c0 c1 c2 x0 y0 y1 ij;go_loopw [110] (fun i wq=>∃m:Nat,m≤k∧i=.int .i64 m∧Md.ahead T (Md.xs E) (T.take m) r=false∧Below wn.heap.size wn wq) (fun i _=>k-(intOf i).toNat)
 case atStart=>exact⟨0,ZG _,rfl,rfl,Zc _ _⟩
 obtain⟨m,hm,rfl,fw,ae⟩:=hrel;have ak:=b5.o.below ae;have az:=cm.o.below' ae ig;have bh:=fc.o.below ae ae.size;have bj:=au.o.trans (ae.mono au.o.size);have fu:=hy' fw;have y0:=ak.cell 0 rfl;have gi:=ak.lt;have fq:=az.lt;clear fw
 by_cases hlt2:m<k
 rotate_left
 · obtain rfl:k=m:=by omega
   have bw:zB4 T (Md.xs E) [] T=zB4 T (Md.xs E) (T.take (k+1)) (T.drop (k+1)):=by rw[c8.o,h7.o,fu.o,Y5]
   have en:=hy' bw;have bm:=hy' (b6.o.trans ((bp.o.trans (ae.mono bp.o.size)).mono b6.o.size));clear bw ae bj ak az bh y0;go_wp2_with fail;exact⟨⟨k+1,by omega,by go_num,en.o,bm.o⟩,by simp[intOf];omega⟩
 obtain⟨q,hq⟩:∃q,T[m]?=some q:=⟨_,Zb (by rw[HN.o];omega)⟩;have gv:(T.take k)[m]?=some q:=by rw[Ym,Zo hlt2];exact hq
 have br:=Zn hq;have cw:=dy.o q br;obtain⟨bq,oq,aq,gj,j1,c0,c1,c2,df⟩:=(bs.o.below bj).row hq;simp only[Zh,YT,Xd]at gj;obtain⟨rfl,rfl⟩:=gj;obtain⟨wp,ec⟩:∃wp,wr.alloc (.cells #[.int .i64 q.1,.int .i64 q.2.1,.slice aq.1 q.2.2.length aq.2] 68)=wp:=⟨_,rfl⟩;have b3:Below wr.heap.size wr wp:=by rw[←ec];exact (Zc _ _).alloc (Za _) _
 have bg:Rw.At wp wr.heap.size 68 [.int .i64 q.1,.int .i64 q.2.1,.slice aq.1 q.2.2.length aq.2]:=by rw[←ec];exact Rw.At.new wr 68 [.int .i64 q.1,.int .i64 q.2.1,.slice aq.1 q.2.2.length aq.2]
 have h8:=hy' ec;have bb:=hy' (ae.trans (b3.mono ae.size));have ao:=ak.below b3;have av:=az.below b3;have iz:=hy' (bh.below b3 b3.size);have il:=hy' (df.below b3 b3.size);have hl:=zD5 (X:=Md.xs E) cb.o br (b2.o q br).1;have C1:=hy' (Ext.call (w:=wp) fun W hW=>im.o W (bb.o.trans (hW.mono bb.o.size)))
 have gm:∀W,Below wp.heap.size wp W→Calls prog 113 #[.agg #[.slice (some ⟨b,o,none⟩) n c,.slice XA xn xc],.int .i64 q.1] W fun e w'=>e=.returned (.bool (zAe T (Md.xs E) q))∧Below W.heap.size W w':=fun W hW=>by
  rw[←hl];have h1:=bb.o.trans (hW.mono bb.o.size);exact b1.o q.1 W (bn.o.trans ((au.o.trans (h1.mono au.o.size)).mono bn.o.size)) cw.1.1 cw.1.2
 have C2:=hy' (Ext.call (w:=wp) gm);have e0:=Ext.cells (ao.cell 0 rfl) ao.lt;have e1:=Ext.cells (ao.cell 1 rfl) ao.lt;have r0:=Ext.cells (av.cell 0 rfl) av.lt;have r2:=Ext.cells (av.cell 2 rfl) av.lt;have q0:=Ext.cells (bg.cell 0 rfl) bg.lt;have q2:=Ext.cells (bg.cell 2 rfl) bg.lt
 have cu:(zAe T (Md.xs E) r&&(zAe T (Md.xs E) q&&decide (q.2.2=r.2.2)))=false→Md.ahead T (Md.xs E) (T.take (m+1)) r=false:=by
  intro h0;have h1:=fu.o;unfold Md.ahead at h1 ⊢;rw[ZB,hq,Jo,h1,Y5];simp only[Qb,Kv,List.any_nil,Bool.or_false];exact h0
 have cp:(zAe T (Md.xs E) r&&(zAe T (Md.xs E) q&&decide (q.2.2=r.2.2)))=true→res=5:=by
  intro h0;rw[gq.o,Zo];rw[c8.o]
  have:Md.ahead T (Md.xs E) (T.take k) r=true:=by
   unfold Md.ahead;rw[YK];exact⟨q,Zn gv,h0⟩
  rw[this,Xq]
 have et:∀r:Rw.Row,zAe T (Md.xs E) r=true→∃x y,r.2.2=[x,y]:=by
  intro r hc;unfold zAe at hc;simp only[Zy,Zp]at hc;have h2:=hc.2.1
  match hh:r.2.2,h2 with
  | [x,y],_=>exact⟨x,y,rfl⟩
 have cx:=hy' (et r);have c7:=hy' (et q);obtain⟨pr,e6⟩:∃p,zAe T (Md.xs E) r=p:=⟨_,rfl⟩;obtain⟨pq,fe⟩:∃p,zAe T (Md.xs E) q=p:=⟨_,rfl⟩;rw[e6,fe]at cu cp;rw[e6]at C1 cx;rw[fe]at C2 c7;have bu:=hy' cu;have e7:=hy' cp;have mI:(m:Int)<k:=by omega
 have m0:(0:Int)≤m:=by omega
 clear hq gv br cw df ec b3 bg ak az bh ao av hl gm cu cp et e6 fe ae bj;go_upto_region 34 with (fail)
 rw[h8.o];clear c0 c1 c2 y0;cases pr
 · have ah:=hy' (bu.o (Xx _));refine zAa (by kernel_rfl) (by kernel_rfl) ?_
   repeat (go_big_quiet_step ((first|(go_at_call 113;first|with_reducible exact C1.o _|with_reducible exact C2.o _))))
   refine wpQuiet_nil ?_;intro xw;have bm:=hy' (bb.o.trans (xw.below.mono bb.o.size));go_wp2_with fail;exact⟨⟨m+1,by omega,by go_num,ah.o,bm.o⟩,by simp[intOf];omega⟩
 cases pq
 · have ah:=hy' (bu.o rfl);refine zAa (by kernel_rfl) (by kernel_rfl) ?_
   repeat (go_big_quiet_step ((first|(go_at_call 113;first|with_reducible exact C1.o _|with_reducible exact C2.o _))))
   refine wpQuiet_nil ?_;intro xw;have bm:=hy' (bb.o.trans (xw.below.mono bb.o.size));go_wp2_with fail;exact⟨⟨m+1,by omega,by go_num,ah.o,bm.o⟩,by simp[intOf];omega⟩
 obtain⟨x,y,aj⟩:=cx.o rfl;obtain⟨x',y',br⟩:=c7.o rfl;obtain⟨rl,e2⟩:∃k,r.2.2.length=k:=⟨_,rfl⟩;obtain⟨ql,eg⟩:∃k,q.2.2.length=k:=⟨_,rfl⟩;have fj:rl=2:=by rw[←e2,aj];rfl
 have dk:ql=2:=by rw[←eg,br];rfl
 rw[e2]at r2;rw[eg]at q2;have ei:=iz.o;have e4:=il.o;rw[aj]at ei;rw[br]at e4;obtain⟨rb,ro,fx,ar,e8⟩:=ei (by simp);obtain⟨qb,qo,gz,cw,ew⟩:=e4 (by simp);rw[fx]at r2;rw[gz]at q2;have jx:=Ext.cells (w:=wp) (b:=rb) (o:=ro) (v:=.int .i64 x) (by simpa using e8 0 (by simp)) ar;have j2:=Ext.cells (w:=wp) (b:=rb) (o:=ro+1) (v:=.int .i64 y) (by simpa using e8 1 (by simp)) ar;have jt:=Ext.cells (w:=wp) (b:=qb) (o:=qo) (v:=.int .i64 x') (by simpa using ew 0 (by simp)) cw;have jm:=Ext.cells (w:=wp) (b:=qb) (o:=qo+1) (v:=.int .i64 y') (by simpa using ew 1 (by simp)) cw;have jv:((ql:Int) == 2)=true:=by rw[dk];rfl
 have jz:0<rl:=by omega
 have ju:(0:Int)<rl:=by omega
 have jw:1<rl:=by omega
 have jq:(1:Int)<rl:=by omega
 have jo:0<ql:=by omega
 have jr:(0:Int)<ql:=by omega
 have jn:1<ql:=by omega
 have jy:(1:Int)<ql:=by omega
 have ey:=hy' br;have dx:=hy' aj;clear e2 eg fj dk ei e4 e8 ew fx gz aj br;rcases he1:(x' == x) with _|_
 · have ah:=hy' (bu.o (by rw[ey.o,dx.o];simp at he1 ⊢;intro e;exact absurd e he1));refine zAa (by kernel_rfl) (by kernel_rfl) ?_
   repeat (go_big_quiet_step ((first|(go_at_call 113;first|with_reducible exact C1.o _|with_reducible exact C2.o _))))
   refine wpQuiet_nil ?_;intro xw;have bm:=hy' (bb.o.trans (xw.below.mono bb.o.size));go_wp2_with fail;exact⟨⟨m+1,by omega,by go_num,ah.o,bm.o⟩,by simp[intOf];omega⟩
 rcases he2:(y' == y) with _|_
 · have ah:=hy' (bu.o (by rw[ey.o,dx.o];simp at he2 ⊢;intro _ e;exact absurd e he2));refine zAa (by kernel_rfl) (by kernel_rfl) ?_
   repeat (go_big_quiet_step ((first|(go_at_call 113;first|with_reducible exact C1.o _|with_reducible exact C2.o _))))
   refine wpQuiet_nil ?_;intro xw;have bm:=hy' (bb.o.trans (xw.below.mono bb.o.size));go_wp2_with fail;exact⟨⟨m+1,by omega,by go_num,ah.o,bm.o⟩,by simp[intOf];omega⟩
 have ax:=hy' (e7.o (by rw[ey.o,dx.o];simp at he1 he2 ⊢;exact⟨he1,he2⟩));refine zAa (by kernel_rfl) (by kernel_rfl) ?_
 repeat (go_big_quiet_step ((first|(go_at_call 113;first|with_reducible exact C1.o _|with_reducible exact C2.o _))))
 refine wpQuiet_nil ?_;intro xw;have bm:=hy' (bb.o.trans (xw.below.mono bb.o.size));go_wp2_with fail;go_ret;exact ag.o 5 _ _ _ ax.o rfl (au.o.trans (bm.o.mono au.o.size)) rfl
end Go.Proofs.YtddbccflcekdpaaGreatDoor
