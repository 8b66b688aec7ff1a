/- The laws' Few of a document's table, by walking its text. -/
import Derived.Test.YtjakbblocbicjaaGreatDoorRwOpen
set_option maxRecDepth 100000
set_option maxHeartbeats 4000000
set_option linter.unusedVariables false
set_option linter.unusedSimpArgs false
namespace Go.Proofs.YtjakbblocbicjaaGreatDoor
open Go.Proofs.Tryz
open Go.RowKit
def zDa (x:Int):Int:=IntKind.i32.wrap x
theorem zQV (x:Int) : -2147483648≤zDa x∧zDa x≤2147483647:=by
 unfold zDa;rw[XR];omega
theorem zMH (x:Int):IntKind.i64.wrap (zDa x)=zDa x:=by
 have:=zQV x;rw[Z4];omega
def zLl (r:Rw.Row):Rw.Row:=(zDa r.1,r.2.1,(r.2.2.take 4).map zDa)
def zEY (T:List Rw.Row):List Rw.Row:=(T.take 20).map zLl
def zEZ (E:List Int):List Int:=(E.take 30).map Ch.K
theorem zO7 {T:List Rw.Row} {j:Nat} {r:Rw.Row} (h:T[j]?=some r) (hj:j<20):(zEY T)[j]?=some (zLl r):=by
 unfold zEY;rw[Zo,Yp,Zm hj,h];rfl
theorem zO8 {E:List Int} {j:Nat} {x:Int} (h:E[j]?=some x) (hj:j<30):(zEZ E)[j]?=some (Ch.K x):=by
 unfold zEZ;rw[Zo,Yp,Zm hj,h];rfl
theorem Md.grown_below {w w' w'':World} {row:Option Nat} (h:w.grownBy w' row) (hb:Below w.heap.size w' w''):w.grownBy w'' row :=
 ⟨hb.os.trans h.os,hb.tape.trans h.tape,hb.output.trans h.output,Zh h.size hb.size,fun k hk hr=>(hb.block k hk).trans (h.block k hk hr)⟩
def Md.apart (lo hi:Nat) (ads:List (Option Addr × Nat)):Prop :=
 (ads.Pairwise fun a b=>∀p q,a.1=some p→b.1=some q→p.block<q.block)∧∀a∈ads,∀p,a.1=some p→lo≤p.block∧p.block<hi
theorem Md.apart.nil (lo hi:Nat):Md.apart lo hi []:=⟨List.Pairwise.nil,fun a h=>by simp at h⟩
theorem Md.apart.app {lo hi hi':Nat} {ads:List (Option Addr × Nat)} (h:Md.apart lo hi ads) (hh:hi≤hi') (hl:lo≤hi) {a:Option Addr × Nat} (ha:∀p,a.1=some p→hi≤p.block∧p.block<hi'):Md.apart lo hi' (ads++[a]):=by
 refine⟨List.pairwise_append.2 ⟨h.1,by simp,fun x hx y hy p q hp hq=>?_⟩,fun x hx p hp=>?_⟩
 · simp only[Zt]at hy;subst hy;have h1:=(h.2 x hx p hp).2;have h2:=(ha q hq).1;omega
 rcases List.mem_append.1 hx with hx|hx
 · have:=h.2 x hx p hp;omega
 simp only[Zt]at hx;subst hx;have:=ha p hp;omega
def Md.caps (rs:List Rw.Row) (ads:List (Option Addr × Nat)):Prop:=∀(i:Nat) (r:Rw.Row) (a:Option Addr × Nat),rs[i]?=some r→ads[i]?=some a→r.2.2.length≤a.2
theorem Md.caps.app {rs:List Rw.Row} {ads:List (Option Addr × Nat)} (h:Md.caps rs ads) (hl:ads.length=rs.length) {r:Rw.Row} {a:Option Addr × Nat} (hr:r.2.2.length≤a.2):Md.caps (rs++[r]) (ads++[a]):=by
 intro i q x hq hx;rcases Z0 i rs.length with hi|hi
 · rw[ZS hi]at hq;rw[ZS (by omega)]at hx;exact h i q x hq hx
 have aa:=(List.getElem?_eq_some_iff.1 hq).1;rw[Zd,YA]at aa;obtain rfl:i=rs.length:=by omega
 rw[ZH (Za _),Ym]at hq;rw[ZH (by omega),show rs.length-ads.length=0 by omega]at hx;simp at hq hx;subst hq hx;exact hr
theorem zFs {w:World} {base:Nat} {e:TypeId} {size n m c:Nat} {A:Option Addr} {xs:List Value} (h:w.ownsRow base e size (.slice A m c) n xs):n≤c:=by
 rcases h.2 with ⟨hv,h0⟩|⟨g,cap,aa,hv,_,_,hc,_⟩
 · omega
 simp only[ZZ]at hv;obtain⟨_,_,rfl⟩:=hv;exact hc
def Md.DocO (w:World) (v:Value) (lo:Nat) (T:List Rw.Row) (E:List Int):Prop :=
 ∃A c XA xc ads,v=zAX A T.length c XA E.length xc∧(ads.length=T.length∧Md.caps T ads)∧w.ownsRow lo 39 3 (.slice A T.length c) T.length (zBm T ads)∧Rw.MapsI w T ads ∧
  ∃mid,lo≤mid∧mid≤w.heap.size∧Md.apart lo mid ads∧w.ownsRow mid 3 1 (.slice XA E.length xc) E.length (E.map (Value.int .i64))
theorem zPL (A XA:Option Addr) (n c xn xc:Nat) (T:List Rw.Row) (E:List Int) (w:World) (hn:T.length=n) (hxn:E.length=xn) (hnb:n≤maxLen) (hxb:xn≤maxLen) (ek:∀r∈T,r.2.2.length≤maxLen) (h2:Rw.SeesI w A T) (hX:Sl w w.heap.size XA (E.map (Value.int .i64))) :
 Calls prog 107 #[.agg #[.slice A n c,.slice XA xn xc]] w fun e w'=>∃v,e=.returned v∧Md.DocO w' v w.heap.size (zEY T) (zEZ E)∧Below w.heap.size w w':=by
 obtain⟨j0,hj0,gl,h3,gq⟩:=Z2 zOB;obtain⟨i0,fm,fe,eh,ei⟩:=Z2 zDT;obtain⟨wa,b2⟩:∃wa,((w.alloc (.cells #[.slice A n c,.slice XA xn xc] 25)).alloc (.cells #[.slice none 0 0,.slice none 0 0] 25)).alloc (.cells #[.slice none 0 0,.slice none 0 0] 25)=wa:=⟨_,rfl⟩;have ef:Below w.heap.size w wa:=by rw[←b2];exact (((Zc _ _).alloc (Za _) _).alloc (by simp) _).alloc (by simp;omega) _
 have cf:Rw.At wa w.heap.size 25 [.slice A n c,.slice XA xn xc]:=by
  rw[←b2];exact ((Rw.At.new w 25 [.slice A n c,.slice XA xn xc]).alloc _).alloc _
 have ag:Rw.At wa (w.heap.size+1) 25 [.slice none 0 0,.slice none 0 0]:=by
  have h:=Rw.At.new (w.alloc (.cells #[.slice A n c,.slice XA xn xc] 25)) 25 [.slice none 0 0,.slice none 0 0];rw[ZJ]at h;rw[←b2];exact h.alloc _
 have ar:Rw.At wa (w.heap.size+2) 25 [.slice none 0 0,.slice none 0 0]:=by
  have h:=Rw.At.new ((w.alloc (.cells #[.slice A n c,.slice XA xn xc] 25)).alloc (.cells #[.slice none 0 0,.slice none 0 0] 25)) 25 [.slice none 0 0,.slice none 0 0];rw[ZJ,ZJ]at h;rw[←b2];exact h
 have hz:w.heap.size+2<wa.heap.size:=ar.lt;obtain⟨M,hM⟩:∃M,zEY T=M:=⟨_,rfl⟩;obtain⟨F,hF⟩:∃F,zEZ E=F:=⟨_,rfl⟩;have eo:M.length=min n 20:=by rw[←hM];unfold zEY;rw[List.length_map,List.length_take,hn];omega
 have fu:F.length=min xn 30:=by rw[←hF];unfold zEZ;rw[List.length_map,List.length_take,hxn];omega
 rw[hM,hF];have HM:=hy' hM;have HF:=hy' hF;have fy:=hy' eo;have gv:=hy' fu;have gy:=hy' b2;have hl:=hy' ef;have HN:=hy' hn;have di:=hy' hxn;have dr:=hy' ek;have dw:=hy' h2;have HX:=hy' hX;have ee:=hy' cf;clear b2 ef hn hxn ek h2 hX cf hM hF eo fu;go_enter func107,ntmps107;go_upto_region 2 with (fail)
 rw[gy.o];go_wp2_with fail
 go_loopw [4] (fun i wr=>∃(j:Nat) (v:Value) (ads:List (Option Addr × Nat)),j≤min n 20∧i=.int .i64 j∧Rw.At wr (w.heap.size+1) 25 [.slice none 0 0,.slice none 0 0]∧Rw.At wr (w.heap.size+2) 25 [v,.slice none 0 0] ∧
  (ads.length=(M.take j).length∧Md.caps (M.take j) ads)∧wr.ownsRow (w.heap.size+3) 39 3 v j (zBm (M.take j) ads)∧Rw.MapsI wr (M.take j) ads∧Md.apart (w.heap.size+3) wr.heap.size ads∧Below (w.heap.size+1) wa wr) (fun i _=>min n 20-(intOf i).toNat)
 case atStart=>exact⟨0,.slice none 0 0,[],ZF _,rfl,ag,ar,⟨rfl,fun i r a h=>by simp at h⟩,ZE _ _ _ _,fun i r a h=>by simp at h,Md.apart.nil _ _,Zc _ _⟩
 obtain⟨j,v,ads,hj,rfl,e7,ft,⟨b5,bm⟩,ah,bk,e0,ay⟩:=hrel;have fp:w.heap.size+3≤wr.heap.size:=Zh hz ay.size;have ha0:=ee.o.below' ay (ZO _);have et:=hy' e7;have cw:=hy' ft;have ba:=hy' b5;have bh:=hy' bm;have bf:=hy' ah;have bn:=hy' bk;have eu:=hy' e0;have dx:=hy' ay;have fh:=hy' ha0;have en:Below w.heap.size w wr:=hl.o.trans (ay.mono (ZW _));have bo:=hy' en;have z0:=ha0.cell 0 rfl;have gb:=ha0.lt;obtain⟨tb,e8⟩:∃tb,decide (j<n∧j<20)=tb:=⟨_,rfl⟩;have b4:=hy' e8;clear e7 ft b5 bm ah bk e0 ay ha0 en ag ar e8;go_upto_region 3 with (fail)
 go_cut [16] (fun s wx=>s=.bool tb∧wx=wr)
 case first =>
  by_cases h1:j<n
  · have b7:(j:Int)<n:=by omega
    by_cases h2:j<20
    · have cc:(j:Int)<20:=by omega
      have aj:tb=true:=by rw[←b4.o];simp[h1,h2]
      subst aj;clear h1 h2;go_wp2_with fail;go_meet;exact⟨rfl,rfl⟩
    have cc:¬(j:Int)<20:=by omega
    have aj:tb=false:=by rw[←b4.o];simp[h2]
    subst aj;clear h1 h2;go_wp2_with fail;go_meet;exact⟨rfl,rfl⟩
  have b7:¬(j:Int)<n:=by omega
  have aj:tb=false:=by rw[←b4.o];simp[h1]
  subst aj;clear h1;go_wp2_with fail;go_meet;exact⟨rfl,rfl⟩
 obtain⟨rfl,rfl⟩:=hcut;obtain⟨wo,rfl⟩:∃wo:World,wo=wc:=⟨_,rfl⟩;rcases tb with _|_
 · have gh:¬(j<n∧j<20):=QJ b4.o;have gi:j=min n 20:=by omega
   have bc:M.take j=M:=Zi (by rw[fy.o];omega);have fk:M.length=j:=by rw[fy.o];omega
   have au:=bf.o;have a7:=ba.o;have aq:=bh.o;have a6:=bn.o;rw[bc]at au a7 a6 aq;obtain⟨A8,c8,rfl⟩:=zA3 au;have cj:=hy' au;have cr:=hy' (And.intro a7 aq);have ct:=hy' a6;have ey:=hy' fk;clear au a7 aq a6 bc fk gi gh z0;go_wp2_with fail;go_loopw [7] (fun i wr=>∃(k:Nat) (u:Value),k≤min xn 30∧i=.int .i64 k∧Rw.At wr (w.heap.size+2) 25 [.slice A8 j c8,u]∧wr.ownsRow wo.heap.size 3 1 u k ((F.take k).map (Value.int .i64))∧wo.grownBy wr (some (w.heap.size+2))) (fun i _=>min xn 30-(intOf i).toNat)
   case atStart=>exact⟨0,.slice none 0 0,ZF _,rfl,cw.o,ZE _ _ _ _,zDg (Zc _ _)⟩
   obtain⟨k,u,hk,rfl,dh,ah,hg⟩:=hrel;have gj:w.heap.size+2<wr.heap.size:=dh.lt;have hzz:wo.heap.size≤wr.heap.size:=hg.size;have h0:=fh.o.grown hg (by simp);have z1:=h0.cell 1 rfl;have ik:=h0.lt;have cp:=bo.o.trans (zAf (b:=w.heap.size) hg bo.o.size fun q hq=>by cases hq;omega);obtain⟨kb,cm⟩:∃kb,decide (k<xn∧k<30)=kb:=⟨_,rfl⟩;have ax:=hy' cm;have cx:=hy' dh;have a1:=hy' ah;have HG:=hy' hg;have bz:=hy' cp;clear cm dh ah hg h0 cp;go_upto_region 12 with (fail)
   go_cut [79] (fun s wx=>s=.bool kb∧wx=wr)
   case first =>
    by_cases h1:k<xn
    · have b7:(k:Int)<xn:=by omega
      by_cases h2:k<30
      · have cc:(k:Int)<30:=by omega
        have aj:kb=true:=by rw[←ax.o];simp[h1,h2]
        subst aj;clear h1 h2;go_wp2_with fail;go_meet;exact⟨rfl,rfl⟩
      have cc:¬(k:Int)<30:=by omega
      have aj:kb=false:=by rw[←ax.o];simp[h2]
      subst aj;clear h1 h2;go_wp2_with fail;go_meet;exact⟨rfl,rfl⟩
    have b7:¬(k:Int)<xn:=by omega
    have aj:kb=false:=by rw[←ax.o];simp[h1]
    subst aj;clear h1;go_wp2_with fail;go_meet;exact⟨rfl,rfl⟩
   obtain⟨rfl,rfl⟩:=hcut;obtain⟨wq,rfl⟩:∃wq:World,wq=wc:=⟨_,rfl⟩;rcases kb with _|_
   · have ea:¬(k<xn∧k<30):=QJ ax.o;have b3:F.length=k:=by rw[gv.o];omega
     have bc:F.take k=F:=Zi (by rw[b3];omega);have ah:=a1.o;rw[bc]at ah;obtain⟨A9,c9,rfl⟩:=zA3 ah;have ar:=cx.o;have ag:=et.o.grown HG.o (by simp);have p0:=ar.cell 0 rfl;have p1:=ar.cell 1 rfl;have r0:=ag.cell 0 rfl;have r1:=ag.cell 1 rfl;have ij:=ag.frozen 0;have ih:=ag.frozen 1;have b8:=hy' ag;have cd:=hy' ah;have e6:=hy' b3;have iq:=ag.lt;clear ea b3 bc ah ag ar z1;go_wp2_with fail;have k1:=b8.o.set 0 (.slice A8 j c8);have k2:=k1.set 1 (.slice A9 k c9);refine YH (zIY rfl _ _ (w.heap.size+1) _ _ _ _ rfl k2 underlying25 rfl (by kernel_rfl)) rfl ⟨_,rfl,⟨A8,c8,A9,c9,ads,?_,cr.o,?_,?_,wo.heap.size,by omega,by rw[ZP,ZP];omega,?_,?_⟩,?_⟩
     · rw[ey.o,e6.o];rfl
     · rw[ey.o];exact own_base (zA8 (zA8 (zA8 cj.o (by omega) HG.o) (by omega) (Rw.grown_set (w.heap.size+1) 0 _)) (by omega) (Rw.grown_set (w.heap.size+1) 1 _)) (by omega)
     · exact ((ct.o.grown HG.o (by intro q hq;cases hq;exact cw.o.not (by decide))).grown (Rw.grown_set (w.heap.size+1) 0 _) (by intro q hq;cases hq;exact b8.o.not (by decide))).grown (Rw.grown_set (w.heap.size+1) 1 _) (by intro q hq;cases hq;exact k1.not (by decide))
     · have:=eu.o;exact⟨this.1,fun a ha p hp=>by have h:=this.2 a ha p hp;omega⟩
     · rw[e6.o];exact zA8 (zA8 cd.o (by omega) (Rw.grown_set (w.heap.size+1) 0 _)) (by omega) (Rw.grown_set (w.heap.size+1) 1 _)
     exact (bz.o.setCell (p:=⟨w.heap.size+1,0,none⟩) (ZW _) _).setCell (p:=⟨w.heap.size+1,1,none⟩) (ZW _) _
   obtain⟨b9,c7⟩:k<xn∧k<30:=YM ax.o;obtain⟨x,hx⟩:∃x,E[k]?=some x:=⟨_,Zb (by rw[di.o];exact b9)⟩;obtain⟨ab,ao,rfl,cv,cg⟩:=HX.o (by rw[Ze,di.o];omega);have hc:=cg k (by rw[Ze,di.o];exact b9);rw[Zo,hx,Zz,←(zAQ bz.o).1 _ _ cv]at hc;have b3:F[k]?=some (Ch.K x):=by rw[←HF.o];exact zO8 hx c7
   have eg:=Ch.char_any x;have e5:=(Ch.isC_iff _).1 (Ch.K_is x)
   have af:(F.take (k+1)).map (Value.int .i64)=(F.take k).map (Value.int .i64)++[.int .i64 (Ch.K x)]:=by
    rw[ZA,b3];simp
   obtain⟨y,hy⟩:∃y,Ch.K x=y:=⟨_,rfl⟩;rw[hy]at e5 af;simp only[hy]at eg;have eb:IntKind.i64.wrap y=y:=by rw[Z4];omega
   have kI:(k:Int)<xn:=by omega
   have k0:(0:Int)≤(k:Int):=by omega
   have cz:ab<wq.heap.size:=Zf cv bz.o.size;have q0:=cx.o.cell 0 rfl;have q1:=cx.o.cell 1 rfl;have ap:=(a1.o.alloc (.cells #[.int .i64 y] 3)).drew;have bs:Rw.At (wq.alloc (.cells #[.int .i64 y] 3)).drew (w.heap.size+2) 25 [.slice A8 j c8,u]:=cx.o.alloc _;have dl:=zOW wq (.int .i64 y) 3 wq.heap.size rfl;have bb:wo.heap.size≤(wq.alloc (.cells #[.int .i64 y] 3)).drew.heap.size:=by simp;omega
   have cq:Below wq.heap.size wq (wq.alloc (.cells #[.int .i64 y] 3)).drew:=((Zc _ _).alloc (Za _) _).drew;have b6:=hy' ap;have dy:=hy' af;have ec:=hy' (zBl a1.o (w.heap.size+2) (by omega));have bx:=hy' cq;clear cq hx cg af ap b3 e5 hy;go_upto_region 14 with (fail)
   go_region_law
    (first
      | (refine zKg _ (by rfl) 48 _ _ (by rfl) (C.enter func48 (by kernel_rfl) rfl) (.int .i64 x) (by rfl) _ (eg _) ?_)
      | (refine zCF _ rfl _ _ _ rfl wo.heap.size 3 i0 _ 8 underlying23 fm fe eh ei rfl u k _ rfl b6.o _ rfl wq.heap.size rfl dl (by simp only[maxLen];omega) (by omega) bb ?_;intro v1 w4 ai dz ae;have ak:=bs.grown ae ec.o;have h9:=ak.cell 0 rfl;have iu:=ak.cell 1 rfl;have ig:=ak.frozen 1;have ie:=ak.lt;obtain⟨A6,c6,rfl⟩:=zA3 ai)
      | fail)
   all_goals
    go_wp2_with fail
    exact⟨⟨k+1,_,by omega,by go_num,ak.set 1 _,by rw[dy.o];exact zA8 ai (by omega) (Rw.grown_set _ 1 _),
     zA0 (Md.grown_below HG.o ((bx.o.mono hzz).trans dz)) (Rw.grown_set _ 1 _)⟩,by simp[intOf];omega⟩
 obtain⟨h6,hh⟩:j<n∧j<20:=YM b4.o;obtain⟨r,hr⟩:∃r,T[j]?=some r:=⟨_,Zb (by rw[HN.o];exact h6)⟩;have cb:=dr.o r (Zj hr);obtain⟨b,o,a,gg,hb,e9,ew,ej,ed⟩:=dw.o.row hr;have c0:=((zAQ bo.o).1 b (o+j*3) hb).trans e9;have c1:=((zAQ bo.o).1 b (o+j*3+1) hb).trans ew;have c2:=((zAQ bo.o).1 b (o+j*3+2) hb).trans ej;have gu:b<wo.heap.size:=Zf hb bo.o.size;obtain⟨rc,rk,rm⟩:=r;obtain⟨aA,ac⟩:=a;simp only at c0 c1 c2 ed cb;obtain⟨ml,br⟩:∃k,rm.length=k:=⟨_,rfl⟩;rw[br]at c2 cb;obtain⟨q,hq⟩:∃q,IntKind.i32.wrap rc=q:=⟨_,rfl⟩;have gp:IntKind.i64.wrap q=q:=by rw[←hq];exact zMH rc
 have jI:(j:Int)<n:=by omega
 have ia:(0:Int)≤j:=by omega
 have HR:=hy' hr;have aw:=hy' br;have dt:=hy' (ed.below bo.o (Za _));have HQ:=hy' hq;subst gg;clear e9 ew ej ed hr br;go_upto_region 5 with (fail)
 go_cut [5] (fun s wx=>s=.pointer (some ⟨wo.heap.size,0,none⟩)∧Rw.At wx wo.heap.size 39 [.int .i64 q,.int .i64 rk,.slice none 0 0]∧Below wo.heap.size wo wx)
 case first =>
  go_region
  all_goals
   go_wp2_with fail;go_meet;exact⟨rfl,Rw.At.new _ 39 [.int .i64 q,.int .i64 rk,.slice none 0 0],((Zc _ _).drew.alloc (Za _) _)⟩
 obtain⟨rfl,bu,bw⟩:=hcut;obtain⟨wA,rfl⟩:∃wA:World,wA=wc:=⟨_,rfl⟩;have ic:wo.heap.size<wA.heap.size:=bu.lt;have gx:=hy' bw;have C2:=hy' c2;clear c0 c1 c2 z0;go_wp2_with fail;go_loopw [6] (fun i wq=>∃(k:Nat) (u:Value),k≤min ml 4∧i=.int .i64 k∧Rw.At wq wo.heap.size 39 [.int .i64 q,.int .i64 rk,u]∧wq.ownsRow (wo.heap.size+1) 3 1 u k (((rm.take k).map zDa).map (Value.int .i64))∧Below wo.heap.size wo wq) (fun i _=>min ml 4-(intOf i).toNat)
 case atStart=>exact⟨0,.slice none 0 0,ZF _,rfl,bu,ZE _ _ _ _,bw⟩
 obtain⟨k,u,hk,rfl,bq,aa,cu⟩:=hrel;obtain⟨wq,rfl⟩:∃wq:World,wq=wr:=⟨_,rfl⟩;have gz:wo.heap.size<wq.heap.size:=bq.lt;have dm:=fh.o.below cu;have z0:=dm.cell 0 rfl;have h8:=dm.lt;have gf:b<wq.heap.size:=by omega
 have c2:=((zAQ cu).1 b (o+j*3+2) gu).trans C2.o;obtain⟨kb,cm⟩:∃kb,decide (k<ml∧k<4)=kb:=⟨_,rfl⟩;have ax:=hy' cm;have bp:=hy' bq;have a8:=hy' aa;have ch:=hy' cu;clear cm dm bq aa cu bu bw;go_upto_region 7 with (fail)
 go_cut [46] (fun s wx=>s=.bool kb∧wx=wq)
 case first =>
  by_cases h1:k<ml
  · have b7:(k:Int)<ml:=by omega
    by_cases h2:k<4
    · have cc:(k:Int)<4:=by omega
      have aj:kb=true:=by rw[←ax.o];simp[h1,h2]
      subst aj;clear h1 h2;go_wp2_with fail;go_meet;exact⟨rfl,rfl⟩
    have cc:¬(k:Int)<4:=by omega
    have aj:kb=false:=by rw[←ax.o];simp[h2]
    subst aj;clear h1 h2;go_wp2_with fail;go_meet;exact⟨rfl,rfl⟩
  have b7:¬(k:Int)<ml:=by omega
  have aj:kb=false:=by rw[←ax.o];simp[h1]
  subst aj;clear h1;go_wp2_with fail;go_meet;exact⟨rfl,rfl⟩
 obtain⟨rfl,rfl⟩:=hcut;obtain⟨wq,rfl⟩:∃wq:World,wq=wc:=⟨_,rfl⟩;rcases kb with _|_
 · have ea:¬(k<ml∧k<4):=QJ ax.o
   have e4:(rm.take k).map zDa=(rm.take 4).map zDa:=by
    by_cases h4:k=4
    · rw[h4]
    rw[Zi (by rw[aw.o];omega),Zi (by rw[aw.o];omega)]
   obtain⟨R,hR⟩:∃R,zLl (rc,rk,rm)=R:=⟨_,rfl⟩;have ep:R.1=q:=by rw[←hR];exact HQ.o
   have ez:R.2.1=rk:=by rw[←hR];rfl
   have dc:R.2.2=(rm.take k).map zDa:=by rw[←hR,e4];rfl
   have fw:R.2.2.length=k:=by rw[dc,Ze,Zr,aw.o];omega
   have fc:M[j]?=some R:=by rw[←HM.o,←hR];exact zO7 HR.o hh
   have aa:=a8.o;rw[←dc]at aa;obtain⟨A6,c6,rfl⟩:=zA3 aa;have cy:Below wq.heap.size wq (wq.alloc (.cells #[.int .i64 q,.int .i64 rk,.slice A6 k c6] 39)):=(Zc _ _).alloc (Za _) _;have ck:=ch.o.trans (cy.mono ch.o.size);have bg:=zA4 bf.o ck (Za _);have bt:=cw.o.below ck;have bl:=cw.o.below ch.o;have p0:=bl.cell 0 rfl;have il:=bt.cell 0 rfl;obtain⟨x0,x1,x2,_,_,_⟩:=bp.o.three;have fq:=bn.o.below ck;have fo:=(Slt.of_own aa).below cy;have dn:=hy' (Sl.lit (w:=wq.alloc (.cells #[.int .i64 q,.int .i64 rk,.slice A6 k c6] 39)) (A:=some ⟨wq.heap.size,0,none⟩) (xs:=[.int .i64 q,.int .i64 rk,.slice A6 k c6]) rfl 39 (0,0) (ZT wq _));have dv:w.heap.size+3≤(wq.alloc (.cells #[.int .i64 q,.int .i64 rk,.slice A6 k c6] 39)).heap.size:=by simp;omega
   have az:=hy' bg;have du:=hy' bt;have gw:=hy' fq;have h7:=hy' fo;have fx:=hy' ck;have bj:=hy' aa;have gm:=hy' fc;have ho:=hy' ep;have fz:=hy' ez;have fj:=hy' fw;have dp:=hy' (zBl bf.o (w.heap.size+2) (by omega));have df:=hy' (zBl bf.o (w.heap.size+1) (by omega));have gj:w.heap.size+2<wq.heap.size:=by omega
   clear e4 hR ep ez dc fw fc aa cy ck bg bt bl fq fo ea z0 c2;go_wp2_with (first|(at_builtin;refine zAe _ rfl _ _ _ rfl (w.heap.size+3) 39 j0 _ 3 40 underlying22 hj0 gl h3 gq rfl (by omega) v j _ rfl az.o _ (some ⟨wq.heap.size,0,none⟩) 1 1 [.int .i64 q,.int .i64 rk,.slice A6 k c6] rfl rfl dn.out (by simp[Value.oneCell']) (by simp only[maxLen];omega) (by omega) dv ?_;intro v1 w6 bi fg ae;have av:=du.o.grown ae dp.o;have y0:=av.cell 0 rfl;have im:=av.frozen 0;have ir:=av.lt;obtain⟨A8,c8,rfl⟩:=zA3 bi)|fail);have e1:=((gw.o).grown ae (zAB az.o (by decide))).grown (Rw.grown_set (w.heap.size+2) 0 (.slice A8 (j+1) c8)) (by intro q hq;cases hq;exact av.not (by decide));have e2:=((h7.o).grown ae (zAB az.o (by decide))).grown (Rw.grown_set (w.heap.size+2) 0 (.slice A8 (j+1) c8)) (by intro q hq;cases hq;exact av.not (by decide));have e3:=zA8 bi (ZO (w.heap.size+2)) (Rw.grown_set (w.heap.size+2) 0 (.slice A8 (j+1) c8));have bc:M.take (j+1)=M.take j++[R]:=by rw[ZA,gm.o];rfl
   have h5:wq.heap.size<w6.heap.size:=Zf (by simp) fg.size;refine⟨⟨j+1,_,ads++[(A6,c6)],by omega,by go_num,(((et.o.below fx.o).grown ae df.o).other (by omega) _),av.set 0 _,⟨by rw[bc];simp[ba.o],by rw[bc];exact bh.o.app ba.o (by rw[fj.o];exact zFs bj.o)⟩,?_,?_,?_,?_⟩,by simp[intOf];omega⟩
   · rw[bc,zGY _ _ R (A6,c6) ba.o,ho.o,fz.o,show R.2.2.length=k from fj.o];exact e3
   · rw[bc];exact e1.app ba.o e2
   · refine eu.o.app (hi':=(w6.setCell ⟨w.heap.size+2,0,none⟩ (.slice A8 (j+1) c8)).heap.size) ?_ fp ?_
     · rw[ZP];omega
     intro p hp;simp only at hp;subst hp;have:=bj.o.lt p.block rfl;rw[ZP];omega
   have b1:=dx.o.trans (fx.o.mono (Zh (by omega) fp));exact (b1.trans (fg.mono (by omega))).setCell (p:=⟨w.heap.size+2,0,none⟩) (by show w.heap.size+1≤w.heap.size+2;omega) _
 obtain⟨b9,ib⟩:k<ml∧k<4:=YM ax.o;obtain⟨x,hx⟩:∃x,rm[k]?=some x:=⟨_,Zb (by rw[aw.o];exact b9)⟩;obtain⟨ab,ao,rfl,dk,cg⟩:=dt.o (by rw[Ze,aw.o];omega);have cv:ab<wo.heap.size:=Zf dk bo.o.size;have hc:=cg k (by rw[Ze,aw.o];exact b9);rw[Zo,hx,Zz,←(zAQ ch.o).1 _ _ cv]at hc
 have af:((rm.take (k+1)).map zDa).map (Value.int .i64)=((rm.take k).map zDa).map (Value.int .i64)++[.int .i64 (zDa x)]:=by
  rw[ZA,hx];simp
 obtain⟨y,hy⟩:∃y,IntKind.i32.wrap x=y:=⟨_,rfl⟩;have eb:IntKind.i64.wrap y=y:=by rw[←hy];exact zMH x
 rw[show zDa x=y from hy]at af;have kI:(k:Int)<ml:=by omega
 have k0:(0:Int)≤(k:Int):=by omega
 have cz:ab<wq.heap.size:=by omega
 obtain⟨m1,m2,m3,m4,m5,m6⟩:=bp.o.three;have ap:=(a8.o.alloc (.cells #[.int .i64 y] 3)).drew;have bs:Rw.At (wq.alloc (.cells #[.int .i64 y] 3)).drew wo.heap.size 39 [.int .i64 q,.int .i64 rk,u]:=bp.o.alloc _;have dl:=zOW wq (.int .i64 y) 3 wq.heap.size rfl;have bb:wo.heap.size+1≤(wq.alloc (.cells #[.int .i64 y] 3)).drew.heap.size:=by simp;omega
 have cq:Below wq.heap.size wq (wq.alloc (.cells #[.int .i64 y] 3)).drew:=((Zc _ _).alloc (Za _) _).drew;have cn:=hy' ap;have dy:=hy' af;have ec:=hy' (zBl a8.o wo.heap.size (ZO _));have bx:=hy' cq;clear cq hx cg af ap;go_upto_region 9 with (fail)
 go_region_law
  (first
    | (refine zCF _ rfl _ _ _ rfl (wo.heap.size+1) 3 i0 _ 8 underlying23 fm fe eh ei rfl u k _ rfl cn.o _ rfl wq.heap.size rfl dl (by simp only[maxLen];omega) (by omega) bb ?_;intro v1 w4 ai dz ae;have ak:=bs.grown ae ec.o;obtain⟨z1,z2,z3,z4,z5,z6⟩:=ak.three;obtain⟨A6,c6,rfl⟩:=zA3 ai)
    | fail)
 all_goals
  go_wp2_with fail
  exact⟨⟨k+1,_,by omega,by go_num,ak.set 2 _,by rw[dy.o];exact zA8 ai (ZO _) (Rw.grown_set _ 2 _),
   ((ch.o.trans (bx.o.mono (Z5 gz))).trans (dz.mono (ZW _))).setCell (p:=⟨wo.heap.size,2,none⟩) (Za _) _⟩,by simp[intOf];omega⟩
theorem Md.DocO.below {w w':World} {v:Value} {lo:Nat} {T:List Rw.Row} {E:List Int} (h:Md.DocO w v lo T E) (hb:Below w.heap.size w w'):Md.DocO w' v lo T E:=by
 obtain⟨A,c,XA,xc,ads,rfl,hl,ho,hm,mid,h1,h2,ha,hx⟩:=h;exact⟨A,c,XA,xc,ads,rfl,hl,zA4 ho hb (Za _),hm.below hb,mid,h1,Zh h2 hb.size,ha,zA4 hx hb (Za _)⟩
end Go.Proofs.YtjakbblocbicjaaGreatDoor
