/- The laws' Few of a document's table, by walking its text. -/
import Derived.Test.YtikiplbhlohmdaaGreatDoorRwOpen
set_option linter.unusedVariables false
set_option linter.unusedSimpArgs false
namespace Go.Proofs.YtikiplbhlohmdaaGreatDoor
open Go.RowKit
def Md.w32 (x:Int):Int:=IntKind.i32.wrap x
theorem Md.w32_bd (x:Int) : -2147483648≤Md.w32 x∧Md.w32 x≤2147483647:=by
 unfold Md.w32
 rw[Xu]
 omega
theorem Md.w32_64 (x:Int):IntKind.i64.wrap (Md.w32 x)=Md.w32 x:=by
 have:=Md.w32_bd x
 rw[Z0]
 omega
def Md.fewR (r:Rw.Row):Rw.Row:=(Md.w32 r.1,r.2.1,(r.2.2.take 4).map Md.w32)
def Md.fewT (T:List Rw.Row):List Rw.Row:=(T.take 20).map Md.fewR
def Md.fewE (E:List Int):List Int:=(E.take 30).map Ch.K
theorem Md.fewT_get {T:List Rw.Row} {j:Nat} {r:Rw.Row} (h:T[j]?=some r) (hj:j<20):(Md.fewT T)[j]?=some (Md.fewR r):=by
 unfold Md.fewT
 rw[Zu,YG,Zp hj,h]
 rfl
theorem Md.fewE_get {E:List Int} {j:Nat} {x:Int} (h:E[j]?=some x) (hj:j<30):(Md.fewE E)[j]?=some (Ch.K x):=by
 unfold Md.fewE
 rw[Zu,YG,Zp hj,h]
 rfl
theorem Md.grown_below {w w' w'':World} {row:Option Nat} (h:w.grownBy w' row) (hb:Below w.heap.size w' w''):w.grownBy w'' row :=
 ⟨hb.os.trans h.os,hb.tape.trans h.tape,hb.output.trans h.output,Zh h.size hb.size,fun k hk hr=>(hb.block k hk).trans (h.block k hk hr)⟩
def Md.apart (lo hi:Nat) (ads:List (Option Addr × Nat)):Prop :=
 (ads.Pairwise fun a b=>∀p q,a.1=some p→b.1=some q→p.block<q.block)∧∀a∈ads,∀p,a.1=some p→lo≤p.block∧p.block<hi
theorem Md.apart.nil (lo hi:Nat):Md.apart lo hi []:=⟨List.Pairwise.nil,fun a h=>by simp at h⟩
theorem Md.apart.app {lo hi hi':Nat} {ads:List (Option Addr × Nat)} (h:Md.apart lo hi ads) (hh:hi≤hi') (hl:lo≤hi) {a:Option Addr × Nat} (ha:∀p,a.1=some p→hi≤p.block∧p.block<hi'):Md.apart lo hi' (ads++[a]):=by
 refine⟨List.pairwise_append.2 ⟨h.1,by simp,fun x hx y hy p q hp hq=>?_⟩,fun x hx p hp=>?_⟩
 · simp only[ZA]at hy
   subst hy
   have h1:=(h.2 x hx p hp).2
   have h2:=(ha q hq).1
   omega
 · rcases List.mem_append.1 hx with hx|hx
   · have:=h.2 x hx p hp
     omega
   · simp only[ZA]at hx
     subst hx
     have:=ha p hp
     omega
def Md.caps (rs:List Rw.Row) (ads:List (Option Addr × Nat)):Prop:=∀(i:Nat) (r:Rw.Row) (a:Option Addr × Nat),rs[i]?=some r→ads[i]?=some a→r.2.2.length≤a.2
theorem Md.caps.app {rs:List Rw.Row} {ads:List (Option Addr × Nat)} (h:Md.caps rs ads) (hl:ads.length=rs.length) {r:Rw.Row} {a:Option Addr × Nat} (hr:r.2.2.length≤a.2):Md.caps (rs++[r]) (ads++[a]):=by
 intro i q x hq hx
 rcases ZX i rs.length with hi|hi
 · rw[ZW hi]at hq
   rw[ZW (by omega)]at hx
   exact h i q x hq hx
 · have aa:=(List.getElem?_eq_some_iff.1 hq).1
   rw[Ze,Yu]at aa
   obtain rfl:i=rs.length:=by omega
   rw[ZL (Zb _),Yv]at hq
   rw[ZL (by omega),show rs.length-ads.length=0 by omega]at hx
   simp at hq hx
   subst hq hx
   exact hr
theorem Md.own_cap {w:World} {base:Nat} {e:TypeId} {size n m c:Nat} {A:Option Addr} {xs:List Value} (h:w.ownsRow base e size (.slice A m c) n xs):n≤c:=by
 rcases h.2 with ⟨hv,h0⟩|⟨g,cap,aa,hv,_,_,hc,_⟩
 · omega
 · simp only[Z3]at hv
   obtain⟨_,_,rfl⟩:=hv
   exact hc
def Md.DocO (w:World) (v:Value) (lo:Nat) (T:List Rw.Row) (E:List Int):Prop :=
 ∃A c XA xc ads,v=Md.tv A T.length c XA E.length xc∧(ads.length=T.length∧Md.caps T ads)∧w.ownsRow lo 61 3 (.slice A T.length c) T.length (Rw.flI T ads)∧Rw.MapsI w T ads ∧
  ∃mid,lo≤mid∧mid≤w.heap.size∧Md.apart lo mid ads∧w.ownsRow mid 3 1 (.slice XA E.length xc) E.length (E.map (Value.int .i64))
set_option maxRecDepth 100000 in
set_option maxHeartbeats 4000000 in
theorem Md.few_any (A XA:Option Addr) (n c xn xc:Nat) (T:List Rw.Row) (E:List Int) (w:World) (hn:T.length=n) (hxn:E.length=xn) (hnb:n≤maxLen) (hxb:xn≤maxLen) (ew:∀r∈T,r.2.2.length≤maxLen) (h2:Rw.SeesI w A T) (hX:Sl w w.heap.size XA (E.map (Value.int .i64))) :
 Calls Tryz.prog 76 #[.agg #[.slice A n c,.slice XA xn xc]] w fun e w'=>∃v,e=.returned v∧Md.DocO w' v w.heap.size (Md.fewT T) (Md.fewE E)∧Below w.heap.size w w':=by
 obtain⟨j0,hj0,hh,gx,gf⟩:=Z7 infoRowI
 obtain⟨i0,en,er,fo,ei⟩:=Z7 infoInt
 obtain⟨wa,b3⟩:∃wa,((w.alloc (.cells #[.slice A n c,.slice XA xn xc] 25)).alloc (.cells #[.slice none 0 0,.slice none 0 0] 25)).alloc (.cells #[.slice none 0 0,.slice none 0 0] 25)=wa:=⟨_,rfl⟩
 have fh:Below w.heap.size w wa:=by rw[←b3];exact (((Zd _ _).alloc (Zb _) _).alloc (by simp) _).alloc (by simp;omega) _
 have cf:Rw.At wa w.heap.size 25 [.slice A n c,.slice XA xn xc]:=by
  rw[←b3];exact ((Rw.At.new w 25 [.slice A n c,.slice XA xn xc]).alloc _).alloc _
 have ah:Rw.At wa (w.heap.size+1) 25 [.slice none 0 0,.slice none 0 0]:=by
  have h:=Rw.At.new (w.alloc (.cells #[.slice A n c,.slice XA xn xc] 25)) 25 [.slice none 0 0,.slice none 0 0]
  rw[ZH]at h
  rw[←b3]
  exact h.alloc _
 have ar:Rw.At wa (w.heap.size+2) 25 [.slice none 0 0,.slice none 0 0]:=by
  have h:=Rw.At.new ((w.alloc (.cells #[.slice A n c,.slice XA xn xc] 25)).alloc (.cells #[.slice none 0 0,.slice none 0 0] 25)) 25 [.slice none 0 0,.slice none 0 0]
  rw[ZH,ZH]at h
  rw[←b3]
  exact h
 have hz:w.heap.size+2<wa.heap.size:=ar.lt
 obtain⟨M,hM⟩:∃M,Md.fewT T=M:=⟨_,rfl⟩
 obtain⟨F,hF⟩:∃F,Md.fewE E=F:=⟨_,rfl⟩
 have eo:M.length=min n 20:=by rw[←hM];unfold Md.fewT;rw[List.length_map,List.length_take,hn];omega
 have eh:F.length=min xn 30:=by rw[←hF];unfold Md.fewE;rw[List.length_map,List.length_take,hxn];omega
 rw[hM,hF]
 have HM:=Za hM
 have HF:=Za hF
 have e5:=Za eo
 have h7:=Za eh
 have ho:=Za b3
 have gh:=Za fh
 have HN:=Za hn
 have dm:=Za hxn
 have dk:=Za ew
 have cz:=Za h2
 have HX:=Za hX
 have ea:=Za cf
 clear b3 fh hn hxn ew h2 hX cf hM hF eo eh
 go_enter Tryz.func76,Tryz.ntmps76
 go_upto_region 2 with (fail)
 rw[ho.out]
 go_wp2_with fail
 go_loopw [4] (fun i wr=>∃(j:Nat) (v:Value) (ads:List (Option Addr × Nat)),j≤min n 20∧i=.int .i64 j∧Rw.At wr (w.heap.size+1) 25 [.slice none 0 0,.slice none 0 0]∧Rw.At wr (w.heap.size+2) 25 [v,.slice none 0 0] ∧
  (ads.length=(M.take j).length∧Md.caps (M.take j) ads)∧wr.ownsRow (w.heap.size+3) 61 3 v j (Rw.flI (M.take j) ads)∧Rw.MapsI wr (M.take j) ads∧Md.apart (w.heap.size+3) wr.heap.size ads∧Below (w.heap.size+1) wa wr) (fun i _=>min n 20-(intOf i).toNat)
 case atStart=>exact⟨0,.slice none 0 0,[],ZE _,rfl,ah,ar,⟨rfl,fun i r a h=>by simp at h⟩,ZC _ _ _ _,fun i r a h=>by simp at h,Md.apart.nil _ _,Zd _ _⟩
 case round =>
  obtain⟨j,v,ads,hj,rfl,fq,ej,⟨cq,bj⟩,ag,bk,e6,az⟩:=hrel
  have e9:w.heap.size+3≤wr.heap.size:=Zh hz az.size
  have ha0:=ea.out.below' az (ZS _)
  have eg:=Za fq
  have cx:=Za ej
  have a8:=Za cq
  have bn:=Za bj
  have bf:=Za ag
  have bo:=Za bk
  have et:=Za e6
  have dr:=Za az
  have fx:=Za ha0
  have e0:Below w.heap.size w wr:=gh.out.trans (az.mono (ZZ _))
  have bm:=Za e0
  have z0:=ha0.cell 0 rfl
  have gj:=ha0.lt
  obtain⟨tb,e7⟩:∃tb,decide (j<n∧j<20)=tb:=⟨_,rfl⟩
  have ch:=Za e7
  clear fq ej cq bj ag bk e6 az ha0 e0 ah ar e7
  go_upto_region 3 with (fail)
  go_cut [16] (fun s wx=>s=.bool tb∧wx=wr)
  case first =>
   by_cases h1:j<n
   · have cn:(j:Int)<n:=by omega
     by_cases h2:j<20
     · have b7:(j:Int)<20:=by omega
       have ap:tb=true:=by rw[←ch.out];simp[h1,h2]
       subst ap
       clear h1 h2
       go_wp2_with fail
       go_meet
       exact⟨rfl,rfl⟩
     · have b7:¬(j:Int)<20:=by omega
       have ap:tb=false:=by rw[←ch.out];simp[h2]
       subst ap
       clear h1 h2
       go_wp2_with fail
       go_meet
       exact⟨rfl,rfl⟩
   · have cn:¬(j:Int)<n:=by omega
     have ap:tb=false:=by rw[←ch.out];simp[h1]
     subst ap
     clear h1
     go_wp2_with fail
     go_meet
     exact⟨rfl,rfl⟩
  case rest =>
   obtain⟨rfl,rfl⟩:=hcut
   obtain⟨wo,rfl⟩:∃wo:World,wo=wc:=⟨_,rfl⟩
   rcases tb with _|_
   · have gi:¬(j<n∧j<20):=XC ch.out
     have gy:j=min n 20:=by omega
     have bc:M.take j=M:=Zj (by rw[e5.out];omega)
     have ey:M.length=j:=by rw[e5.out];omega
     have au:=bf.out
     have a6:=a8.out
     have aq:=bn.out
     have ba:=bo.out
     rw[bc]at au a6 ba aq
     obtain⟨A8,c8,rfl⟩:=own_form au
     have ck:=Za au
     have b9:=Za (And.intro a6 aq)
     have ct:=Za ba
     have fj:=Za ey
     clear au a6 aq ba bc ey gy gi z0
     go_wp2_with fail
     go_loopw [7] (fun i wr=>∃(k:Nat) (u:Value),k≤min xn 30∧i=.int .i64 k∧Rw.At wr (w.heap.size+2) 25 [.slice A8 j c8,u]∧wr.ownsRow wo.heap.size 3 1 u k ((F.take k).map (Value.int .i64))∧wo.grownBy wr (some (w.heap.size+2))) (fun i _=>min xn 30-(intOf i).toNat)
     case atStart=>exact⟨0,.slice none 0 0,ZE _,rfl,cx.out,ZC _ _ _ _,Rw.grown_bel (Zd _ _)⟩
     case round =>
      obtain⟨k,u,hk,rfl,ee,ag,hg⟩:=hrel
      have gl:w.heap.size+2<wr.heap.size:=ee.lt
      have hzz:wo.heap.size≤wr.heap.size:=hg.size
      have h0:=fx.out.grown hg (by simp)
      have z1:=h0.cell 1 rfl
      have ic:=h0.lt
      have cb:=bm.out.trans (Rw.below_grown (b:=w.heap.size) hg bm.out.size fun q hq=>by cases hq;omega)
      obtain⟨kb,cr⟩:∃kb,decide (k<xn∧k<30)=kb:=⟨_,rfl⟩
      have a1:=Za cr
      have cv:=Za ee
      have ay:=Za ag
      have HG:=Za hg
      have br:=Za cb
      clear cr ee ag hg h0 cb
      go_upto_region 12 with (fail)
      go_cut [79] (fun s wx=>s=.bool kb∧wx=wr)
      case first =>
       by_cases h1:k<xn
       · have cn:(k:Int)<xn:=by omega
         by_cases h2:k<30
         · have b7:(k:Int)<30:=by omega
           have ap:kb=true:=by rw[←a1.out];simp[h1,h2]
           subst ap
           clear h1 h2
           go_wp2_with fail
           go_meet
           exact⟨rfl,rfl⟩
         · have b7:¬(k:Int)<30:=by omega
           have ap:kb=false:=by rw[←a1.out];simp[h2]
           subst ap
           clear h1 h2
           go_wp2_with fail
           go_meet
           exact⟨rfl,rfl⟩
       · have cn:¬(k:Int)<xn:=by omega
         have ap:kb=false:=by rw[←a1.out];simp[h1]
         subst ap
         clear h1
         go_wp2_with fail
         go_meet
         exact⟨rfl,rfl⟩
      case rest =>
       obtain⟨rfl,rfl⟩:=hcut
       obtain⟨wq,rfl⟩:∃wq:World,wq=wc:=⟨_,rfl⟩
       rcases kb with _|_
       · have ed:¬(k<xn∧k<30):=XC a1.out
         have b2:F.length=k:=by rw[h7.out];omega
         have bc:F.take k=F:=Zj (by rw[b2];omega)
         have ag:=ay.out
         rw[bc]at ag
         obtain⟨A9,c9,rfl⟩:=own_form ag
         have ar:=cv.out
         have ah:=eg.out.grown HG.out (by simp)
         have p0:=ar.cell 0 rfl
         have p1:=ar.cell 1 rfl
         have r0:=ah.cell 0 rfl
         have r1:=ah.cell 1 rfl
         have ib:=ah.frozen 0
         have h8:=ah.frozen 1
         have cg:=Za ah
         have cc:=Za ag
         have ef:=Za b2
         have ie:=ah.lt
         clear ed b2 bc ag ah ar z1
         go_wp2_with fail
         have k1:=cg.out.set 0 (.slice A8 j c8)
         have k2:=k1.set 1 (.slice A9 k c9)
         refine Yl (Rw.results1 rfl _ _ (w.heap.size+1) _ _ _ _ rfl k2 Tryz.underlying25 rfl (by kernel_rfl)) rfl ⟨_,rfl,⟨A8,c8,A9,c9,ads,?_,b9.out,?_,?_,wo.heap.size,by omega,by rw[ZN,ZN];omega,?_,?_⟩,?_⟩
         · rw[fj.out,ef.out];rfl
         · rw[fj.out]
           exact own_base (Rw.own_grown (Rw.own_grown (Rw.own_grown ck.out (by omega) HG.out) (by omega) (Rw.grown_set (w.heap.size+1) 0 _)) (by omega) (Rw.grown_set (w.heap.size+1) 1 _)) (by omega)
         · exact ((ct.out.grown HG.out (by intro q hq;cases hq;exact cx.out.not (by decide))).grown (Rw.grown_set (w.heap.size+1) 0 _) (by intro q hq;cases hq;exact cg.out.not (by decide))).grown (Rw.grown_set (w.heap.size+1) 1 _) (by intro q hq;cases hq;exact k1.not (by decide))
         · have:=et.out
           exact⟨this.1,fun a ha p hp=>by have h:=this.2 a ha p hp;omega⟩
         · rw[ef.out]
           exact Rw.own_grown (Rw.own_grown cc.out (by omega) (Rw.grown_set (w.heap.size+1) 0 _)) (by omega) (Rw.grown_set (w.heap.size+1) 1 _)
         · exact (br.out.setCell (p:=⟨w.heap.size+1,0,none⟩) (ZZ _) _).setCell (p:=⟨w.heap.size+1,1,none⟩) (ZZ _) _
       · obtain⟨b5,cy⟩:k<xn∧k<30:=Yg a1.out
         obtain⟨x,hx⟩:∃x,E[k]?=some x:=⟨_,Zc (by rw[dm.out];exact b5)⟩
         obtain⟨ab,ao,rfl,cw,cj⟩:=HX.out (by rw[Zg,dm.out];omega)
         have hc:=cj k (by rw[Zg,dm.out];exact b5)
         rw[Zu,hx,Zt,←(bcell br.out).1 _ _ cw]at hc
         have b2:F[k]?=some (Ch.K x):=by rw[←HF.out];exact Md.fewE_get hx cy
         have fm:=Ch.char_any x
         have ft:=(Ch.isC_iff _).1 (Ch.K_is x)
         have af:(F.take (k+1)).map (Value.int .i64)=(F.take k).map (Value.int .i64)++[.int .i64 (Ch.K x)]:=by
          rw[Zw,b2];simp
         obtain⟨y,hy⟩:∃y,Ch.K x=y:=⟨_,rfl⟩
         rw[hy]at ft af
         simp only[hy]at fm
         have dn:IntKind.i64.wrap y=y:=by rw[Z0];omega
         have kI:(k:Int)<xn:=by omega
         have k0:(0:Int)≤(k:Int):=by omega
         have du:ab<wq.heap.size:=Zf cw br.out.size
         have q0:=cv.out.cell 0 rfl
         have q1:=cv.out.cell 1 rfl
         have ak:=(ay.out.alloc (.cells #[.int .i64 y] 3)).drew
         have bs:Rw.At (wq.alloc (.cells #[.int .i64 y] 3)).drew (w.heap.size+2) 25 [.slice A8 j c8,u]:=cv.out.alloc _
         have di:=cell1 wq (.int .i64 y) 3 wq.heap.size rfl
         have a7:wo.heap.size≤(wq.alloc (.cells #[.int .i64 y] 3)).drew.heap.size:=by simp;omega
         have cm:Below wq.heap.size wq (wq.alloc (.cells #[.int .i64 y] 3)).drew:=((Zd _ _).alloc (Zb _) _).drew
         have cd:=Za ak
         have dp:=Za af
         have dl:=Za (Rw.own_ne ay.out (w.heap.size+2) (by omega))
         have bz:=Za cm
         clear cm hx cj af ak b2 ft hy
         go_upto_region 14 with (fail)
         go_region_law
          (first
            | (refine step_quiet _ (by rfl) 19 _ _ (by rfl) (C.enter Tryz.func19 (by kernel_rfl) rfl) (.int .i64 x) (by rfl) _ (fm _) ?_)
            | (refine step_push1 _ rfl _ _ _ rfl wo.heap.size 3 i0 _ 8 Tryz.underlying23 en er fo ei rfl u k _ rfl cd.out _ rfl wq.heap.size rfl di (by simp only[maxLen];omega) (by omega) a7 ?_;intro v1 w4 ai dx aa;have aj:=bs.grown aa dl.out;have im:=aj.cell 0 rfl;have ir:=aj.cell 1 rfl;have il:=aj.frozen 1;have h9:=aj.lt;obtain⟨A6,c6,rfl⟩:=own_form ai)
            | fail)
         all_goals
          go_wp2_with fail
          exact⟨⟨k+1,_,by omega,by go_num,aj.set 1 _,by rw[dp.out];exact Rw.own_grown ai (by omega) (Rw.grown_set _ 1 _),
           Rw.grown_trans (Md.grown_below HG.out ((bz.out.mono hzz).trans dx)) (Rw.grown_set _ 1 _)⟩,by simp[intOf];omega⟩
   · obtain⟨gb,gv⟩:j<n∧j<20:=Yg ch.out
     obtain⟨r,hr⟩:∃r,T[j]?=some r:=⟨_,Zc (by rw[HN.out];exact gb)⟩
     have b6:=dk.out r (Zk hr)
     obtain⟨b,o,a,gz,hb,ep,fk,fp,dy⟩:=cz.out.row hr
     have c0:=((bcell bm.out).1 b (o+j*3) hb).trans ep
     have c1:=((bcell bm.out).1 b (o+j*3+1) hb).trans fk
     have c2:=((bcell bm.out).1 b (o+j*3+2) hb).trans fp
     have gg:b<wo.heap.size:=Zf hb bm.out.size
     obtain⟨rc,rk,rm⟩:=r
     obtain⟨aA,ac⟩:=a
     simp only at c0 c1 c2 dy b6
     obtain⟨ml,bt⟩:∃k,rm.length=k:=⟨_,rfl⟩
     rw[bt]at c2 b6
     obtain⟨q,hq⟩:∃q,IntKind.i32.wrap rc=q:=⟨_,rfl⟩
     have gp:IntKind.i64.wrap q=q:=by rw[←hq];exact Md.w32_64 rc
     have jI:(j:Int)<n:=by omega
     have ia:(0:Int)≤j:=by omega
     have HR:=Za hr
     have aw:=Za bt
     have dh:=Za (dy.below bm.out (Zb _))
     have HQ:=Za hq
     subst gz
     clear ep fk fp dy hr bt
     go_upto_region 5 with (fail)
     go_cut [5] (fun s wx=>s=.pointer (some ⟨wo.heap.size,0,none⟩)∧Rw.At wx wo.heap.size 61 [.int .i64 q,.int .i64 rk,.slice none 0 0]∧Below wo.heap.size wo wx)
     case first =>
      go_region
      all_goals
       go_wp2_with fail
       go_meet
       exact⟨rfl,Rw.At.new _ 61 [.int .i64 q,.int .i64 rk,.slice none 0 0],((Zd _ _).drew.alloc (Zb _) _)⟩
     case rest =>
      obtain⟨rfl,bw,bx⟩:=hcut
      obtain⟨wA,rfl⟩:∃wA:World,wA=wc:=⟨_,rfl⟩
      have ih:wo.heap.size<wA.heap.size:=bw.lt
      have h3:=Za bx
      have C2:=Za c2
      clear c0 c1 c2 z0
      go_wp2_with fail
      go_loopw [6] (fun i wq=>∃(k:Nat) (u:Value),k≤min ml 4∧i=.int .i64 k∧Rw.At wq wo.heap.size 61 [.int .i64 q,.int .i64 rk,u]∧wq.ownsRow (wo.heap.size+1) 3 1 u k (((rm.take k).map Md.w32).map (Value.int .i64))∧Below wo.heap.size wo wq) (fun i _=>min ml 4-(intOf i).toNat)
      case atStart=>exact⟨0,.slice none 0 0,ZE _,rfl,bw,ZC _ _ _ _,bx⟩
      case round =>
       obtain⟨k,u,hk,rfl,bp,ae,cu⟩:=hrel
       obtain⟨wq,rfl⟩:∃wq:World,wq=wr:=⟨_,rfl⟩
       have gm:wo.heap.size<wq.heap.size:=bp.lt
       have c7:=fx.out.below cu
       have z0:=c7.cell 0 rfl
       have gu:=c7.lt
       have gw:b<wq.heap.size:=by omega
       have c2:=((bcell cu).1 b (o+j*3+2) gg).trans C2.out
       obtain⟨kb,cr⟩:∃kb,decide (k<ml∧k<4)=kb:=⟨_,rfl⟩
       have a1:=Za cr
       have bq:=Za bp
       have ax:=Za ae
       have b8:=Za cu
       clear cr c7 bp ae cu bw bx
       go_upto_region 7 with (fail)
       go_cut [46] (fun s wx=>s=.bool kb∧wx=wq)
       case first =>
        by_cases h1:k<ml
        · have cn:(k:Int)<ml:=by omega
          by_cases h2:k<4
          · have b7:(k:Int)<4:=by omega
            have ap:kb=true:=by rw[←a1.out];simp[h1,h2]
            subst ap
            clear h1 h2
            go_wp2_with fail
            go_meet
            exact⟨rfl,rfl⟩
          · have b7:¬(k:Int)<4:=by omega
            have ap:kb=false:=by rw[←a1.out];simp[h2]
            subst ap
            clear h1 h2
            go_wp2_with fail
            go_meet
            exact⟨rfl,rfl⟩
        · have cn:¬(k:Int)<ml:=by omega
          have ap:kb=false:=by rw[←a1.out];simp[h1]
          subst ap
          clear h1
          go_wp2_with fail
          go_meet
          exact⟨rfl,rfl⟩
       case rest =>
        obtain⟨rfl,rfl⟩:=hcut
        obtain⟨wq,rfl⟩:∃wq:World,wq=wc:=⟨_,rfl⟩
        rcases kb with _|_
        · have ed:¬(k<ml∧k<4):=XC a1.out
          have e4:(rm.take k).map Md.w32=(rm.take 4).map Md.w32:=by
           by_cases h4:k=4
           · rw[h4]
           · rw[Zj (by rw[aw.out];omega),Zj (by rw[aw.out];omega)]
          obtain⟨R,hR⟩:∃R,Md.fewR (rc,rk,rm)=R:=⟨_,rfl⟩
          have e8:R.1=q:=by rw[←hR];exact HQ.out
          have ez:R.2.1=rk:=by rw[←hR];rfl
          have dc:R.2.2=(rm.take k).map Md.w32:=by rw[←hR,e4];rfl
          have fe:R.2.2.length=k:=by rw[dc,Zg,Zq,aw.out];omega
          have fc:M[j]?=some R:=by rw[←HM.out,←hR];exact Md.fewT_get HR.out gv
          have ae:=ax.out
          rw[←dc]at ae
          obtain⟨A6,c6,rfl⟩:=own_form ae
          have ec:Below wq.heap.size wq (wq.alloc (.cells #[.int .i64 q,.int .i64 rk,.slice A6 k c6] 61)):=(Zd _ _).alloc (Zb _) _
          have cp:=b8.out.trans (ec.mono b8.out.size)
          have bh:=own_below bf.out cp (Zb _)
          have bu:=cx.out.below cp
          have bl:=cx.out.below b8.out
          have p0:=bl.cell 0 rfl
          have ij:=bu.cell 0 rfl
          obtain⟨x0,x1,x2,_,_,_⟩:=bq.out.three
          have fg:=bo.out.below cp
          have ek:=(Slt.of_own ae).below ec
          have dz:=Za (Sl.lit (w:=wq.alloc (.cells #[.int .i64 q,.int .i64 rk,.slice A6 k c6] 61)) (A:=some ⟨wq.heap.size,0,none⟩) (xs:=[.int .i64 q,.int .i64 rk,.slice A6 k c6]) rfl 61 (0,0) (ZP wq _))
          have dw:w.heap.size+3≤(wq.alloc (.cells #[.int .i64 q,.int .i64 rk,.slice A6 k c6] 61)).heap.size:=by simp;omega
          have bb:=Za bh
          have dt:=Za bu
          have h6:=Za fg
          have fy:=Za ek
          have fw:=Za cp
          have bg:=Za ae
          have gq:=Za fc
          have h5:=Za e8
          have hl:=Za ez
          have fu:=Za fe
          have dv:=Za (Rw.own_ne bf.out (w.heap.size+2) (by omega))
          have df:=Za (Rw.own_ne bf.out (w.heap.size+1) (by omega))
          have gl:w.heap.size+2<wq.heap.size:=by omega
          clear e4 hR e8 ez dc fe fc ae ec cp bh bu bl fg ek ed z0 c2
          go_wp2_with (first|(at_builtin;refine wpList_appendSl _ rfl _ _ _ rfl (w.heap.size+3) 61 j0 _ 3 40 Tryz.underlying22 hj0 hh gx gf rfl (by omega) v j _ rfl bb.out _ (some ⟨wq.heap.size,0,none⟩) 1 1 [.int .i64 q,.int .i64 rk,.slice A6 k c6] rfl rfl dz.out (by simp[Value.oneCell']) (by simp only[maxLen];omega) (by omega) dw ?_;intro v1 w6 bi eu aa;have av:=dt.out.grown aa dv.out;have y0:=av.cell 0 rfl;have ik:=av.frozen 0;have ig:=av.lt;obtain⟨A8,c8,rfl⟩:=own_form bi)|fail)
          have e1:=((h6.out).grown aa (Rw.own_not bb.out (by decide))).grown (Rw.grown_set (w.heap.size+2) 0 (.slice A8 (j+1) c8)) (by intro q hq;cases hq;exact av.not (by decide))
          have e2:=((fy.out).grown aa (Rw.own_not bb.out (by decide))).grown (Rw.grown_set (w.heap.size+2) 0 (.slice A8 (j+1) c8)) (by intro q hq;cases hq;exact av.not (by decide))
          have e3:=Rw.own_grown bi (ZS (w.heap.size+2)) (Rw.grown_set (w.heap.size+2) 0 (.slice A8 (j+1) c8))
          have bc:M.take (j+1)=M.take j++[R]:=by rw[Zw,gq.out];rfl
          have fz:wq.heap.size<w6.heap.size:=Zf (by simp) eu.size
          refine⟨⟨j+1,_,ads++[(A6,c6)],by omega,by go_num,(((eg.out.below fw.out).grown aa df.out).other (by omega) _),av.set 0 _,⟨by rw[bc];simp[a8.out],by rw[bc];exact bn.out.app a8.out (by rw[fu.out];exact Md.own_cap bg.out)⟩,?_,?_,?_,?_⟩,by simp[intOf];omega⟩
          · rw[bc,Rw.flI_app _ _ R (A6,c6) a8.out,h5.out,hl.out,show R.2.2.length=k from fu.out]
            exact e3
          · rw[bc]
            exact e1.app a8.out e2
          · refine et.out.app (hi':=(w6.setCell ⟨w.heap.size+2,0,none⟩ (.slice A8 (j+1) c8)).heap.size) ?_ e9 ?_
            · rw[ZN];omega
            · intro p hp
              simp only at hp
              subst hp
              have:=bg.out.lt p.block rfl
              rw[ZN]
              omega
          · have b1:=dr.out.trans (fw.out.mono (Zh (by omega) e9))
            exact (b1.trans (eu.mono (by omega))).setCell (p:=⟨w.heap.size+2,0,none⟩) (by show w.heap.size+1≤w.heap.size+2;omega) _
        · obtain⟨b5,iq⟩:k<ml∧k<4:=Yg a1.out
          obtain⟨x,hx⟩:∃x,rm[k]?=some x:=⟨_,Zc (by rw[aw.out];exact b5)⟩
          obtain⟨ab,ao,rfl,eb,cj⟩:=dh.out (by rw[Zg,aw.out];omega)
          have cw:ab<wo.heap.size:=Zf eb bm.out.size
          have hc:=cj k (by rw[Zg,aw.out];exact b5)
          rw[Zu,hx,Zt,←(bcell b8.out).1 _ _ cw]at hc
          have af:((rm.take (k+1)).map Md.w32).map (Value.int .i64)=((rm.take k).map Md.w32).map (Value.int .i64)++[.int .i64 (Md.w32 x)]:=by
           rw[Zw,hx];simp
          obtain⟨y,hy⟩:∃y,IntKind.i32.wrap x=y:=⟨_,rfl⟩
          have dn:IntKind.i64.wrap y=y:=by rw[←hy];exact Md.w32_64 x
          rw[show Md.w32 x=y from hy]at af
          have kI:(k:Int)<ml:=by omega
          have k0:(0:Int)≤(k:Int):=by omega
          have du:ab<wq.heap.size:=by omega
          obtain⟨m1,m2,m3,m4,m5,m6⟩:=bq.out.three
          have ak:=(ax.out.alloc (.cells #[.int .i64 y] 3)).drew
          have bs:Rw.At (wq.alloc (.cells #[.int .i64 y] 3)).drew wo.heap.size 61 [.int .i64 q,.int .i64 rk,u]:=bq.out.alloc _
          have di:=cell1 wq (.int .i64 y) 3 wq.heap.size rfl
          have a7:wo.heap.size+1≤(wq.alloc (.cells #[.int .i64 y] 3)).drew.heap.size:=by simp;omega
          have cm:Below wq.heap.size wq (wq.alloc (.cells #[.int .i64 y] 3)).drew:=((Zd _ _).alloc (Zb _) _).drew
          have b4:=Za ak
          have dp:=Za af
          have dl:=Za (Rw.own_ne ax.out wo.heap.size (ZS _))
          have bz:=Za cm
          clear cm hx cj af ak
          go_upto_region 9 with (fail)
          go_region_law
           (first
             | (refine step_push1 _ rfl _ _ _ rfl (wo.heap.size+1) 3 i0 _ 8 Tryz.underlying23 en er fo ei rfl u k _ rfl b4.out _ rfl wq.heap.size rfl di (by simp only[maxLen];omega) (by omega) a7 ?_;intro v1 w4 ai dx aa;have aj:=bs.grown aa dl.out;obtain⟨z1,z2,z3,z4,z5,z6⟩:=aj.three;obtain⟨A6,c6,rfl⟩:=own_form ai)
             | fail)
          all_goals
           go_wp2_with fail
           exact⟨⟨k+1,_,by omega,by go_num,aj.set 2 _,by rw[dp.out];exact Rw.own_grown ai (ZS _) (Rw.grown_set _ 2 _),
            ((b8.out.trans (bz.out.mono (Ya gm))).trans (dx.mono (ZZ _))).setCell (p:=⟨wo.heap.size,2,none⟩) (Zb _) _⟩,by simp[intOf];omega⟩
def Md.xs (E:List Int) (d:Int):Bool:=decide (d∈E)
def Md.docP (T:List Rw.Row) (E:List Int) (c:Int):Bool:=decide (0<(Hg.splitK c).length)||(decide ((Md.mp T c).length=2)&&(decide (Md.cls T c=0)&&(decide (Md.cls T ((Md.mp T c).headD 0)=0)&&!Md.xs E c)))
theorem Md.docP_eq (T:List Rw.Row) (E:List Int) (c:Int):Md.docP T E c=Md.prim T (Md.xs E) c:=by
 unfold Md.docP Md.prim
 by_cases h:(Hg.pairK c).2.2=true
 · have hs:0<(Hg.splitK c).length:=by
    unfold Hg.pairK at h
    unfold Hg.splitK
    split at h
    · rename_i h4;rw[Zp h4];simp
    · split at h
      · rename_i h4 h5;rw[Zl h4,Zp h5];simp
      · cases h
   rw[h,Zn hs,Xo,Xo]
 · have hp:(Hg.pairK c).2.2=false:=by simpa using h
   have hs:(Hg.splitK c).length=0:=by
    unfold Hg.pairK at h
    unfold Hg.splitK
    split at h
    · exact absurd rfl h
    · split at h
      · exact absurd rfl h
      · rename_i h4 h5;rw[Zl h4,Zl h5];rfl
   have hm:Md.mp T c=Md.rmp T c:=by
    unfold Md.mp
    rw[Zl h]
   rw[hp,Zo (by omega),YV,YV,hm]
   unfold Md.rmp
   cases hf:Md.find T c with
   | none=>simp
   | some r =>
     have he:=(Md.find_some hf).2
     have hc:Md.cls T c=r.2.1:=by unfold Md.cls;rw[hf];rfl
     simp only[Zt,Option.getD_some]
     unfold Md.comp
     rw[hc,he]
     cases decide (r.2.1=0) <;> cases decide (r.2.2.length=2) <;> rfl
set_option maxRecDepth 100000 in
set_option maxHeartbeats 4000000 in
theorem Md.rprim_any (v:Value) (T:List Rw.Row) (E:List Int) (d:Int) (w:World) (b4:T.length≤100000) (b3:E.length≤1000000) (h:Md.Doc w v T E) (az:∀r∈T,r.2.2.length≤1000) (h3 : -2147483648≤d) (h4:d≤2147483647) :
 Calls Tryz.prog 104 #[v,.int .i64 d] w fun e w'=>e=.returned (.bool (Md.prim T (Md.xs E) d))∧Below w.heap.size w w':=by
 rw[←Md.docP_eq]
 have a6:=Md.mp_len az d
 have au:=Za h
 obtain⟨AT,cT,XA,xc,rfl,h2,hX⟩:=h
 obtain⟨tn,a8⟩:∃k,T.length=k:=⟨_,rfl⟩
 obtain⟨xn,hxn⟩:∃k,E.length=k:=⟨_,rfl⟩
 have aa:Md.docP T E d=(decide (0<(Hg.splitK d).length)||(decide ((Md.mp T d).length=2)&&(decide (Md.cls T d=0)&&(decide (Md.cls T ((Md.mp T d).headD 0)=0)&&!Md.xs E d)))):=rfl
 obtain⟨o,ho⟩:∃o,Md.docP T E d=o:=⟨_,rfl⟩
 rw[ho]at aa ⊢
 have bl:Below w.heap.size w (w.alloc (.cells #[.slice AT tn cT,.slice XA xn xc] 25)):=(Zd _ _).alloc (Zb _) _
 have bs:Rw.At (w.alloc (.cells #[.slice AT tn cT,.slice XA xn xc] 25)) w.heap.size 25 [.slice AT tn cT,.slice XA xn xc]:=Rw.At.new w 25 [.slice AT tn cT,.slice XA xn xc]
 have HP:=Za (Hg.parts_any d (w.alloc (.cells #[.slice AT tn cT,.slice XA xn xc] 25)) h3 h4)
 have ap:Hid (∀W,Below w.heap.size w W→Calls Tryz.prog 11 #[.agg #[.slice AT tn cT,.slice XA xn xc],.int .i64 d] W (RetInts .i64 (Md.mp T d) W)):=Za fun W hW=>by
  have:=Md.rmap_any _ T E d W (by omega) (au.out.below hW) h3 h4
  rw[a8,hxn]at this
  exact this
 have ba:Hid (∀x W,Below w.heap.size w W→Calls Tryz.prog 50 #[.agg #[.slice AT tn cT,.slice XA xn xc],.int .i64 x] W fun e w'=>e=.returned (.int .i64 (Md.cls T x))∧Below W.heap.size W w'):=Za fun x W hW=>by
  have:=Md.rcls_any _ T E x W (by omega) (au.out.below hW)
  rw[a8,hxn]at this
  exact this
 have bo:Hid (∀W,Below w.heap.size w W→Calls Tryz.prog 134 #[.slice XA xn xc,.int .i64 d] W fun e w'=>e=.returned (.bool (Md.xs E d))∧W=w'):=Za fun W hW =>
  Md.in_any XA xn xc E d W hxn (by omega) (hX.below hW hW.size)
 have bm:=Za bl
 have br:=Za bs
 have ay:=Za aa
 rw[a8,hxn]
 obtain⟨sp,bh⟩:∃s,Hg.splitK d=s:=⟨_,rfl⟩
 obtain⟨m,hm⟩:∃m,Md.mp T d=m:=⟨_,rfl⟩
 rw[bh]at HP ay
 rw[hm]at ap ay a6
 clear bl bs aa ho a8 hxn h2 hX bh hm au az
 unfold Md.tv
 go_enter Tryz.func104,Tryz.ntmps104
 go_wp2_with fail
 refine HP.out.mono ?_
 rintro e w1 ⟨A1,c1,rfl,_,ar⟩
 have ah:=br.out.below ar
 have z0:=ah.cell 0 rfl
 have z1:=ah.cell 1 rfl
 have bb:=Za ah
 have a7:=Za (bm.out.trans (ar.mono bm.out.size))
 obtain⟨sl,bq⟩:∃k,sp.length=k:=⟨_,rfl⟩
 rw[bq]at ay ⊢
 clear ar ah HP bq br
 by_cases hs0:0<sl
 · have ag:o=true:=by rw[ay.out,Zn hs0,Xo]
   have ai:=Za ag
   have bz:(0:Int)<sl:=by omega
   clear ag
   go_wp2_with fail
   go_ret
   exact⟨by rw[ai.out];rfl,a7.out⟩
 · have aa:=ay.out
   rw[Zo hs0,YV]at aa
   have aj:=Za aa
   have bz:¬(0:Int)<sl:=by omega
   clear aa ay
   go_wp2_with fail
   refine (ap.out w1 a7.out).mono ?_
   rintro e w2 ⟨A2,c2,rfl,bg,aq⟩
   have af:=bb.out.below aq
   have y0:=af.cell 0 rfl
   have y1:=af.cell 1 rfl
   have bk:=af.lt
   have ae:=Za (a7.out.trans (aq.mono a7.out.size))
   have b1:=Za bg
   have bw:=Za af
   obtain⟨ml,az⟩:∃k,m.length=k:=⟨_,rfl⟩
   rw[az]at aj a6 ⊢
   have bt:=Za az
   clear bg aq af z0 z1 ap az
   rcases hd2:((ml:Int) == 2) with _|_
   · have hne:¬ml=2:=fun e=>by rw[e]at hd2;simp at hd2
     have ag:o=false:=by rw[aj.out,Zo hne,Xh]
     have ai:=Za ag
     clear ag hne
     go_wp2_with fail
     go_quiet (fail)
     go_wp2_with fail
     go_ret
     exact⟨by rw[ai.out];rfl,below_drewN ae.out _⟩
   · have bp:ml=2:=by have:=beq_iff_eq.1 hd2;omega
     obtain⟨x,y,rfl⟩:∃x y,m=[x,y]:=by
      have h2:m.length=2:=by rw[bt.out,bp]
      match m,h2 with
      | [x,y],_=>exact⟨x,y,rfl⟩
     obtain⟨ab,ao,hA,bu,bc⟩:=b1.out (by simp)
     have bf:w2.cell? ⟨ab,ao,none⟩=some (.int .i64 x):=by simpa using bc 0 (by simp)
     subst hA
     have bx:0<ml:=by omega
     have b2:(0:Int)<ml:=by omega
     have aa:=aj.out
     rw[Zn bp,YU,List.headD_cons]at aa
     have av:=Ext.call fun W hW=>ba.out d W (ae.out.trans (hW.mono ae.out.size))
     have aw:=Ext.call fun W hW=>ba.out x W (ae.out.trans (hW.mono ae.out.size))
     have ax:=Ext.same fun W hW=>bo.out W (ae.out.trans (hW.mono ae.out.size))
     have e0:=Ext.cells y0 bk
     have e1:=Ext.cells y1 bk
     have e2:=Ext.cells bf bu
     obtain⟨q1,bn⟩:∃q,Md.cls T d=q:=⟨_,rfl⟩
     obtain⟨q2,bi⟩:∃q,Md.cls T x=q:=⟨_,rfl⟩
     obtain⟨xi,bj⟩:∃b,Md.xs E d=b:=⟨_,rfl⟩
     rw[bn]at av aa
     rw[bi]at aw aa
     rw[bj]at ax aa
     have C1:=Za av
     have C2:=Za aw
     have C3:=Za ax
     have ak:=Za aa
     clear aa aj ba bc bn bi bj av aw ax y0 y1 bf bo
     rcases ar:(q1 == 0) with _|_
     · have ag:o=false:=by rw[ak.out,show decide (q1=0)=false by simpa using ar,Bool.false_and]
       have ai:=Za ag
       clear ag
       go_wp2_with fail
       refine wp_region_ext (by kernel_rfl) (by kernel_rfl) ?_
       repeat (go_big_quiet_step ((first|(go_at_call 50;first|with_reducible exact C1.out _|with_reducible exact C2.out _)|(go_at_call 134;with_reducible exact C3.out _))))
       refine wpQuiet_nil ?_
       intro xw
       have a1:=Za (ae.out.trans (xw.below.mono ae.out.size))
       go_wp2_with fail
       go_ret
       exact⟨by rw[ai.out];rfl,a1.out⟩
     · have h0:q1=0:=beq_iff_eq.1 ar
       subst h0
       have aa:=ak.out
       rw[show decide ((0:Int)=0)=true from rfl,YU]at aa
       clear ak ar
       rcases aq:(q2 == 0) with _|_
       · have ag:o=false:=by rw[aa,show decide (q2=0)=false by simpa using aq,Bool.false_and]
         have ai:=Za ag
         clear ag aa
         go_wp2_with fail
         refine wp_region_ext (by kernel_rfl) (by kernel_rfl) ?_
         repeat (go_big_quiet_step ((first|(go_at_call 50;first|with_reducible exact C1.out _|with_reducible exact C2.out _)|(go_at_call 134;with_reducible exact C3.out _))))
         refine wpQuiet_nil ?_
         intro xw
         have a1:=Za (ae.out.trans (xw.below.mono ae.out.size))
         go_wp2_with fail
         go_ret
         exact⟨by rw[ai.out];rfl,a1.out⟩
       · have h0:q2=0:=beq_iff_eq.1 aq
         subst h0
         rw[show decide ((0:Int)=0)=true from rfl,YU]at aa
         have ai:=Za aa
         clear aa aq
         go_wp2_with fail
         refine wp_region_ext (by kernel_rfl) (by kernel_rfl) ?_
         repeat (go_big_quiet_step ((first|(go_at_call 50;first|with_reducible exact C1.out _|with_reducible exact C2.out _)|(go_at_call 134;with_reducible exact C3.out _))))
         refine wpQuiet_nil ?_
         intro xw
         have a1:=Za (ae.out.trans (xw.below.mono ae.out.size))
         go_wp2_with fail
         go_ret
         exact⟨by rw[ai.out];rfl,a1.out⟩
end Go.Proofs.YtikiplbhlohmdaaGreatDoor
