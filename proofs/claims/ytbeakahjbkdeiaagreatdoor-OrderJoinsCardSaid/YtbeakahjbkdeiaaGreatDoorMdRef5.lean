/- The laws' Few of a document's table, by walking its text. -/
import Derived.Test.YtbeakahjbkdeiaaGreatDoorAl1
import Derived.Test.YtbeakahjbkdeiaaGreatDoorMdOwn
import Derived.Test.YtbeakahjbkdeiaaGreatDoorRwOpen
import Derived.Test.YtbeakahjbkdeiaaGreatDoorRwLines
import Derived.Deep.DeepCutAuto
import Derived.BigRegion
import Derived.Test.YtbeakahjbkdeiaaGreatDoorFaCh
import Derived.Deep.RegionWith
import Derived.Deep.RegionHeld3
import Derived.BigQuiet
import Derived.Deep.QuietTactic
set_option linter.unusedVariables false
set_option linter.unusedSimpArgs false
namespace Go.Proofs.YtbeakahjbkdeiaaGreatDoor
open Go.RowKit
set_option linter.unusedSimpArgs false
set_option linter.unusedVariables false
def Md.w32 (x:Int):Int:=IntKind.i32.wrap x
theorem Md.w32_bd (x:Int) : -2147483648≤Md.w32 x∧Md.w32 x≤2147483647:=by
 unfold Md.w32
 rw[XE]
 omega
theorem Md.w32_64 (x:Int):IntKind.i64.wrap (Md.w32 x)=Md.w32 x:=by
 have:=Md.w32_bd x
 rw[Z1]
 omega
def Md.fewR (r:Rw.Row):Rw.Row:=(Md.w32 r.1,r.2.1,(r.2.2.take 4).map Md.w32)
def Md.fewT (T:List Rw.Row):List Rw.Row:=(T.take 20).map Md.fewR
def Md.fewE (E:List Int):List Int:=(E.take 30).map Ch.K
theorem Md.fewT_get {T:List Rw.Row} {j:Nat} {r:Rw.Row} (h:T[j]?=some r) (hj:j<20):(Md.fewT T)[j]?=some (Md.fewR r):=by
 unfold Md.fewT
 rw[Zl,Ys,Zv hj,h]
 rfl
theorem Md.fewE_get {E:List Int} {j:Nat} {x:Int} (h:E[j]?=some x) (hj:j<30):(Md.fewE E)[j]?=some (Ch.K x):=by
 unfold Md.fewE
 rw[Zl,Ys,Zv hj,h]
 rfl
theorem Md.grown_below {w w' w'':World} {row:Option Nat} (h:w.grownBy w' row) (hb:Below w.heap.size w' w''):w.grownBy w'' row :=
 ⟨hb.os.trans h.os,hb.tape.trans h.tape,hb.output.trans h.output,Zh h.size hb.size,fun k hk hr=>(hb.block k hk).trans (h.block k hk hr)⟩
def Md.apart (lo hi:Nat) (ads:List (Option Addr × Nat)):Prop :=
 (ads.Pairwise fun a b=>∀p q,a.1=some p→b.1=some q→p.block<q.block)∧∀a∈ads,∀p,a.1=some p→lo≤p.block∧p.block<hi
theorem Md.apart.nil (lo hi:Nat):Md.apart lo hi []:=⟨List.Pairwise.nil,fun a h=>by simp at h⟩
theorem Md.apart.app {lo hi hi':Nat} {ads:List (Option Addr × Nat)} (h:Md.apart lo hi ads) (hh:hi≤hi') (hl:lo≤hi) {a:Option Addr × Nat} (ha:∀p,a.1=some p→hi≤p.block∧p.block<hi'):Md.apart lo hi' (ads++[a]):=by
 refine⟨List.pairwise_append.2 ⟨h.1,by simp,fun x hx y hy p q hp hq=>?_⟩,fun x hx p hp=>?_⟩
 · simp only[Zy]at hy
   subst hy
   have h1:=(h.2 x hx p hp).2
   have h2:=(ha q hq).1
   omega
 · rcases List.mem_append.1 hx with hx|hx
   · have:=h.2 x hx p hp
     omega
   · simp only[Zy]at hx
     subst hx
     have:=ha p hp
     omega
def Md.caps (rs:List Rw.Row) (ads:List (Option Addr × Nat)):Prop:=∀(i:Nat) (r:Rw.Row) (a:Option Addr × Nat),rs[i]?=some r→ads[i]?=some a→r.2.2.length≤a.2
theorem Md.caps.app {rs:List Rw.Row} {ads:List (Option Addr × Nat)} (h:Md.caps rs ads) (hl:ads.length=rs.length) {r:Rw.Row} {a:Option Addr × Nat} (hr:r.2.2.length≤a.2):Md.caps (rs++[r]) (ads++[a]):=by
 intro i q x hq hx
 rcases ZY i rs.length with hi|hi
 · rw[ZU hi]at hq
   rw[ZU (by omega)]at hx
   exact h i q x hq hx
 · have aa:=(List.getElem?_eq_some_iff.1 hq).1
   rw[Zi,Yq]at aa
   obtain rfl:i=rs.length:=by omega
   rw[ZF (Zb _),Yu]at hq
   rw[ZF (by omega),show rs.length-ads.length=0 by omega]at hx
   simp at hq hx
   subst hq hx
   exact hr
theorem Md.own_cap {w:World} {base:Nat} {e:TypeId} {size n m c:Nat} {A:Option Addr} {xs:List Value} (h:w.ownsRow base e size (.slice A m c) n xs):n≤c:=by
 rcases h.2 with ⟨hv,h0⟩|⟨g,cap,aa,hv,_,_,hc,_⟩
 · omega
 · simp only[ZV]at hv
   obtain⟨_,_,rfl⟩:=hv
   exact hc
def Md.DocO (w:World) (v:Value) (lo:Nat) (T:List Rw.Row) (E:List Int):Prop :=
 ∃A c XA xc ads,v=Md.tv A T.length c XA E.length xc∧(ads.length=T.length∧Md.caps T ads)∧w.ownsRow lo 43 3 (.slice A T.length c) T.length (Rw.flI T ads)∧Rw.MapsI w T ads ∧
  ∃mid,lo≤mid∧mid≤w.heap.size∧Md.apart lo mid ads∧w.ownsRow mid 3 1 (.slice XA E.length xc) E.length (E.map (Value.int .i64))
set_option maxRecDepth 100000 in
set_option maxHeartbeats 4000000 in
theorem Md.few_any (A XA:Option Addr) (n c xn xc:Nat) (T:List Rw.Row) (E:List Int) (w:World) (hn:T.length=n) (hxn:E.length=xn) (hnb:n≤maxLen) (hxb:xn≤maxLen) (e5:∀r∈T,r.2.2.length≤maxLen) (h2:Rw.SeesI w A T) (hX:Sl w w.heap.size XA (E.map (Value.int .i64))) :
 Calls Tryz.prog 159 #[.agg #[.slice A n c,.slice XA xn xc]] w fun e w'=>∃v,e=.returned v∧Md.DocO w' v w.heap.size (Md.fewT T) (Md.fewE E)∧Below w.heap.size w w':=by
 obtain⟨j0,hj0,hl,gv,gu⟩:=Yf infoRowI
 obtain⟨i0,ek,ey,fw,ei⟩:=Yf infoInt
 obtain⟨wa,b2⟩:∃wa,((w.alloc (.cells #[.slice A n c,.slice XA xn xc] 31)).alloc (.cells #[.slice none 0 0,.slice none 0 0] 31)).alloc (.cells #[.slice none 0 0,.slice none 0 0] 31)=wa:=⟨_,rfl⟩
 have fu:Below w.heap.size w wa:=by rw[←b2];exact (((Zd _ _).alloc (Zb _) _).alloc (by simp) _).alloc (by simp;omega) _
 have cb:Rw.At wa w.heap.size 31 [.slice A n c,.slice XA xn xc]:=by
  rw[←b2];exact ((Rw.At.new w 31 [.slice A n c,.slice XA xn xc]).alloc _).alloc _
 have ag:Rw.At wa (w.heap.size+1) 31 [.slice none 0 0,.slice none 0 0]:=by
  have h:=Rw.At.new (w.alloc (.cells #[.slice A n c,.slice XA xn xc] 31)) 31 [.slice none 0 0,.slice none 0 0]
  rw[ZD]at h
  rw[←b2]
  exact h.alloc _
 have aq:Rw.At wa (w.heap.size+2) 31 [.slice none 0 0,.slice none 0 0]:=by
  have h:=Rw.At.new ((w.alloc (.cells #[.slice A n c,.slice XA xn xc] 31)).alloc (.cells #[.slice none 0 0,.slice none 0 0] 31)) 31 [.slice none 0 0,.slice none 0 0]
  rw[ZD,ZD]at h
  rw[←b2]
  exact h
 have hz:w.heap.size+2<wa.heap.size:=aq.lt
 obtain⟨M,hM⟩:∃M,Md.fewT T=M:=⟨_,rfl⟩
 obtain⟨F,hF⟩:∃F,Md.fewE E=F:=⟨_,rfl⟩
 have fp:M.length=min n 20:=by rw[←hM];unfold Md.fewT;rw[List.length_map,List.length_take,hn];omega
 have eh:F.length=min xn 30:=by rw[←hF];unfold Md.fewE;rw[List.length_map,List.length_take,hxn];omega
 rw[hM,hF]
 have HM:=Za hM
 have HF:=Za hF
 have ej:=Za fp
 have gh:=Za eh
 have gg:=Za b2
 have gm:=Za fu
 have HN:=Za hn
 have dk:=Za hxn
 have dt:=Za e5
 have dz:=Za h2
 have HX:=Za hX
 have ea:=Za cb
 clear b2 fu hn hxn e5 h2 hX cb hM hF fp eh
 go_enter Tryz.func159,Tryz.ntmps159
 go_upto_region 2 with (fail)
 rw[gg.out]
 go_wp2_with fail
 go_loopw [4] (fun i wr=>∃(j:Nat) (v:Value) (ads:List (Option Addr × Nat)),j≤min n 20∧i=.int .i64 j∧Rw.At wr (w.heap.size+1) 31 [.slice none 0 0,.slice none 0 0]∧Rw.At wr (w.heap.size+2) 31 [v,.slice none 0 0] ∧
  (ads.length=(M.take j).length∧Md.caps (M.take j) ads)∧wr.ownsRow (w.heap.size+3) 43 3 v j (Rw.flI (M.take j) ads)∧Rw.MapsI wr (M.take j) ads∧Md.apart (w.heap.size+3) wr.heap.size ads∧Below (w.heap.size+1) wa wr) (fun i _=>min n 20-(intOf i).toNat)
 case atStart=>exact⟨0,.slice none 0 0,[],Zz _,rfl,ag,aq,⟨rfl,fun i r a h=>by simp at h⟩,ZG _ _ _ _,fun i r a h=>by simp at h,Md.apart.nil _ _,Zd _ _⟩
 case round =>
  obtain⟨j,v,ads,hj,rfl,eu,fc,⟨cr,bj⟩,ah,bl,ef,a6⟩:=hrel
  have ez:w.heap.size+3≤wr.heap.size:=Zh hz a6.size
  have ha0:=ea.out.below' a6 (ZR _)
  have fk:=Za eu
  have cu:=Za fc
  have ax:=Za cr
  have bk:=Za bj
  have bf:=Za ah
  have bg:=Za bl
  have fe:=Za ef
  have du:=Za a6
  have fg:=Za ha0
  have en:Below w.heap.size w wr:=gm.out.trans (a6.mono (ZW _))
  have bh:=Za en
  have z0:=ha0.cell 0 rfl
  have gq:=ha0.lt
  obtain⟨tb,fh⟩:∃tb,decide (j<n∧j<20)=tb:=⟨_,rfl⟩
  have cp:=Za fh
  clear eu fc cr bj ah bl ef a6 ha0 en ag aq fh
  go_upto_region 3 with (fail)
  go_cut [16] (fun s wx=>s=.bool tb∧wx=wr)
  case first =>
   by_cases h1:j<n
   · have b9:(j:Int)<n:=by omega
     by_cases h2:j<20
     · have ch:(j:Int)<20:=by omega
       have aj:tb=true:=by rw[←cp.out];simp[h1,h2]
       subst aj
       clear h1 h2
       go_wp2_with fail
       go_meet
       exact⟨rfl,rfl⟩
     · have ch:¬(j:Int)<20:=by omega
       have aj:tb=false:=by rw[←cp.out];simp[h2]
       subst aj
       clear h1 h2
       go_wp2_with fail
       go_meet
       exact⟨rfl,rfl⟩
   · have b9:¬(j:Int)<n:=by omega
     have aj:tb=false:=by rw[←cp.out];simp[h1]
     subst aj
     clear h1
     go_wp2_with fail
     go_meet
     exact⟨rfl,rfl⟩
  case rest =>
   obtain⟨rfl,rfl⟩:=hcut
   obtain⟨wo,rfl⟩:∃wo:World,wo=wc:=⟨_,rfl⟩
   rcases tb with _|_
   · have fy:¬(j<n∧j<20):=Xq cp.out
     have gi:j=min n 20:=by omega
     have bc:M.take j=M:=Zj (by rw[ej.out];omega)
     have fo:M.length=j:=by rw[ej.out];omega
     have au:=bf.out
     have bb:=ax.out
     have ar:=bk.out
     have az:=bg.out
     rw[bc]at au bb az ar
     obtain⟨A8,c8,rfl⟩:=own_form au
     have ck:=Za au
     have cg:=Za (And.intro bb ar)
     have b8:=Za az
     have fj:=Za fo
     clear au bb ar az bc fo gi fy z0
     go_wp2_with fail
     go_loopw [7] (fun i wr=>∃(k:Nat) (u:Value),k≤min xn 30∧i=.int .i64 k∧Rw.At wr (w.heap.size+2) 31 [.slice A8 j c8,u]∧wr.ownsRow wo.heap.size 3 1 u k ((F.take k).map (Value.int .i64))∧wo.grownBy wr (some (w.heap.size+2))) (fun i _=>min xn 30-(intOf i).toNat)
     case atStart=>exact⟨0,.slice none 0 0,Zz _,rfl,cu.out,ZG _ _ _ _,Rw.grown_bel (Zd _ _)⟩
     case round =>
      obtain⟨k,u,hk,rfl,ec,ah,hg⟩:=hrel
      have gw:w.heap.size+2<wr.heap.size:=ec.lt
      have hzz:wo.heap.size≤wr.heap.size:=hg.size
      have h0:=fg.out.grown hg (by simp)
      have z1:=h0.cell 1 rfl
      have h9:=h0.lt
      have b7:=bh.out.trans (Rw.below_grown (b:=w.heap.size) hg bh.out.size fun q hq=>by cases hq;omega)
      obtain⟨kb,cq⟩:∃kb,decide (k<xn∧k<30)=kb:=⟨_,rfl⟩
      have a1:=Za cq
      have cx:=Za ec
      have ba:=Za ah
      have HG:=Za hg
      have bx:=Za b7
      clear cq ec ah hg h0 b7
      go_upto_region 12 with (fail)
      go_cut [79] (fun s wx=>s=.bool kb∧wx=wr)
      case first =>
       by_cases h1:k<xn
       · have b9:(k:Int)<xn:=by omega
         by_cases h2:k<30
         · have ch:(k:Int)<30:=by omega
           have aj:kb=true:=by rw[←a1.out];simp[h1,h2]
           subst aj
           clear h1 h2
           go_wp2_with fail
           go_meet
           exact⟨rfl,rfl⟩
         · have ch:¬(k:Int)<30:=by omega
           have aj:kb=false:=by rw[←a1.out];simp[h2]
           subst aj
           clear h1 h2
           go_wp2_with fail
           go_meet
           exact⟨rfl,rfl⟩
       · have b9:¬(k:Int)<xn:=by omega
         have aj:kb=false:=by rw[←a1.out];simp[h1]
         subst aj
         clear h1
         go_wp2_with fail
         go_meet
         exact⟨rfl,rfl⟩
      case rest =>
       obtain⟨rfl,rfl⟩:=hcut
       obtain⟨wq,rfl⟩:∃wq:World,wq=wc:=⟨_,rfl⟩
       rcases kb with _|_
       · have dx:¬(k<xn∧k<30):=Xq a1.out
         have b3:F.length=k:=by rw[gh.out];omega
         have bc:F.take k=F:=Zj (by rw[b3];omega)
         have ah:=ba.out
         rw[bc]at ah
         obtain⟨A9,c9,rfl⟩:=own_form ah
         have aq:=cx.out
         have ag:=fk.out.grown HG.out (by simp)
         have p0:=aq.cell 0 rfl
         have p1:=aq.cell 1 rfl
         have r0:=ag.cell 0 rfl
         have r1:=ag.cell 1 rfl
         have ih:=ag.frozen 0
         have ig:=ag.frozen 1
         have cm:=Za ag
         have cj:=Za ah
         have e0:=Za b3
         have il:=ag.lt
         clear dx b3 bc ah ag aq z1
         go_wp2_with fail
         have k1:=cm.out.set 0 (.slice A8 j c8)
         have k2:=k1.set 1 (.slice A9 k c9)
         refine Yy (Rw.results1 rfl _ _ (w.heap.size+1) _ _ _ _ rfl k2 Tryz.underlying31 rfl (by kernel_rfl)) rfl ⟨_,rfl,⟨A8,c8,A9,c9,ads,?_,cg.out,?_,?_,wo.heap.size,by omega,by rw[ZJ,ZJ];omega,?_,?_⟩,?_⟩
         · rw[fj.out,e0.out];rfl
         · rw[fj.out]
           exact own_base (Rw.own_grown (Rw.own_grown (Rw.own_grown ck.out (by omega) HG.out) (by omega) (Rw.grown_set (w.heap.size+1) 0 _)) (by omega) (Rw.grown_set (w.heap.size+1) 1 _)) (by omega)
         · exact ((b8.out.grown HG.out (by intro q hq;cases hq;exact cu.out.not (by decide))).grown (Rw.grown_set (w.heap.size+1) 0 _) (by intro q hq;cases hq;exact cm.out.not (by decide))).grown (Rw.grown_set (w.heap.size+1) 1 _) (by intro q hq;cases hq;exact k1.not (by decide))
         · have:=fe.out
           exact⟨this.1,fun a ha p hp=>by have h:=this.2 a ha p hp;omega⟩
         · rw[e0.out]
           exact Rw.own_grown (Rw.own_grown cj.out (by omega) (Rw.grown_set (w.heap.size+1) 0 _)) (by omega) (Rw.grown_set (w.heap.size+1) 1 _)
         · exact (bx.out.setCell (p:=⟨w.heap.size+1,0,none⟩) (ZW _) _).setCell (p:=⟨w.heap.size+1,1,none⟩) (ZW _) _
       · obtain⟨cn,dc⟩:k<xn∧k<30:=Yd a1.out
         obtain⟨x,hx⟩:∃x,E[k]?=some x:=⟨_,Zc (by rw[dk.out];exact cn)⟩
         obtain⟨ab,ao,rfl,cv,ct⟩:=HX.out (by rw[Zf,dk.out];omega)
         have hc:=ct k (by rw[Zf,dk.out];exact cn)
         rw[Zl,hx,Zn,←(bcell bx.out).1 _ _ cv]at hc
         have b3:F[k]?=some (Ch.K x):=by rw[←HF.out];exact Md.fewE_get hx dc
         have ft:=Ch.char_any x
         have e7:=(Ch.isC_iff _).1 (Ch.K_is x)
         have af:(F.take (k+1)).map (Value.int .i64)=(F.take k).map (Value.int .i64)++[.int .i64 (Ch.K x)]:=by
          rw[Zr,b3];simp
         obtain⟨y,hy⟩:∃y,Ch.K x=y:=⟨_,rfl⟩
         rw[hy]at e7 af
         simp only[hy]at ft
         have dr:IntKind.i64.wrap y=y:=by rw[Z1];omega
         have kI:(k:Int)<xn:=by omega
         have k0:(0:Int)≤(k:Int):=by omega
         have ed:ab<wq.heap.size:=Ze cv bx.out.size
         have q0:=cx.out.cell 0 rfl
         have q1:=cx.out.cell 1 rfl
         have ak:=(ba.out.alloc (.cells #[.int .i64 y] 3)).drew
         have bw:Rw.At (wq.alloc (.cells #[.int .i64 y] 3)).drew (w.heap.size+2) 31 [.slice A8 j c8,u]:=cx.out.alloc _
         have dp:=cell1 wq (.int .i64 y) 3 wq.heap.size rfl
         have ay:wo.heap.size≤(wq.alloc (.cells #[.int .i64 y] 3)).drew.heap.size:=by simp;omega
         have cd:Below wq.heap.size wq (wq.alloc (.cells #[.int .i64 y] 3)).drew:=((Zd _ _).alloc (Zb _) _).drew
         have cc:=Za ak
         have dh:=Za af
         have dm:=Za (Rw.own_ne ba.out (w.heap.size+2) (by omega))
         have bp:=Za cd
         clear cd hx ct af ak b3 e7 hy
         go_upto_region 14 with (fail)
         go_region_law
          (first
            | (refine step_quiet _ (by rfl) 47 _ _ (by rfl) (C.enter Tryz.func47 (by kernel_rfl) rfl) (.int .i64 x) (by rfl) _ (ft _) ?_)
            | (refine step_push1 _ rfl _ _ _ rfl wo.heap.size 3 i0 _ 8 Tryz.underlying29 ek ey fw ei rfl u k _ rfl cc.out _ rfl wq.heap.size rfl dp (by simp only[maxLen];omega) (by omega) ay ?_;intro v1 w4 ai dy aa;have ap:=bw.grown aa dm.out;have ib:=ap.cell 0 rfl;have ik:=ap.cell 1 rfl;have ic:=ap.frozen 1;have ie:=ap.lt;obtain⟨A6,c6,rfl⟩:=own_form ai)
            | fail)
         all_goals
          go_wp2_with fail
          exact⟨⟨k+1,_,by omega,by go_num,ap.set 1 _,by rw[dh.out];exact Rw.own_grown ai (by omega) (Rw.grown_set _ 1 _),
           Rw.grown_trans (Md.grown_below HG.out ((bp.out.mono hzz).trans dy)) (Rw.grown_set _ 1 _)⟩,by simp[intOf];omega⟩
   · obtain⟨gp,gz⟩:j<n∧j<20:=Yd cp.out
     obtain⟨r,hr⟩:∃r,T[j]?=some r:=⟨_,Zc (by rw[HN.out];exact gp)⟩
     have b4:=dt.out r (Zk hr)
     obtain⟨b,o,a,gy,hb,ew,e6,eo,dn⟩:=dz.out.row hr
     have c0:=((bcell bh.out).1 b (o+j*3) hb).trans ew
     have c1:=((bcell bh.out).1 b (o+j*3+1) hb).trans e6
     have c2:=((bcell bh.out).1 b (o+j*3+2) hb).trans eo
     have ho:b<wo.heap.size:=Ze hb bh.out.size
     obtain⟨rc,rk,rm⟩:=r
     obtain⟨aA,ac⟩:=a
     simp only at c0 c1 c2 dn b4
     obtain⟨ml,br⟩:∃k,rm.length=k:=⟨_,rfl⟩
     rw[br]at c2 b4
     obtain⟨q,hq⟩:∃q,IntKind.i32.wrap rc=q:=⟨_,rfl⟩
     have fz:IntKind.i64.wrap q=q:=by rw[←hq];exact Md.w32_64 rc
     have jI:(j:Int)<n:=by omega
     have ia:(0:Int)≤j:=by omega
     have HR:=Za hr
     have aw:=Za br
     have dw:=Za (dn.below bh.out (Zb _))
     have HQ:=Za hq
     subst gy
     clear ew e6 eo dn hr br
     go_upto_region 5 with (fail)
     go_cut [5] (fun s wx=>s=.pointer (some ⟨wo.heap.size,0,none⟩)∧Rw.At wx wo.heap.size 43 [.int .i64 q,.int .i64 rk,.slice none 0 0]∧Below wo.heap.size wo wx)
     case first =>
      go_region
      all_goals
       go_wp2_with fail
       go_meet
       exact⟨rfl,Rw.At.new _ 43 [.int .i64 q,.int .i64 rk,.slice none 0 0],((Zd _ _).drew.alloc (Zb _) _)⟩
     case rest =>
      obtain⟨rfl,bq,bz⟩:=hcut
      obtain⟨wA,rfl⟩:∃wA:World,wA=wc:=⟨_,rfl⟩
      have iq:wo.heap.size<wA.heap.size:=bq.lt
      have gj:=Za bz
      have C2:=Za c2
      clear c0 c1 c2 z0
      go_wp2_with fail
      go_loopw [6] (fun i wq=>∃(k:Nat) (u:Value),k≤min ml 4∧i=.int .i64 k∧Rw.At wq wo.heap.size 43 [.int .i64 q,.int .i64 rk,u]∧wq.ownsRow (wo.heap.size+1) 3 1 u k (((rm.take k).map Md.w32).map (Value.int .i64))∧Below wo.heap.size wo wq) (fun i _=>min ml 4-(intOf i).toNat)
      case atStart=>exact⟨0,.slice none 0 0,Zz _,rfl,bq,ZG _ _ _ _,bz⟩
      case round =>
       obtain⟨k,u,hk,rfl,bu,ae,cw⟩:=hrel
       obtain⟨wq,rfl⟩:∃wq:World,wq=wr:=⟨_,rfl⟩
       have gx:wo.heap.size<wq.heap.size:=bu.lt
       have di:=fg.out.below cw
       have z0:=di.cell 0 rfl
       have gf:=di.lt
       have hh:b<wq.heap.size:=by omega
       have c2:=((bcell cw).1 b (o+j*3+2) ho).trans C2.out
       obtain⟨kb,cq⟩:∃kb,decide (k<ml∧k<4)=kb:=⟨_,rfl⟩
       have a1:=Za cq
       have bs:=Za bu
       have a7:=Za ae
       have cf:=Za cw
       clear cq di bu ae cw bq bz
       go_upto_region 7 with (fail)
       go_cut [46] (fun s wx=>s=.bool kb∧wx=wq)
       case first =>
        by_cases h1:k<ml
        · have b9:(k:Int)<ml:=by omega
          by_cases h2:k<4
          · have ch:(k:Int)<4:=by omega
            have aj:kb=true:=by rw[←a1.out];simp[h1,h2]
            subst aj
            clear h1 h2
            go_wp2_with fail
            go_meet
            exact⟨rfl,rfl⟩
          · have ch:¬(k:Int)<4:=by omega
            have aj:kb=false:=by rw[←a1.out];simp[h2]
            subst aj
            clear h1 h2
            go_wp2_with fail
            go_meet
            exact⟨rfl,rfl⟩
        · have b9:¬(k:Int)<ml:=by omega
          have aj:kb=false:=by rw[←a1.out];simp[h1]
          subst aj
          clear h1
          go_wp2_with fail
          go_meet
          exact⟨rfl,rfl⟩
       case rest =>
        obtain⟨rfl,rfl⟩:=hcut
        obtain⟨wq,rfl⟩:∃wq:World,wq=wc:=⟨_,rfl⟩
        rcases kb with _|_
        · have dx:¬(k<ml∧k<4):=Xq a1.out
          have e8:(rm.take k).map Md.w32=(rm.take 4).map Md.w32:=by
           by_cases h4:k=4
           · rw[h4]
           · rw[Zj (by rw[aw.out];omega),Zj (by rw[aw.out];omega)]
          obtain⟨R,hR⟩:∃R,Md.fewR (rc,rk,rm)=R:=⟨_,rfl⟩
          have et:R.1=q:=by rw[←hR];exact HQ.out
          have e9:R.2.1=rk:=by rw[←hR];rfl
          have cz:R.2.2=(rm.take k).map Md.w32:=by rw[←hR,e8];rfl
          have ep:R.2.2.length=k:=by rw[cz,Zf,Zm,aw.out];omega
          have fm:M[j]?=some R:=by rw[←HM.out,←hR];exact Md.fewT_get HR.out gz
          have ae:=a7.out
          rw[←cz]at ae
          obtain⟨A6,c6,rfl⟩:=own_form ae
          have dl:Below wq.heap.size wq (wq.alloc (.cells #[.int .i64 q,.int .i64 rk,.slice A6 k c6] 43)):=(Zd _ _).alloc (Zb _) _
          have b6:=cf.out.trans (dl.mono cf.out.size)
          have bn:=own_below bf.out b6 (Zb _)
          have bt:=cu.out.below b6
          have bm:=cu.out.below cf.out
          have p0:=bm.cell 0 rfl
          have ij:=bt.cell 0 rfl
          obtain⟨x0,x1,x2,_,_,_⟩:=bs.out.three
          have fx:=bg.out.below b6
          have fq:=(Slt.of_own ae).below dl
          have eb:=Za (Sl.lit (w:=wq.alloc (.cells #[.int .i64 q,.int .i64 rk,.slice A6 k c6] 43)) (A:=some ⟨wq.heap.size,0,none⟩) (xs:=[.int .i64 q,.int .i64 rk,.slice A6 k c6]) rfl 43 (0,0) (ZT wq _))
          have ee:w.heap.size+3≤(wq.alloc (.cells #[.int .i64 q,.int .i64 rk,.slice A6 k c6] 43)).heap.size:=by simp;omega
          have a8:=Za bn
          have c7:=Za bt
          have h6:=Za fx
          have h5:=Za fq
          have eg:=Za b6
          have bi:=Za ae
          have gb:=Za fm
          have gl:=Za et
          have h3:=Za e9
          have e4:=Za ep
          have dv:=Za (Rw.own_ne bf.out (w.heap.size+2) (by omega))
          have cy:=Za (Rw.own_ne bf.out (w.heap.size+1) (by omega))
          have gw:w.heap.size+2<wq.heap.size:=by omega
          clear e8 hR et e9 cz ep fm ae dl b6 bn bt bm fx fq dx z0 c2
          go_wp2_with (first|(at_builtin;refine wpList_appendSl _ rfl _ _ _ rfl (w.heap.size+3) 43 j0 _ 3 40 Tryz.underlying28 hj0 hl gv gu rfl (by omega) v j _ rfl a8.out _ (some ⟨wq.heap.size,0,none⟩) 1 1 [.int .i64 q,.int .i64 rk,.slice A6 k c6] rfl rfl eb.out (by simp[Value.oneCell']) (by simp only[maxLen];omega) (by omega) ee ?_;intro v1 w6 bo er aa;have av:=c7.out.grown aa dv.out;have y0:=av.cell 0 rfl;have ir:=av.frozen 0;have im:=av.lt;obtain⟨A8,c8,rfl⟩:=own_form bo)|fail)
          have e1:=((h6.out).grown aa (Rw.own_not a8.out (by decide))).grown (Rw.grown_set (w.heap.size+2) 0 (.slice A8 (j+1) c8)) (by intro q hq;cases hq;exact av.not (by decide))
          have e2:=((h5.out).grown aa (Rw.own_not a8.out (by decide))).grown (Rw.grown_set (w.heap.size+2) 0 (.slice A8 (j+1) c8)) (by intro q hq;cases hq;exact av.not (by decide))
          have e3:=Rw.own_grown bo (ZR (w.heap.size+2)) (Rw.grown_set (w.heap.size+2) 0 (.slice A8 (j+1) c8))
          have bc:M.take (j+1)=M.take j++[R]:=by rw[Zr,gb.out];rfl
          have h7:wq.heap.size<w6.heap.size:=Ze (by simp) er.size
          refine⟨⟨j+1,_,ads++[(A6,c6)],by omega,by go_num,(((fk.out.below eg.out).grown aa cy.out).other (by omega) _),av.set 0 _,⟨by rw[bc];simp[ax.out],by rw[bc];exact bk.out.app ax.out (by rw[e4.out];exact Md.own_cap bi.out)⟩,?_,?_,?_,?_⟩,by simp[intOf];omega⟩
          · rw[bc,Rw.flI_app _ _ R (A6,c6) ax.out,gl.out,h3.out,show R.2.2.length=k from e4.out]
            exact e3
          · rw[bc]
            exact e1.app ax.out e2
          · refine fe.out.app (hi':=(w6.setCell ⟨w.heap.size+2,0,none⟩ (.slice A8 (j+1) c8)).heap.size) ?_ ez ?_
            · rw[ZJ];omega
            · intro p hp
              simp only at hp
              subst hp
              have:=bi.out.lt p.block rfl
              rw[ZJ]
              omega
          · have b1:=du.out.trans (eg.out.mono (Zh (by omega) ez))
            exact (b1.trans (er.mono (by omega))).setCell (p:=⟨w.heap.size+2,0,none⟩) (by show w.heap.size+1≤w.heap.size+2;omega) _
        · obtain⟨cn,h8⟩:k<ml∧k<4:=Yd a1.out
          obtain⟨x,hx⟩:∃x,rm[k]?=some x:=⟨_,Zc (by rw[aw.out];exact cn)⟩
          obtain⟨ab,ao,rfl,df,ct⟩:=dw.out (by rw[Zf,aw.out];omega)
          have cv:ab<wo.heap.size:=Ze df bh.out.size
          have hc:=ct k (by rw[Zf,aw.out];exact cn)
          rw[Zl,hx,Zn,←(bcell cf.out).1 _ _ cv]at hc
          have af:((rm.take (k+1)).map Md.w32).map (Value.int .i64)=((rm.take k).map Md.w32).map (Value.int .i64)++[.int .i64 (Md.w32 x)]:=by
           rw[Zr,hx];simp
          obtain⟨y,hy⟩:∃y,IntKind.i32.wrap x=y:=⟨_,rfl⟩
          have dr:IntKind.i64.wrap y=y:=by rw[←hy];exact Md.w32_64 x
          rw[show Md.w32 x=y from hy]at af
          have kI:(k:Int)<ml:=by omega
          have k0:(0:Int)≤(k:Int):=by omega
          have ed:ab<wq.heap.size:=by omega
          obtain⟨m1,m2,m3,m4,m5,m6⟩:=bs.out.three
          have ak:=(a7.out.alloc (.cells #[.int .i64 y] 3)).drew
          have bw:Rw.At (wq.alloc (.cells #[.int .i64 y] 3)).drew wo.heap.size 43 [.int .i64 q,.int .i64 rk,u]:=bs.out.alloc _
          have dp:=cell1 wq (.int .i64 y) 3 wq.heap.size rfl
          have ay:wo.heap.size+1≤(wq.alloc (.cells #[.int .i64 y] 3)).drew.heap.size:=by simp;omega
          have cd:Below wq.heap.size wq (wq.alloc (.cells #[.int .i64 y] 3)).drew:=((Zd _ _).alloc (Zb _) _).drew
          have b5:=Za ak
          have dh:=Za af
          have dm:=Za (Rw.own_ne a7.out wo.heap.size (ZR _))
          have bp:=Za cd
          clear cd hx ct af ak
          go_upto_region 9 with (fail)
          go_region_law
           (first
             | (refine step_push1 _ rfl _ _ _ rfl (wo.heap.size+1) 3 i0 _ 8 Tryz.underlying29 ek ey fw ei rfl u k _ rfl b5.out _ rfl wq.heap.size rfl dp (by simp only[maxLen];omega) (by omega) ay ?_;intro v1 w4 ai dy aa;have ap:=bw.grown aa dm.out;obtain⟨z1,z2,z3,z4,z5,z6⟩:=ap.three;obtain⟨A6,c6,rfl⟩:=own_form ai)
             | fail)
          all_goals
           go_wp2_with fail
           exact⟨⟨k+1,_,by omega,by go_num,ap.set 2 _,by rw[dh.out];exact Rw.own_grown ai (ZR _) (Rw.grown_set _ 2 _),
            ((cf.out.trans (bp.out.mono (Z3 gx))).trans (dy.mono (ZW _))).setCell (p:=⟨wo.heap.size,2,none⟩) (Zb _) _⟩,by simp[intOf];omega⟩
theorem Md.mp_split (T:List Rw.Row) (c:Int):(∃a b,Hg.splitK c=[a,b]∧Md.mp T c=[a,b])∨(∃a b t,Hg.splitK c=[a,b,t]∧Md.mp T c=[c-(t-4519),t]∧0≤t∧t≤60000∧0≤c∧c≤60000)∨(Hg.splitK c=[]∧Md.mp T c=Md.rmp T c):=by
 by_cases h4:Hg.ofK c=4
 · have hs:=Hg.ofK_syl c (.inl h4)
   refine .inl ⟨4352+(c-44032)/588,4449+(c-44032)%588/28,?_,?_⟩
   · unfold Hg.splitK
     grind
   · unfold Md.mp
     rw[Hg.pairK_four c h4]
     simp
 · by_cases h5:Hg.ofK c=5
   · have hs:=Hg.ofK_syl c (.inr h5)
     refine .inr (.inl ⟨4352+(c-44032)/588,4449+(c-44032)%588/28,4519+(c-44032)%28,?_,?_,by omega,by omega,by omega,by omega⟩)
     · unfold Hg.splitK
       grind
     · unfold Md.mp
       rw[Hg.pairK_five c h5]
       simp
       omega
   · refine .inr (.inr ⟨?_,?_⟩)
     · unfold Hg.splitK
       grind
     · unfold Md.mp
       rw[Hg.pairK_none c h4 h5]
       simp
theorem Md.sl_of_lit {w:World} {e:TypeId} {xs:List Value}:Sl (w.alloc (.cells xs.toArray e)) (w.alloc (.cells xs.toArray e)).heap.size (some ⟨w.heap.size,0,none⟩) xs:=Sl.lit rfl e (0,0) (ZT w _)
set_option maxRecDepth 100000 in
set_option maxHeartbeats 2000000 in
theorem Md.rmap_any (v:Value) (T:List Rw.Row) (E:List Int) (d:Int) (w:World) (bi:T.length≤1000000) (h:Md.Doc w v T E) (h3 : -2147483648≤d) (h4:d≤2147483647) :
 Calls Tryz.prog 40 #[v,.int .i64 d] w (RetInts .i64 (Md.mp T d) w):=by
 obtain⟨A,c,XA,xc,rfl,h2,hX⟩:=h
 obtain⟨n,hn⟩:∃k,T.length=k:=⟨_,rfl⟩
 obtain⟨xn,hxn⟩:∃k,E.length=k:=⟨_,rfl⟩
 rw[hn]at bi ⊢
 rw[hxn]
 have ax:=Md.mp_split T d
 obtain⟨res,ak⟩:∃k,Md.mp T d=k:=⟨_,rfl⟩
 rw[ak]at ax ⊢
 have aw:Below w.heap.size w (w.alloc (.cells #[.slice A n c,.slice XA xn xc] 31)):=(Zd _ _).alloc (Zb _) _
 have bc:Rw.At (w.alloc (.cells #[.slice A n c,.slice XA xn xc] 31)) w.heap.size 31 [.slice A n c,.slice XA xn xc]:=Rw.At.new w 31 [.slice A n c,.slice XA xn xc]
 have HP:=Za (Hg.parts_any d (w.alloc (.cells #[.slice A n c,.slice XA xn xc] 31)) h3 h4)
 have a8:=Za aw
 have af:=Za (h2.below aw)
 have bg:=Za bc
 have HN:=Za hn
 have ap:=Za ax
 obtain⟨sp,ah⟩:∃l,Hg.splitK d=l:=⟨_,rfl⟩
 rw[ah]at HP ap
 clear aw bc hn hxn ak h2 hX ax ah
 unfold Md.tv
 go_enter Tryz.func40,Tryz.ntmps40
 go_wp2_with fail
 refine HP.out.mono ?_
 rintro e w1 ⟨A1,c1,rfl,a6,ar⟩
 have ba:=Za a6
 have ae:=Za (a8.out.trans (ar.mono a8.out.size))
 have au:=Za (bg.out.below ar)
 have ai:=Za (af.out.below ar)
 clear a6 ar HP bg af
 rcases ap.out with ⟨a,b,hs,hm⟩|⟨a,b,t,hs,hm,t0,t1,d0,d1⟩|⟨hs,hm⟩
 · subst hs hm
   clear ap
   go_wp2_with fail
   go_ret
   exact⟨A1,c1,rfl,ba.out,ae.out⟩
 · subst hs hm
   obtain⟨ab,ao,hA,bp,bh⟩:=ba.out (by simp)
   have hc:w1.cell? ⟨ab,ao+2,none⟩=some (.int .i64 t):=by simpa using bh 2 (by simp)
   have e1:IntKind.i64.wrap (t-4519)=t-4519:=by rw[Z1];omega
   have e2:IntKind.i64.wrap (d-(t-4519))=d-(t-4519):=by rw[Z1];omega
   have bn:w1.drew.cell? ⟨ab,ao+2,none⟩=some (.int .i64 t):=hc
   subst hA
   clear ap bh
   go_wp2_with fail
   go_region
   all_goals
    go_wp2_with fail
    go_ret
    have bm:Below w1.heap.size w1 (w1.alloc (.cells #[.int .i64 (d-(t-4519)),.int .i64 t] 3)).drew:=((Zd _ _).alloc (Zb _) _).drew
    exact⟨_,_,rfl,(Md.sl_of_lit (w:=w1) (e:=3) (xs:=[.int .i64 (d-(t-4519)),.int .i64 t])),ae.out.trans (bm.mono ae.out.size)⟩
 · subst hs hm
   clear ap
   have aq:=au.out
   have z0:=aq.cell 0 rfl
   clear aq
   go_wp2_with fail
   go_loopw [30] (fun i wr=>∃k:Nat,k≤n∧i=.int .i64 k∧(∀q∈T.take k,q.1≠d)∧Below w1.heap.size w1 wr) (fun i _=>n-(intOf i).toNat)
   case atStart=>exact⟨0,Zz _,rfl,by simp,Zd _ _⟩
   case round =>
    obtain⟨k,hk,rfl,bb,aa⟩:=hrel
    have av:=Za bb
    have a1:=Za aa
    clear bb
    by_cases hlt:k<n
    · obtain⟨r,hr⟩:∃r,T[k]?=some r:=⟨_,Zc (by rw[HN.out];exact hlt)⟩
      obtain⟨b,o,a,bj,hb,c0,c1,c2,bf⟩:=(ai.out.below aa).row hr
      have bo:(k:Int)<n:=by omega
      have ag:=Rw.At.new wr 43 [.int .i64 r.1,.int .i64 r.2.1,.slice a.1 r.2.2.length a.2]
      obtain⟨x0,x1,x2,_,_,_⟩:=ag.three
      have az:Below wr.heap.size wr (wr.alloc (.cells #[.int .i64 r.1,.int .i64 r.2.1,.slice a.1 r.2.2.length a.2] 43)):=(Zd _ _).alloc (Zb _) _
      have bk:=Za (bf.below az az.size)
      have a7:=Za (aa.alloc aa.size (.cells #[.int .i64 r.1,.int .i64 r.2.1,.slice a.1 r.2.2.length a.2] 43))
      have HR:=Za hr
      subst bj
      clear hr bf aa ag az
      rcases hxd:(r.1 == d) with _|_
      · have bl:=Lib.hid (Md.no_succ HR.out av.out (by simpa using hxd))
        go_wp2_with fail
        exact⟨⟨k+1,by omega,by go_num,bl.out,a7.out⟩,by simp[intOf];omega⟩
      · have aj:Md.rmp T d=r.2.2:=by
         unfold Md.rmp
         rw[Md.find_take HR.out av.out (beq_iff_eq.1 hxd)]
         rfl
        have ay:=Za aj
        clear aj
        go_wp2_with fail
        go_ret
        rw[ay.out]
        exact⟨a.1,a.2,rfl,bk.out,ae.out.trans (a7.out.mono ae.out.size)⟩
    · obtain rfl:n=k:=by omega
      have aj:Md.rmp T d=[]:=by
       unfold Md.rmp
       rw[Md.find_no (by rw[HN.out];exact Zb _) av.out]
       rfl
      have ay:=Za aj
      clear aj hlt
      go_wp2_with fail
      go_ret
      rw[ay.out]
      exact⟨none,0,rfl,Sl.nil _ _ _,ae.out.trans (a1.out.mono ae.out.size)⟩
def Md.RetStep (l:List Int) (b:Bool) (w:World) (e:Ending) (w':World):Prop :=
 ∃A c,e=.returned (.tuple #[.slice A l.length c,.bool b])∧Sl w' w'.heap.size A (l.map (Value.int .i64))∧Below w.heap.size w w'
theorem Md.step_succ {mp:Int→List Int} {L:List Int} {k:Nat} {x:Int} (h:L[k]?=some x):Md.step mp (L.take (k+1))=Md.step mp (L.take k)++Md.one mp x:=by
 unfold Md.step
 rw[Zr,h]
 simp
theorem Md.plain_succ {mp:Int→List Int} {L:List Int} {k:Nat} {x:Int} (h:L[k]?=some x):Md.plain mp (L.take (k+1))=(Md.plain mp (L.take k)&&(mp x).isEmpty):=by
 unfold Md.plain
 rw[Zr,h]
 simp
theorem Md.step_len {mp:Int→List Int} (h:∀c,(mp c).length≤1000) (L:List Int):(Md.step mp L).length≤1000*L.length:=by
 induction L with
 | nil=>simp[Md.step]
 | cons x l ih =>
   have:(Md.one mp x).length≤1000:=by
    unfold Md.one
    split
    · simp
    · exact h x
   unfold Md.step at ih ⊢
   rw[Xw,Zi,ZM]
   omega
theorem Md.step_bd {mp:Int→List Int} (h:∀c,∀d∈mp c,-2147483648≤d∧d≤2147483647) {L:List Int} (hL:∀c∈L,-2147483648≤c∧c≤2147483647):∀c∈Md.step mp L,-2147483648≤c∧c≤2147483647:=by
 intro c hc
 unfold Md.step at hc
 obtain⟨x,hx,aa⟩:=List.mem_flatMap.1 hc
 unfold Md.one at aa
 split at aa
 · simp at aa
   subst aa
   exact hL c hx
 · exact h x c aa
theorem Md.own_empty (w:World) (e:TypeId) (hs:0<1):(w.alloc (.cells #[] e)).ownsRow w.heap.size e 1 (.slice (some ⟨w.heap.size,0,none⟩) 0 0) 0 [] :=
 ⟨rfl,.inr ⟨w.heap.size,0,#[],rfl,Zb _,ZT w _,Zb _,by decide,rfl,rfl⟩⟩
set_option maxRecDepth 100000 in
set_option maxHeartbeats 2000000 in
theorem Md.rstep_any (v:Value) (T:List Rw.Row) (E:List Int) (A:Option Addr) (n c:Nat) (L:List Int) (w:World) (b3:T.length≤1000000) (h:Md.Doc w v T E) (a1:∀c,(Md.mp T c).length≤1000) (hn:L.length=n) (cg:n≤1000) (hL:∀c∈L,-2147483648≤c∧c≤2147483647) (hA:Sl w w.heap.size A (L.map (Value.int .i64))) :
 Calls Tryz.prog 79 #[v,.slice A n c] w (Md.RetStep (Md.step (Md.mp T) L) (!Md.plain (Md.mp T) L) w):=by
 obtain⟨i0,bj,bl,bw,bx⟩:=Yf infoInt
 have HM:Hid (∀(d:Int) (W:World),Below w.heap.size w W → -2147483648≤d→d≤2147483647→Calls Tryz.prog 40 #[v,.int .i64 d] W (RetInts .i64 (Md.mp T d) W)):=Za fun d W hW a b=>Md.rmap_any v T E d W b3 (h.below hW) a b
 obtain⟨AT,cT,XA,xc,rfl,h2,hX⟩:=h
 obtain⟨tn,bu⟩:∃k,T.length=k:=⟨_,rfl⟩
 obtain⟨xn,hxn⟩:∃k,E.length=k:=⟨_,rfl⟩
 rw[bu,hxn]at HM ⊢
 have hlen:∀k,k≤n→(Md.step (Md.mp T) (L.take k)).length≤1000*k:=fun k hk=>by
  have:=Md.step_len a1 (L.take k)
  rw[Zm,hn]at this
  omega
 have bc:=Za hlen
 have b8:=Za a1
 have HN:=Za hn
 have HL:=Za hL
 obtain⟨res,ap⟩:∃r,Md.step (Md.mp T) L=r:=⟨_,rfl⟩
 obtain⟨rb,a6⟩:∃r,Md.plain (Md.mp T) L=r:=⟨_,rfl⟩
 rw[ap,a6]
 have a8:=Za ap
 have b5:=Za a6
 obtain⟨wa,aw⟩:∃wa,(w.alloc (.cells #[.slice AT tn cT,.slice XA xn xc] 31)).alloc (.cells #[] 3)=wa:=⟨_,rfl⟩
 have bb:Below w.heap.size w wa:=by rw[←aw];exact ((Zd _ _).alloc (Zb _) _).alloc (by simp) _
 have ay:Rw.At wa w.heap.size 31 [.slice AT tn cT,.slice XA xn xc]:=by
  rw[←aw];exact (Rw.At.new w 31 [.slice AT tn cT,.slice XA xn xc]).alloc _
 have aj:wa.ownsRow (w.heap.size+1) 3 1 (.slice (some ⟨w.heap.size+1,0,none⟩) 0 0) 0 []:=by
  have:=Md.own_empty (w.alloc (.cells #[.slice AT tn cT,.slice XA xn xc] 31)) 3 (by decide)
  rw[ZD]at this
  rw[←aw];exact this
 have bp:=Za bb
 have HA:=Za (hA.below bb (Zb _))
 have b7:w.heap.size+1≤wa.heap.size:=ay.lt
 have cb:=Za aw
 clear hlen a1 hn hL ap a6 bu hxn aw bb hA h2 hX
 unfold Md.tv at *
 go_enter Tryz.func79,Tryz.ntmps79
 go_upto_region 2 with (fail)
 rw[cb.out]
 go_wp2_with fail
 go_loopw [6,7,14] (fun v6 v7 i wr=>∃(k:Nat) (v:Value),k≤n∧i=.int .i64 k∧v6=v∧v7=.bool (!Md.plain (Md.mp T) (L.take k))∧Rw.At wr w.heap.size 31 [.slice AT tn cT,.slice XA xn xc]∧wr.ownsRow (w.heap.size+1) 3 1 v (Md.step (Md.mp T) (L.take k)).length ((Md.step (Md.mp T) (L.take k)).map (Value.int .i64))∧Below (w.heap.size+1) wa wr) (fun _ _ i _=>n-(intOf i).toNat)
 case atStart=>exact⟨0,_,Zz _,rfl,rfl,rfl,ay,aj,Zd _ _⟩
 case round =>
  obtain⟨k,v,hk,rfl,rfl,rfl,ae,aa,af⟩:=hrel
  have b2:w.heap.size+1≤wr.heap.size:=ae.lt
  have bo:=bc.out k hk
  by_cases hlt:k<n
  · obtain⟨x,hx⟩:∃x,L[k]?=some x:=⟨_,Zc (by rw[HN.out];exact hlt)⟩
    have hxb:=HL.out x (Zk hx)
    obtain⟨ab,ao,hA2,ch,b1⟩:=HA.out (by rw[Zf,HN.out];omega)
    have hc:=b1 k (by rw[Zf,HN.out];exact hlt)
    rw[Zl,hx,Zn,←(bcell af).1 _ _ (by omega)]at hc
    have hM:=HM.out x wr (bp.out.trans (af.mono (ZW _))) hxb.1 hxb.2
    have az:=Md.step_succ (mp:=Md.mp T) hx
    have bf:=Md.plain_succ (mp:=Md.mp T) hx
    have bm:=b8.out x
    unfold Md.one at az
    obtain⟨S,hS⟩:∃S,Md.step (Md.mp T) (L.take k)=S:=⟨_,rfl⟩
    obtain⟨p,hp⟩:∃p,Md.plain (Md.mp T) (L.take k)=p:=⟨_,rfl⟩
    obtain⟨m,hm⟩:∃m,Md.mp T x=m:=⟨_,rfl⟩
    obtain⟨sl,ba⟩:∃sl,S.length=sl:=⟨_,rfl⟩
    rw[hS,hm]at az
    rw[hp,hm]at bf
    rw[hS]at aa bo
    rw[hm]at hM bm
    rw[ba]at aa bo
    rw[hp]
    have kI:(k:Int)<n:=by omega
    have k0:(0:Int)≤k:=by omega
    have z0:=ae.cell 0 rfl
    have z1:=ae.cell 1 rfl
    have bt:=Za az
    have bs:=Za bf
    have aq:=Za aa
    have bh:=Za ae
    have bi:=Za af
    have bq:=Za ba
    subst hA2
    clear ay aj hx b1 az bf hS hp hm ba aa ae af
    go_wp2_with fail
    refine hM.mono ?_
    rintro e w1 ⟨A1,c1,rfl,bk,av⟩
    have ai:=own_below aq.out av (Zb _)
    have ax:=bh.out.below av
    have a7:=av.size
    have ah:=Za ai
    have ar:=Za ax
    have b4:=Za bk
    have bn:=Za (bi.out.trans (av.mono b2))
    have bz:w.heap.size+1≤w1.heap.size:=Zh b2 a7
    clear ai ax bk av hM z0 z1 hc
    rcases m with _|⟨m0,mr⟩
    · go_wp2_with (first|(at_builtin;refine wpList_push1 _ rfl _ _ _ rfl (w.heap.size+1) 3 i0 _ 8 Tryz.underlying29 bj bl bw bx rfl _ sl _ rfl ah.out _ rfl rfl (by simp only[maxLen];omega) (by omega) bz ?_;intro v1 w4 ag au)|fail)
      refine⟨⟨k+1,v1,by omega,by go_num,rfl,by rw[bs.out];simp,ar.out.below' au (ZR _),?_,bn.out.trans au⟩,by simp[intOf];omega⟩
      rw[bt.out,Zv trivial,Zi,bq.out,ZO]
      exact ag
    · have ak:((m0::mr).map (Value.int .i64)).length=(m0::mr).length*1:=by simp
      obtain⟨q,hq⟩:∃q,(m0::mr).length=q:=⟨_,rfl⟩
      have b9:¬q=0:=by rw[←hq];simp
      have cd:((q:Int) == 0)=false:=by simp;omega
      rw[hq]at bm ak ⊢
      have HQ:=Za hq
      have br:∀u∈(m0::mr).map (Value.int .i64),u.oneCell'=true:=oneCells .i64 _
      have cc:=Za br
      have bg:=Za ak
      clear hq b9 br ak
      go_wp2_with (first|(at_builtin;refine wpList_appendSl _ rfl _ _ _ rfl (w.heap.size+1) 3 i0 _ 1 8 Tryz.underlying29 bj bl bw bx rfl (by omega) _ sl _ rfl ah.out _ A1 q c1 ((m0::mr).map (Value.int .i64)) rfl bg.out b4.out cc.out (by simp only[maxLen];omega) (by omega) bz ?_;intro v1 w4 ag au cf)|fail)
      refine⟨⟨k+1,v1,by omega,by go_num,rfl,by rw[bs.out];simp,ar.out.below' au (ZR _),?_,bn.out.trans au⟩,by simp[intOf];omega⟩
      rw[bt.out,Zs (by simp),Zi,bq.out,ZO,HQ.out]
      exact ag
  · obtain rfl:n=k:=by omega
    rw[Zj (by rw[HN.out];exact Zb _),a8.out]at aa
    rw[Zj (by rw[HN.out];exact Zb _),b5.out]
    obtain⟨A4,c4,rfl⟩:=own_form aa
    have HS:=Za (Sl.of_own aa)
    have b6:=Za (bp.out.trans (af.mono (ZW _)))
    clear aa af ae ay aj hlt
    go_wp2_with fail
    go_ret2
    exact⟨A4,c4,rfl,HS.out,b6.out⟩
def Md.RetFull (o:Option (List Int)) (w:World) (e:Ending) (w':World):Prop :=
 ∃A c,e=.returned (.tuple #[.slice A (o.getD []).length c,.bool o.isSome])∧Sl w' w'.heap.size A ((o.getD []).map (Value.int .i64))∧Below w.heap.size w w'
theorem Md.mp_len {T:List Rw.Row} (h:∀r∈T,r.2.2.length≤1000) (c:Int):(Md.mp T c).length≤1000:=by
 unfold Md.mp Md.rmp
 split
 · simp
 · cases hf:Md.find T c with
   | none=>decide
   | some r=>exact h r (Md.find_some hf).1
set_option maxRecDepth 100000 in
set_option maxHeartbeats 2000000 in
theorem Md.rfull_any (v:Value) (T:List Rw.Row) (E:List Int) (d:Int) (w:World) (bn:T.length≤100000) (h:Md.Doc w v T E) (hbd:Md.bd T) (bb:∀r∈T,r.2.2.length≤1000) (h3 : -2147483648≤d) (h4:d≤2147483647) :
 Calls Tryz.prog 25 #[v,.int .i64 d] w (Md.RetFull (Md.full T d) w):=by
 have a7:=Md.mp_len bb
 have hmb:=Md.mp_bd hbd
 have ar:Md.docF (Md.mp T) (T.length+4) [d]=Md.full T d:=Md.full_eq (Md.mp T) (T.length+3) d
 have HS:Hid (∀(A:Option Addr) (c:Nat) (L:List Int) (W:World),Below w.heap.size w W→L.length≤32→(∀c∈L,-2147483648≤c∧c≤2147483647)→Sl W W.heap.size A (L.map (Value.int .i64)) →
  Calls Tryz.prog 79 #[v,.slice A L.length c] W (Md.RetStep (Md.step (Md.mp T) L) (!Md.plain (Md.mp T) L) W)):=Za fun A c L W hW hl hb hs=>Md.rstep_any v T E A L.length c L W (by omega) (h.below hW) a7 rfl (by omega) hb hs
 obtain⟨AT,cT,XA,xc,rfl,h2,hX⟩:=h
 obtain⟨tn,a1⟩:∃k,T.length=k:=⟨_,rfl⟩
 obtain⟨xn,hxn⟩:∃k,E.length=k:=⟨_,rfl⟩
 rw[a1]at bn ar
 rw[a1,hxn]at HS ⊢
 obtain⟨o,ho⟩:∃o,Md.full T d=o:=⟨_,rfl⟩
 rw[ho]at ar ⊢
 obtain⟨wa,ap⟩:∃wa,(w.alloc (.cells #[.slice AT tn cT,.slice XA xn xc] 31)).alloc (.cells #[.int .i64 d] 3)=wa:=⟨_,rfl⟩
 have bh:Below w.heap.size w wa:=by rw[←ap];exact ((Zd _ _).alloc (Zb _) _).alloc (by simp) _
 have bf:Rw.At wa w.heap.size 31 [.slice AT tn cT,.slice XA xn xc]:=by
  rw[←ap];exact (Rw.At.new w 31 [.slice AT tn cT,.slice XA xn xc]).alloc _
 have bg:Sl wa wa.heap.size (some ⟨w.heap.size+1,0,none⟩) ([d].map (Value.int .i64)):=by
  have:=Md.sl_of_lit (w:=w.alloc (.cells #[.slice AT tn cT,.slice XA xn xc] 31)) (e:=3) (xs:=[.int .i64 d])
  simp only[ZD]at this
  rw[←ap]
  simp only[ZD]
  exact this
 have ag:=Za bh
 have bt:=Za ap
 have bx:=Za bf
 have bu:=Za hmb
 have bw:=Za ar
 have bq:=Za bg
 clear a7 hmb ar a1 hxn ho ap bh bf bg h2 hX hbd bb
 unfold Md.tv at *
 go_enter Tryz.func25,Tryz.ntmps25
 go_upto_region 2 with (fail)
 rw[bt.out]
 go_wp2_with fail
 go_loopw [6,7] (fun v6 i wr=>∃(k:Nat) (A:Option Addr) (c:Nat) (L:List Int),k≤tn+4∧i=.int .i64 k∧v6=.slice A L.length c∧Sl wr wr.heap.size A (L.map (Value.int .i64))∧L.length≤32∧(∀c∈L,-2147483648≤c∧c≤2147483647)∧Md.docF (Md.mp T) (tn+4-k) L=o∧Below wa.heap.size wa wr) (fun _ i _=>tn+4-(intOf i).toNat)
 case atStart=>exact⟨0,some ⟨w.heap.size+1,0,none⟩,1,[d],Zz _,rfl,rfl,bq.out,by simp,by simp;omega,bw.out,Zd _ _⟩
 case round =>
  obtain⟨k,A,c,L,hk,rfl,rfl,hs,hl,hb,ah,aa⟩:=hrel
  have af:=bx.out.below aa
  have z0:=af.cell 0 rfl
  have z1:=af.cell 1 rfl
  have ak:=Za aa
  have aq:=Za ah
  have hS:=HS.out A c L wr (ag.out.trans (aa.mono ag.out.size)) hl hb hs
  have bp:=Za hs
  have HB:=Za hb
  have e1:IntKind.i64.wrap ((tn:Int)+3)=(tn:Int)+3:=by rw[Z1];omega
  by_cases hlt:k<tn+4
  · obtain⟨q,hq⟩:∃q,tn+4-k=q+1:=⟨tn+4-k-1,by omega⟩
    have au:=aq.out
    rw[hq,Md.docF]at au
    have bi:tn+4-(k+1)=q:=by omega
    have ay:=Md.step_bd bu.out HB.out
    obtain⟨nx,aj⟩:∃nx,Md.step (Md.mp T) L=nx:=⟨_,rfl⟩
    obtain⟨pl,bj⟩:∃pl,Md.plain (Md.mp T) L=pl:=⟨_,rfl⟩
    rw[aj,bj]at au hS
    rw[aj]at ay
    have bk:=Za au
    have bs:=Za bi
    have b1:=Za ay
    have br:(k:Int)≤(tn:Int)+3:=by omega
    have bz:decide ((k:Int)≤(tn:Int)+3)=true:=Zo br
    clear hs hb ah aa af au bi hq aj bj ay
    go_wp2_with fail
    refine hS.mono ?_
    rintro e w1 ⟨A1,c1,rfl,a8,av⟩
    have ax:=Za (ak.out.trans (av.mono ak.out.size))
    have ao:=bp.out.below av av.size
    have az:=Za ao
    have bo:=Za a8
    clear a8 av hS z0 z1 ao
    cases pl
    · obtain⟨nl,aw⟩:∃nl,nx.length=nl:=⟨_,rfl⟩
      have bl:=Za aw
      have a6:=bk.out
      rw[Zs (by decide),aw]at a6
      rw[aw]
      have ba:=Za a6
      clear aw a6
      by_cases hbig:32<nl
      · have ae:o=none:=by rw[←ba.out,Zv hbig]
        have bm:decide ((32:Int)<nl)=true:=Zo (by omega)
        have ai:=Za ae
        clear ae
        go_wp2_with fail
        go_ret2
        rw[ai.out]
        exact⟨none,0,rfl,Sl.nil _ _ _,ag.out.trans (ax.out.mono ag.out.size)⟩
      · have ae:Md.docF (Md.mp T) q nx=o:=by rw[←ba.out,Zs hbig]
        have bm:decide ((32:Int)<nl)=false:=Zu (by omega)
        have ai:=Za ae
        clear ae
        go_wp2_with fail
        exact⟨⟨k+1,A1,c1,nx,by omega,by go_num,by rw[bl.out],bo.out,by rw[bl.out];omega,b1.out,by rw[bs.out];exact ai.out,ax.out⟩,by simp[intOf];omega⟩
    · have ae:o=some L:=by rw[←bk.out,Zv rfl]
      have ai:=Za ae
      clear ae
      go_wp2_with fail
      go_ret2
      rw[ai.out]
      exact⟨A,c,rfl,az.out,ag.out.trans (ax.out.mono ag.out.size)⟩
  · have bc:k=tn+4:=by omega
    have ae:o=none:=by
     rw[←aq.out,bc,Yu]
     rfl
    have ai:=Za ae
    have bz:decide ((k:Int)≤(tn:Int)+3)=false:=Zu (by omega)
    clear ae bc hs hb ah aa af hS
    go_wp2_with fail
    go_ret2
    rw[ai.out]
    exact⟨none,0,rfl,Sl.nil _ _ _,ag.out.trans (ak.out.mono ag.out.size)⟩
def Md.xs (E:List Int) (d:Int):Bool:=decide (d∈E)
def Md.docP (T:List Rw.Row) (E:List Int) (c:Int):Bool:=decide (0<(Hg.splitK c).length)||(decide ((Md.mp T c).length=2)&&(decide (Md.cls T c=0)&&(decide (Md.cls T ((Md.mp T c).headD 0)=0)&&!Md.xs E c)))
theorem Md.docP_eq (T:List Rw.Row) (E:List Int) (c:Int):Md.docP T E c=Md.prim T (Md.xs E) c:=by
 unfold Md.docP Md.prim
 by_cases h:(Hg.pairK c).2.2=true
 · have hs:0<(Hg.splitK c).length:=by
    unfold Hg.pairK at h
    unfold Hg.splitK
    split at h
    · rename_i h4;rw[Zv h4];simp
    · split at h
      · rename_i h4 h5;rw[Zs h4,Zv h5];simp
      · cases h
   rw[h,Zo hs,Xd,Xd]
 · have hp:(Hg.pairK c).2.2=false:=by simpa using h
   have hs:(Hg.splitK c).length=0:=by
    unfold Hg.pairK at h
    unfold Hg.splitK
    split at h
    · exact absurd rfl h
    · split at h
      · exact absurd rfl h
      · rename_i h4 h5;rw[Zs h4,Zs h5];rfl
   have hm:Md.mp T c=Md.rmp T c:=by
    unfold Md.mp
    rw[Zs h]
   rw[hp,Zu (by omega),YO,YO,hm]
   unfold Md.rmp
   cases hf:Md.find T c with
   | none=>simp
   | some r =>
     have he:=(Md.find_some hf).2
     have hc:Md.cls T c=r.2.1:=by unfold Md.cls;rw[hf];rfl
     simp only[Zn,Option.getD_some]
     unfold Md.comp
     rw[hc,he]
     cases decide (r.2.1=0) <;> cases decide (r.2.2.length=2) <;> rfl
set_option maxRecDepth 100000 in
set_option maxHeartbeats 4000000 in
theorem Md.rprim_any (v:Value) (T:List Rw.Row) (E:List Int) (d:Int) (w:World) (b3:T.length≤100000) (b4:E.length≤1000000) (h:Md.Doc w v T E) (ay:∀r∈T,r.2.2.length≤1000) (h3 : -2147483648≤d) (h4:d≤2147483647) :
 Calls Tryz.prog 28 #[v,.int .i64 d] w fun e w'=>e=.returned (.bool (Md.prim T (Md.xs E) d))∧Below w.heap.size w w':=by
 rw[←Md.docP_eq]
 have a6:=Md.mp_len ay d
 have ax:=Za h
 obtain⟨AT,cT,XA,xc,rfl,h2,hX⟩:=h
 obtain⟨tn,a8⟩:∃k,T.length=k:=⟨_,rfl⟩
 obtain⟨xn,hxn⟩:∃k,E.length=k:=⟨_,rfl⟩
 have aa:Md.docP T E d=(decide (0<(Hg.splitK d).length)||(decide ((Md.mp T d).length=2)&&(decide (Md.cls T d=0)&&(decide (Md.cls T ((Md.mp T d).headD 0)=0)&&!Md.xs E d)))):=rfl
 obtain⟨o,ho⟩:∃o,Md.docP T E d=o:=⟨_,rfl⟩
 rw[ho]at aa ⊢
 have bl:Below w.heap.size w (w.alloc (.cells #[.slice AT tn cT,.slice XA xn xc] 31)):=(Zd _ _).alloc (Zb _) _
 have bj:Rw.At (w.alloc (.cells #[.slice AT tn cT,.slice XA xn xc] 31)) w.heap.size 31 [.slice AT tn cT,.slice XA xn xc]:=Rw.At.new w 31 [.slice AT tn cT,.slice XA xn xc]
 have HP:=Za (Hg.parts_any d (w.alloc (.cells #[.slice AT tn cT,.slice XA xn xc] 31)) h3 h4)
 have ak:Hid (∀W,Below w.heap.size w W→Calls Tryz.prog 40 #[.agg #[.slice AT tn cT,.slice XA xn xc],.int .i64 d] W (RetInts .i64 (Md.mp T d) W)):=Za fun W hW=>by
  have:=Md.rmap_any _ T E d W (by omega) (ax.out.below hW) h3 h4
  rw[a8,hxn]at this
  exact this
 have bb:Hid (∀x W,Below w.heap.size w W→Calls Tryz.prog 36 #[.agg #[.slice AT tn cT,.slice XA xn xc],.int .i64 x] W fun e w'=>e=.returned (.int .i64 (Md.cls T x))∧Below W.heap.size W w'):=Za fun x W hW=>by
  have:=Md.rcls_any _ T E x W (by omega) (ax.out.below hW)
  rw[a8,hxn]at this
  exact this
 have bs:Hid (∀W,Below w.heap.size w W→Calls Tryz.prog 83 #[.slice XA xn xc,.int .i64 d] W fun e w'=>e=.returned (.bool (Md.xs E d))∧W=w'):=Za fun W hW =>
  Md.in_any XA xn xc E d W hxn (by omega) (hX.below hW hW.size)
 have bh:=Za bl
 have bq:=Za bj
 have az:=Za aa
 rw[a8,hxn]
 obtain⟨sp,bp⟩:∃s,Hg.splitK d=s:=⟨_,rfl⟩
 obtain⟨m,hm⟩:∃m,Md.mp T d=m:=⟨_,rfl⟩
 rw[bp]at HP az
 rw[hm]at ak az a6
 clear bl bj aa ho a8 hxn h2 hX bp hm ax ay
 unfold Md.tv
 go_enter Tryz.func28,Tryz.ntmps28
 go_wp2_with fail
 refine HP.out.mono ?_
 rintro e w1 ⟨A1,c1,rfl,_,au⟩
 have aj:=bq.out.below au
 have z0:=aj.cell 0 rfl
 have z1:=aj.cell 1 rfl
 have ba:=Za aj
 have a7:=Za (bh.out.trans (au.mono bh.out.size))
 obtain⟨sl,bk⟩:∃k,sp.length=k:=⟨_,rfl⟩
 rw[bk]at az ⊢
 clear au aj HP bk bq
 by_cases hs0:0<sl
 · have af:o=true:=by rw[az.out,Zo hs0,Xd]
   have ah:=Za af
   have bu:(0:Int)<sl:=by omega
   clear af
   go_wp2_with fail
   go_ret
   exact⟨by rw[ah.out];rfl,a7.out⟩
 · have aa:=az.out
   rw[Zu hs0,YO]at aa
   have ai:=Za aa
   have bu:¬(0:Int)<sl:=by omega
   clear aa az
   go_wp2_with fail
   refine (ak.out w1 a7.out).mono ?_
   rintro e w2 ⟨A2,c2,rfl,bi,aq⟩
   have ag:=ba.out.below aq
   have y0:=ag.cell 0 rfl
   have y1:=ag.cell 1 rfl
   have bf:=ag.lt
   have ae:=Za (a7.out.trans (aq.mono a7.out.size))
   have bw:=Za bi
   have bt:=Za ag
   obtain⟨ml,ay⟩:∃k,m.length=k:=⟨_,rfl⟩
   rw[ay]at ai a6 ⊢
   have b2:=Za ay
   clear bi aq ag z0 z1 ak ay
   rcases hd2:((ml:Int) == 2) with _|_
   · have hne:¬ml=2:=fun e=>by rw[e]at hd2;simp at hd2
     have af:o=false:=by rw[ai.out,Zu hne,XL]
     have ah:=Za af
     clear af hne
     go_wp2_with fail
     go_quiet (fail)
     go_wp2_with fail
     go_ret
     exact⟨by rw[ah.out];rfl,below_drewN ae.out _⟩
   · have bo:ml=2:=by have:=beq_iff_eq.1 hd2;omega
     obtain⟨x,y,rfl⟩:∃x y,m=[x,y]:=by
      have h2:m.length=2:=by rw[b2.out,bo]
      match m,h2 with
      | [x,y],_=>exact⟨x,y,rfl⟩
     obtain⟨ab,ao,hA,bz,br⟩:=bw.out (by simp)
     have bc:w2.cell? ⟨ab,ao,none⟩=some (.int .i64 x):=by simpa using br 0 (by simp)
     subst hA
     have bx:0<ml:=by omega
     have b1:(0:Int)<ml:=by omega
     have aa:=ai.out
     rw[Zo bo,Y5,List.headD_cons]at aa
     have aw:=Ext.call fun W hW=>bb.out d W (ae.out.trans (hW.mono ae.out.size))
     have ar:=Ext.call fun W hW=>bb.out x W (ae.out.trans (hW.mono ae.out.size))
     have ap:=Ext.same fun W hW=>bs.out W (ae.out.trans (hW.mono ae.out.size))
     have e0:=Ext.cells y0 bf
     have e1:=Ext.cells y1 bf
     have e2:=Ext.cells bc bz
     obtain⟨q1,bg⟩:∃q,Md.cls T d=q:=⟨_,rfl⟩
     obtain⟨q2,bm⟩:∃q,Md.cls T x=q:=⟨_,rfl⟩
     obtain⟨xi,bn⟩:∃b,Md.xs E d=b:=⟨_,rfl⟩
     rw[bg]at aw aa
     rw[bm]at ar aa
     rw[bn]at ap aa
     have C1:=Za aw
     have C2:=Za ar
     have C3:=Za ap
     have av:=Za aa
     clear aa ai bb br bg bm bn aw ar ap y0 y1 bc bs
     rcases au:(q1 == 0) with _|_
     · have af:o=false:=by rw[av.out,show decide (q1=0)=false by simpa using au,Bool.false_and]
       have ah:=Za af
       clear af
       go_wp2_with fail
       refine wp_region_ext (by kernel_rfl) (by kernel_rfl) ?_
       repeat (go_big_quiet_step ((first|(go_at_call 36;first|with_reducible exact C1.out _|with_reducible exact C2.out _)|(go_at_call 83;with_reducible exact C3.out _))))
       refine wpQuiet_nil ?_
       intro xw
       have a1:=Za (ae.out.trans (xw.below.mono ae.out.size))
       go_wp2_with fail
       go_ret
       exact⟨by rw[ah.out];rfl,a1.out⟩
     · have h0:q1=0:=beq_iff_eq.1 au
       subst h0
       have aa:=av.out
       rw[show decide ((0:Int)=0)=true from rfl,Y5]at aa
       clear av au
       rcases aq:(q2 == 0) with _|_
       · have af:o=false:=by rw[aa,show decide (q2=0)=false by simpa using aq,Bool.false_and]
         have ah:=Za af
         clear af aa
         go_wp2_with fail
         refine wp_region_ext (by kernel_rfl) (by kernel_rfl) ?_
         repeat (go_big_quiet_step ((first|(go_at_call 36;first|with_reducible exact C1.out _|with_reducible exact C2.out _)|(go_at_call 83;with_reducible exact C3.out _))))
         refine wpQuiet_nil ?_
         intro xw
         have a1:=Za (ae.out.trans (xw.below.mono ae.out.size))
         go_wp2_with fail
         go_ret
         exact⟨by rw[ah.out];rfl,a1.out⟩
       · have h0:q2=0:=beq_iff_eq.1 aq
         subst h0
         rw[show decide ((0:Int)=0)=true from rfl,Y5]at aa
         have ah:=Za aa
         clear aa aq
         go_wp2_with fail
         refine wp_region_ext (by kernel_rfl) (by kernel_rfl) ?_
         repeat (go_big_quiet_step ((first|(go_at_call 36;first|with_reducible exact C1.out _|with_reducible exact C2.out _)|(go_at_call 83;with_reducible exact C3.out _))))
         refine wpQuiet_nil ?_
         intro xw
         have a1:=Za (ae.out.trans (xw.below.mono ae.out.size))
         go_wp2_with fail
         go_ret
         exact⟨by rw[ah.out];rfl,a1.out⟩
end Go.Proofs.YtbeakahjbkdeiaaGreatDoor
