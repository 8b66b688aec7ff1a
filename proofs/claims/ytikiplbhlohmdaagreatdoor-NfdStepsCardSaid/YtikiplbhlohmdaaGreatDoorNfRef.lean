/- The document's layer model: Map, step, Full, by walking their texts. -/
import Derived.Test.YtikiplbhlohmdaaGreatDoorMdRef
set_option linter.unusedVariables false
set_option linter.unusedSimpArgs false
namespace Go.Proofs.YtikiplbhlohmdaaGreatDoor
open Go.RowKit
theorem Md.mp_split (T:List Rw.Row) (c:Int):(∃a b,Hg.splitK c=[a,b]∧Md.mp T c=[a,b])∨(∃a b t,Hg.splitK c=[a,b,t]∧Md.mp T c=[c-(t-4519),t]∧0≤t∧t≤60000∧0≤c∧c≤60000)∨(Hg.splitK c=[]∧Md.mp T c=Md.rmp T c):=by
 by_cases h4:Hg.ofK c=4
 · have hs:=Hg.ofK_syl c (.inl h4)
   refine .inl ⟨4352+(c-44032)/588,4449+(c-44032)%588/28,?_,?_⟩
   · unfold Hg.splitK
     grind
   · unfold Md.mp
     rw[Hg.pairK_four c h4]
     simp
 · by_cases h5:Hg.ofK c=5
   · have hs:=Hg.ofK_syl c (.inr h5)
     refine .inr (.inl ⟨4352+(c-44032)/588,4449+(c-44032)%588/28,4519+(c-44032)%28,?_,?_,by omega,by omega,by omega,by omega⟩)
     · unfold Hg.splitK
       grind
     · unfold Md.mp
       rw[Hg.pairK_five c h5]
       simp
       omega
   · refine .inr (.inr ⟨?_,?_⟩)
     · unfold Hg.splitK
       grind
     · unfold Md.mp
       rw[Hg.pairK_none c h4 h5]
       simp
theorem Md.sl_of_lit {w:World} {e:TypeId} {xs:List Value}:Sl (w.alloc (.cells xs.toArray e)) (w.alloc (.cells xs.toArray e)).heap.size (some ⟨w.heap.size,0,none⟩) xs:=Sl.lit rfl e (0,0) (ZP w _)
set_option maxRecDepth 100000 in
set_option maxHeartbeats 2000000 in
theorem Md.rmap_any (v:Value) (T:List Rw.Row) (E:List Int) (d:Int) (w:World) (bl:T.length≤1000000) (h:Md.Doc w v T E) (h3 : -2147483648≤d) (h4:d≤2147483647) :
 Calls Tryz.prog 11 #[v,.int .i64 d] w (RetInts .i64 (Md.mp T d) w):=by
 obtain⟨A,c,XA,xc,rfl,h2,hX⟩:=h
 obtain⟨n,hn⟩:∃k,T.length=k:=⟨_,rfl⟩
 obtain⟨xn,hxn⟩:∃k,E.length=k:=⟨_,rfl⟩
 rw[hn]at bl ⊢
 rw[hxn]
 have au:=Md.mp_split T d
 obtain⟨res,ap⟩:∃k,Md.mp T d=k:=⟨_,rfl⟩
 rw[ap]at au ⊢
 have av:Below w.heap.size w (w.alloc (.cells #[.slice A n c,.slice XA xn xc] 25)):=(Zd _ _).alloc (Zb _) _
 have bh:Rw.At (w.alloc (.cells #[.slice A n c,.slice XA xn xc] 25)) w.heap.size 25 [.slice A n c,.slice XA xn xc]:=Rw.At.new w 25 [.slice A n c,.slice XA xn xc]
 have HP:=Za (Hg.parts_any d (w.alloc (.cells #[.slice A n c,.slice XA xn xc] 25)) h3 h4)
 have ba:=Za av
 have af:=Za (h2.below av)
 have bf:=Za bh
 have HN:=Za hn
 have aq:=Za au
 obtain⟨sp,ai⟩:∃l,Hg.splitK d=l:=⟨_,rfl⟩
 rw[ai]at HP aq
 clear av bh hn hxn ap h2 hX au ai
 unfold Md.tv
 go_enter Tryz.func11,Tryz.ntmps11
 go_wp2_with fail
 refine HP.out.mono ?_
 rintro e w1 ⟨A1,c1,rfl,a7,ar⟩
 have a8:=Za a7
 have ae:=Za (ba.out.trans (ar.mono ba.out.size))
 have az:=Za (bf.out.below ar)
 have ak:=Za (af.out.below ar)
 clear a7 ar HP bf af
 rcases aq.out with ⟨a,b,hs,hm⟩|⟨a,b,t,hs,hm,t0,t1,d0,d1⟩|⟨hs,hm⟩
 · subst hs hm
   clear aq
   go_wp2_with fail
   go_ret
   exact⟨A1,c1,rfl,a8.out,ae.out⟩
 · subst hs hm
   obtain⟨ab,ao,hA,bo,a6⟩:=a8.out (by simp)
   have hc:w1.cell? ⟨ab,ao+2,none⟩=some (.int .i64 t):=by simpa using a6 2 (by simp)
   have e1:IntKind.i64.wrap (t-4519)=t-4519:=by rw[Z0];omega
   have e2:IntKind.i64.wrap (d-(t-4519))=d-(t-4519):=by rw[Z0];omega
   have bp:w1.drew.cell? ⟨ab,ao+2,none⟩=some (.int .i64 t):=hc
   subst hA
   clear aq a6
   go_wp2_with fail
   go_region
   all_goals
    go_wp2_with fail
    go_ret
    have bk:Below w1.heap.size w1 (w1.alloc (.cells #[.int .i64 (d-(t-4519)),.int .i64 t] 3)).drew:=((Zd _ _).alloc (Zb _) _).drew
    exact⟨_,_,rfl,(Md.sl_of_lit (w:=w1) (e:=3) (xs:=[.int .i64 (d-(t-4519)),.int .i64 t])),ae.out.trans (bk.mono ae.out.size)⟩
 · subst hs hm
   clear aq
   have ag:=az.out
   have z0:=ag.cell 0 rfl
   clear ag
   go_wp2_with fail
   go_loopw [30] (fun i wr=>∃k:Nat,k≤n∧i=.int .i64 k∧(∀q∈T.take k,q.1≠d)∧Below w1.heap.size w1 wr) (fun i _=>n-(intOf i).toNat)
   case atStart=>exact⟨0,ZE _,rfl,by simp,Zd _ _⟩
   case round =>
    obtain⟨k,hk,rfl,bg,aa⟩:=hrel
    have aw:=Za bg
    have ax:=Za aa
    clear bg
    by_cases hlt:k<n
    · obtain⟨r,hr⟩:∃r,T[k]?=some r:=⟨_,Zc (by rw[HN.out];exact hlt)⟩
      obtain⟨b,o,a,bm,hb,c0,c1,c2,bc⟩:=(ak.out.below aa).row hr
      have bn:(k:Int)<n:=by omega
      have ah:=Rw.At.new wr 61 [.int .i64 r.1,.int .i64 r.2.1,.slice a.1 r.2.2.length a.2]
      obtain⟨x0,x1,x2,_,_,_⟩:=ah.three
      have a1:Below wr.heap.size wr (wr.alloc (.cells #[.int .i64 r.1,.int .i64 r.2.1,.slice a.1 r.2.2.length a.2] 61)):=(Zd _ _).alloc (Zb _) _
      have bi:=Za (bc.below a1 a1.size)
      have bb:=Za (aa.alloc aa.size (.cells #[.int .i64 r.1,.int .i64 r.2.1,.slice a.1 r.2.2.length a.2] 61))
      have HR:=Za hr
      subst bm
      clear hr bc aa ah a1
      rcases hxd:(r.1 == d) with _|_
      · have bj:=Lib.hid (Md.no_succ HR.out aw.out (by simpa using hxd))
        go_wp2_with fail
        exact⟨⟨k+1,by omega,by go_num,bj.out,bb.out⟩,by simp[intOf];omega⟩
      · have aj:Md.rmp T d=r.2.2:=by
         unfold Md.rmp
         rw[Md.find_take HR.out aw.out (beq_iff_eq.1 hxd)]
         rfl
        have ay:=Za aj
        clear aj
        go_wp2_with fail
        go_ret
        rw[ay.out]
        exact⟨a.1,a.2,rfl,bi.out,ae.out.trans (bb.out.mono ae.out.size)⟩
    · obtain rfl:n=k:=by omega
      have aj:Md.rmp T d=[]:=by
       unfold Md.rmp
       rw[Md.find_no (by rw[HN.out];exact Zb _) aw.out]
       rfl
      have ay:=Za aj
      clear aj hlt
      go_wp2_with fail
      go_ret
      rw[ay.out]
      exact⟨none,0,rfl,Sl.nil _ _ _,ae.out.trans (ax.out.mono ae.out.size)⟩
def Md.RetStep (l:List Int) (b:Bool) (w:World) (e:Ending) (w':World):Prop :=
 ∃A c,e=.returned (.tuple #[.slice A l.length c,.bool b])∧Sl w' w'.heap.size A (l.map (Value.int .i64))∧Below w.heap.size w w'
theorem Md.step_succ {mp:Int→List Int} {L:List Int} {k:Nat} {x:Int} (h:L[k]?=some x):Md.step mp (L.take (k+1))=Md.step mp (L.take k)++Md.one mp x:=by
 unfold Md.step
 rw[Zw,h]
 simp
theorem Md.plain_succ {mp:Int→List Int} {L:List Int} {k:Nat} {x:Int} (h:L[k]?=some x):Md.plain mp (L.take (k+1))=(Md.plain mp (L.take k)&&(mp x).isEmpty):=by
 unfold Md.plain
 rw[Zw,h]
 simp
theorem Md.step_len {mp:Int→List Int} (h:∀c,(mp c).length≤1000) (L:List Int):(Md.step mp L).length≤1000*L.length:=by
 induction L with
 | nil=>simp[Md.step]
 | cons x l ih =>
   have:(Md.one mp x).length≤1000:=by
    unfold Md.one
    split
    · simp
    · exact h x
   unfold Md.step at ih ⊢
   rw[Xn,Ze,ZI]
   omega
theorem Md.step_bd {mp:Int→List Int} (h:∀c,∀d∈mp c,-2147483648≤d∧d≤2147483647) {L:List Int} (hL:∀c∈L,-2147483648≤c∧c≤2147483647):∀c∈Md.step mp L,-2147483648≤c∧c≤2147483647:=by
 intro c hc
 unfold Md.step at hc
 obtain⟨x,hx,aa⟩:=List.mem_flatMap.1 hc
 unfold Md.one at aa
 split at aa
 · simp at aa
   subst aa
   exact hL c hx
 · exact h x c aa
theorem Md.own_empty (w:World) (e:TypeId) (hs:0<1):(w.alloc (.cells #[] e)).ownsRow w.heap.size e 1 (.slice (some ⟨w.heap.size,0,none⟩) 0 0) 0 [] :=
 ⟨rfl,.inr ⟨w.heap.size,0,#[],rfl,Zb _,ZP w _,Zb _,by decide,rfl,rfl⟩⟩
set_option maxRecDepth 100000 in
set_option maxHeartbeats 2000000 in
theorem Md.rstep_any (v:Value) (T:List Rw.Row) (E:List Int) (A:Option Addr) (n c:Nat) (L:List Int) (w:World) (cc:T.length≤1000000) (h:Md.Doc w v T E) (a6:∀c,(Md.mp T c).length≤1000) (hn:L.length=n) (cf:n≤1000) (hL:∀c∈L,-2147483648≤c∧c≤2147483647) (hA:Sl w w.heap.size A (L.map (Value.int .i64))) :
 Calls Tryz.prog 49 #[v,.slice A n c] w (Md.RetStep (Md.step (Md.mp T) L) (!Md.plain (Md.mp T) L) w):=by
 obtain⟨i0,b2,bn,bm,bw⟩:=Z7 infoInt
 have HM:Hid (∀(d:Int) (W:World),Below w.heap.size w W → -2147483648≤d→d≤2147483647→Calls Tryz.prog 11 #[v,.int .i64 d] W (RetInts .i64 (Md.mp T d) W)):=Za fun d W hW a b=>Md.rmap_any v T E d W cc (h.below hW) a b
 obtain⟨AT,cT,XA,xc,rfl,h2,hX⟩:=h
 obtain⟨tn,bz⟩:∃k,T.length=k:=⟨_,rfl⟩
 obtain⟨xn,hxn⟩:∃k,E.length=k:=⟨_,rfl⟩
 rw[bz,hxn]at HM ⊢
 have hlen:∀k,k≤n→(Md.step (Md.mp T) (L.take k)).length≤1000*k:=fun k hk=>by
  have:=Md.step_len a6 (L.take k)
  rw[Zq,hn]at this
  omega
 have bg:=Za hlen
 have b4:=Za a6
 have HN:=Za hn
 have HL:=Za hL
 obtain⟨res,ap⟩:∃r,Md.step (Md.mp T) L=r:=⟨_,rfl⟩
 obtain⟨rb,bh⟩:∃r,Md.plain (Md.mp T) L=r:=⟨_,rfl⟩
 rw[ap,bh]
 have bi:=Za ap
 have b7:=Za bh
 obtain⟨wa,ar⟩:∃wa,(w.alloc (.cells #[.slice AT tn cT,.slice XA xn xc] 25)).alloc (.cells #[] 3)=wa:=⟨_,rfl⟩
 have a8:Below w.heap.size w wa:=by rw[←ar];exact ((Zd _ _).alloc (Zb _) _).alloc (by simp) _
 have az:Rw.At wa w.heap.size 25 [.slice AT tn cT,.slice XA xn xc]:=by
  rw[←ar];exact (Rw.At.new w 25 [.slice AT tn cT,.slice XA xn xc]).alloc _
 have aj:wa.ownsRow (w.heap.size+1) 3 1 (.slice (some ⟨w.heap.size+1,0,none⟩) 0 0) 0 []:=by
  have:=Md.own_empty (w.alloc (.cells #[.slice AT tn cT,.slice XA xn xc] 25)) 3 (by decide)
  rw[ZH]at this
  rw[←ar];exact this
 have bu:=Za a8
 have HA:=Za (hA.below a8 (Zb _))
 have b3:w.heap.size+1≤wa.heap.size:=az.lt
 have b8:=Za ar
 clear hlen a6 hn hL ap bh bz hxn ar a8 hA h2 hX
 unfold Md.tv at *
 go_enter Tryz.func49,Tryz.ntmps49
 go_upto_region 2 with (fail)
 rw[b8.out]
 go_wp2_with fail
 go_loopw [6,7,14] (fun v6 v7 i wr=>∃(k:Nat) (v:Value),k≤n∧i=.int .i64 k∧v6=v∧v7=.bool (!Md.plain (Md.mp T) (L.take k))∧Rw.At wr w.heap.size 25 [.slice AT tn cT,.slice XA xn xc]∧wr.ownsRow (w.heap.size+1) 3 1 v (Md.step (Md.mp T) (L.take k)).length ((Md.step (Md.mp T) (L.take k)).map (Value.int .i64))∧Below (w.heap.size+1) wa wr) (fun _ _ i _=>n-(intOf i).toNat)
 case atStart=>exact⟨0,_,ZE _,rfl,rfl,rfl,az,aj,Zd _ _⟩
 case round =>
  obtain⟨k,v,hk,rfl,rfl,rfl,ae,aa,af⟩:=hrel
  have bj:w.heap.size+1≤wr.heap.size:=ae.lt
  have bq:=bg.out k hk
  by_cases hlt:k<n
  · obtain⟨x,hx⟩:∃x,L[k]?=some x:=⟨_,Zc (by rw[HN.out];exact hlt)⟩
    have hxb:=HL.out x (Zk hx)
    obtain⟨ab,ao,hA2,cd,bk⟩:=HA.out (by rw[Zg,HN.out];omega)
    have hc:=bk k (by rw[Zg,HN.out];exact hlt)
    rw[Zu,hx,Zt,←(bcell af).1 _ _ (by omega)]at hc
    have hM:=HM.out x wr (bu.out.trans (af.mono (ZZ _))) hxb.1 hxb.2
    have ay:=Md.step_succ (mp:=Md.mp T) hx
    have ba:=Md.plain_succ (mp:=Md.mp T) hx
    have bt:=b4.out x
    unfold Md.one at ay
    obtain⟨S,hS⟩:∃S,Md.step (Md.mp T) (L.take k)=S:=⟨_,rfl⟩
    obtain⟨p,hp⟩:∃p,Md.plain (Md.mp T) (L.take k)=p:=⟨_,rfl⟩
    obtain⟨m,hm⟩:∃m,Md.mp T x=m:=⟨_,rfl⟩
    obtain⟨sl,bf⟩:∃sl,S.length=sl:=⟨_,rfl⟩
    rw[hS,hm]at ay
    rw[hp,hm]at ba
    rw[hS]at aa bq
    rw[hm]at hM bt
    rw[bf]at aa bq
    rw[hp]
    have kI:(k:Int)<n:=by omega
    have k0:(0:Int)≤k:=by omega
    have z0:=ae.cell 0 rfl
    have z1:=ae.cell 1 rfl
    have b1:=Za ay
    have bl:=Za ba
    have aq:=Za aa
    have a1:=Za ae
    have bc:=Za af
    have bx:=Za bf
    subst hA2
    clear az aj hx bk ay ba hS hp hm bf aa ae af
    go_wp2_with fail
    refine hM.mono ?_
    rintro e w1 ⟨A1,c1,rfl,bs,au⟩
    have ah:=own_below aq.out au (Zb _)
    have av:=a1.out.below au
    have bb:=au.size
    have ai:=Za ah
    have ax:=Za av
    have b9:=Za bs
    have bo:=Za (bc.out.trans (au.mono bj))
    have bp:w.heap.size+1≤w1.heap.size:=Zh bj bb
    clear ah av bs au hM z0 z1 hc
    rcases m with _|⟨m0,mr⟩
    · go_wp2_with (first|(at_builtin;refine wpList_push1 _ rfl _ _ _ rfl (w.heap.size+1) 3 i0 _ 8 Tryz.underlying23 b2 bn bm bw rfl _ sl _ rfl ai.out _ rfl rfl (by simp only[maxLen];omega) (by omega) bp ?_;intro v1 w4 ag aw)|fail)
      refine⟨⟨k+1,v1,by omega,by go_num,rfl,by rw[bl.out];simp,ax.out.below' aw (ZS _),?_,bo.out.trans aw⟩,by simp[intOf];omega⟩
      rw[b1.out,Zp trivial,Ze,bx.out,ZM]
      exact ag
    · have ak:((m0::mr).map (Value.int .i64)).length=(m0::mr).length*1:=by simp
      obtain⟨q,hq⟩:∃q,(m0::mr).length=q:=⟨_,rfl⟩
      have b6:¬q=0:=by rw[←hq];simp
      have ch:((q:Int) == 0)=false:=by simp;omega
      rw[hq]at bt ak ⊢
      have HQ:=Za hq
      have br:∀u∈(m0::mr).map (Value.int .i64),u.oneCell'=true:=oneCells .i64 _
      have cb:=Za br
      have a7:=Za ak
      clear hq b6 br ak
      go_wp2_with (first|(at_builtin;refine wpList_appendSl _ rfl _ _ _ rfl (w.heap.size+1) 3 i0 _ 1 8 Tryz.underlying23 b2 bn bm bw rfl (by omega) _ sl _ rfl ai.out _ A1 q c1 ((m0::mr).map (Value.int .i64)) rfl a7.out b9.out cb.out (by simp only[maxLen];omega) (by omega) bp ?_;intro v1 w4 ag aw cg)|fail)
      refine⟨⟨k+1,v1,by omega,by go_num,rfl,by rw[bl.out];simp,ax.out.below' aw (ZS _),?_,bo.out.trans aw⟩,by simp[intOf];omega⟩
      rw[b1.out,Zl (by simp),Ze,bx.out,ZM,HQ.out]
      exact ag
  · obtain rfl:n=k:=by omega
    rw[Zj (by rw[HN.out];exact Zb _),bi.out]at aa
    rw[Zj (by rw[HN.out];exact Zb _),b7.out]
    obtain⟨A4,c4,rfl⟩:=own_form aa
    have HS:=Za (Sl.of_own aa)
    have b5:=Za (bu.out.trans (af.mono (ZZ _)))
    clear aa af ae az aj hlt
    go_wp2_with fail
    go_ret2
    exact⟨A4,c4,rfl,HS.out,b5.out⟩
def Md.RetFull (o:Option (List Int)) (w:World) (e:Ending) (w':World):Prop :=
 ∃A c,e=.returned (.tuple #[.slice A (o.getD []).length c,.bool o.isSome])∧Sl w' w'.heap.size A ((o.getD []).map (Value.int .i64))∧Below w.heap.size w w'
theorem Md.mp_len {T:List Rw.Row} (h:∀r∈T,r.2.2.length≤1000) (c:Int):(Md.mp T c).length≤1000:=by
 unfold Md.mp Md.rmp
 split
 · simp
 · cases hf:Md.find T c with
   | none=>decide
   | some r=>exact h r (Md.find_some hf).1
set_option maxRecDepth 100000 in
set_option maxHeartbeats 2000000 in
theorem Md.rfull_any (v:Value) (T:List Rw.Row) (E:List Int) (d:Int) (w:World) (bx:T.length≤100000) (h:Md.Doc w v T E) (hbd:Md.bd T) (bf:∀r∈T,r.2.2.length≤1000) (h3 : -2147483648≤d) (h4:d≤2147483647) :
 Calls Tryz.prog 28 #[v,.int .i64 d] w (Md.RetFull (Md.full T d) w):=by
 have a8:=Md.mp_len bf
 have hmb:=Md.mp_bd hbd
 have au:Md.docF (Md.mp T) (T.length+4) [d]=Md.full T d:=Md.full_eq (Md.mp T) (T.length+3) d
 have HS:Hid (∀(A:Option Addr) (c:Nat) (L:List Int) (W:World),Below w.heap.size w W→L.length≤32→(∀c∈L,-2147483648≤c∧c≤2147483647)→Sl W W.heap.size A (L.map (Value.int .i64)) →
  Calls Tryz.prog 49 #[v,.slice A L.length c] W (Md.RetStep (Md.step (Md.mp T) L) (!Md.plain (Md.mp T) L) W)):=Za fun A c L W hW hl hb hs=>Md.rstep_any v T E A L.length c L W (by omega) (h.below hW) a8 rfl (by omega) hb hs
 obtain⟨AT,cT,XA,xc,rfl,h2,hX⟩:=h
 obtain⟨tn,ay⟩:∃k,T.length=k:=⟨_,rfl⟩
 obtain⟨xn,hxn⟩:∃k,E.length=k:=⟨_,rfl⟩
 rw[ay]at bx au
 rw[ay,hxn]at HS ⊢
 obtain⟨o,ho⟩:∃o,Md.full T d=o:=⟨_,rfl⟩
 rw[ho]at au ⊢
 obtain⟨wa,ao⟩:∃wa,(w.alloc (.cells #[.slice AT tn cT,.slice XA xn xc] 25)).alloc (.cells #[.int .i64 d] 3)=wa:=⟨_,rfl⟩
 have bc:Below w.heap.size w wa:=by rw[←ao];exact ((Zd _ _).alloc (Zb _) _).alloc (by simp) _
 have bl:Rw.At wa w.heap.size 25 [.slice AT tn cT,.slice XA xn xc]:=by
  rw[←ao];exact (Rw.At.new w 25 [.slice AT tn cT,.slice XA xn xc]).alloc _
 have bi:Sl wa wa.heap.size (some ⟨w.heap.size+1,0,none⟩) ([d].map (Value.int .i64)):=by
  have:=Md.sl_of_lit (w:=w.alloc (.cells #[.slice AT tn cT,.slice XA xn xc] 25)) (e:=3) (xs:=[.int .i64 d])
  simp only[ZH]at this
  rw[←ao]
  simp only[ZH]
  exact this
 have ag:=Za bc
 have bq:=Za ao
 have bw:=Za bl
 have b1:=Za hmb
 have bn:=Za au
 have bs:=Za bi
 clear a8 hmb au ay hxn ho ao bc bl bi h2 hX hbd bf
 unfold Md.tv at *
 go_enter Tryz.func28,Tryz.ntmps28
 go_upto_region 2 with (fail)
 rw[bq.out]
 go_wp2_with fail
 go_loopw [6,7] (fun v6 i wr=>∃(k:Nat) (A:Option Addr) (c:Nat) (L:List Int),k≤tn+4∧i=.int .i64 k∧v6=.slice A L.length c∧Sl wr wr.heap.size A (L.map (Value.int .i64))∧L.length≤32∧(∀c∈L,-2147483648≤c∧c≤2147483647)∧Md.docF (Md.mp T) (tn+4-k) L=o∧Below wa.heap.size wa wr) (fun _ i _=>tn+4-(intOf i).toNat)
 case atStart=>exact⟨0,some ⟨w.heap.size+1,0,none⟩,1,[d],ZE _,rfl,rfl,bs.out,by simp,by simp;omega,bn.out,Zd _ _⟩
 case round =>
  obtain⟨k,A,c,L,hk,rfl,rfl,hs,hl,hb,ah,ae⟩:=hrel
  have af:=bw.out.below ae
  have z0:=af.cell 0 rfl
  have z1:=af.cell 1 rfl
  have ak:=Za ae
  have ap:=Za ah
  have hS:=HS.out A c L wr (ag.out.trans (ae.mono ag.out.size)) hl hb hs
  have bu:=Za hs
  have HB:=Za hb
  have e1:IntKind.i64.wrap ((tn:Int)+3)=(tn:Int)+3:=by rw[Z0];omega
  by_cases hlt:k<tn+4
  · obtain⟨q,hq⟩:∃q,tn+4-k=q+1:=⟨tn+4-k-1,by omega⟩
    have aw:=ap.out
    rw[hq,Md.docF]at aw
    have bh:tn+4-(k+1)=q:=by omega
    have a1:=Md.step_bd b1.out HB.out
    obtain⟨nx,aj⟩:∃nx,Md.step (Md.mp T) L=nx:=⟨_,rfl⟩
    obtain⟨pl,bg⟩:∃pl,Md.plain (Md.mp T) L=pl:=⟨_,rfl⟩
    rw[aj,bg]at aw hS
    rw[aj]at a1
    have bb:=Za aw
    have bt:=Za bh
    have bp:=Za a1
    have bm:(k:Int)≤(tn:Int)+3:=by omega
    have bz:decide ((k:Int)≤(tn:Int)+3)=true:=Zn bm
    clear hs hb ah ae af aw bh hq aj bg a1
    go_wp2_with fail
    refine hS.mono ?_
    rintro e w1 ⟨A1,c1,rfl,ba,ar⟩
    have ax:=Za (ak.out.trans (ar.mono ak.out.size))
    have aq:=bu.out.below ar ar.size
    have az:=Za aq
    have br:=Za ba
    clear ba ar hS z0 z1 aq
    cases pl
    · obtain⟨nl,av⟩:∃nl,nx.length=nl:=⟨_,rfl⟩
      have bk:=Za av
      have a6:=bb.out
      rw[Zl (by decide),av]at a6
      rw[av]
      have a7:=Za a6
      clear av a6
      by_cases hbig:32<nl
      · have aa:o=none:=by rw[←a7.out,Zp hbig]
        have bo:decide ((32:Int)<nl)=true:=Zn (by omega)
        have ai:=Za aa
        clear aa
        go_wp2_with fail
        go_ret2
        rw[ai.out]
        exact⟨none,0,rfl,Sl.nil _ _ _,ag.out.trans (ax.out.mono ag.out.size)⟩
      · have aa:Md.docF (Md.mp T) q nx=o:=by rw[←a7.out,Zl hbig]
        have bo:decide ((32:Int)<nl)=false:=Zo (by omega)
        have ai:=Za aa
        clear aa
        go_wp2_with fail
        exact⟨⟨k+1,A1,c1,nx,by omega,by go_num,by rw[bk.out],br.out,by rw[bk.out];omega,bp.out,by rw[bt.out];exact ai.out,ax.out⟩,by simp[intOf];omega⟩
    · have aa:o=some L:=by rw[←bb.out,Zp rfl]
      have ai:=Za aa
      clear aa
      go_wp2_with fail
      go_ret2
      rw[ai.out]
      exact⟨A,c,rfl,az.out,ag.out.trans (ax.out.mono ag.out.size)⟩
  · have bj:k=tn+4:=by omega
    have aa:o=none:=by
     rw[←ap.out,bj,Yv]
     rfl
    have ai:=Za aa
    have bz:decide ((k:Int)≤(tn:Int)+3)=false:=Zo (by omega)
    clear aa bj hs hb ah ae af hS
    go_wp2_with fail
    go_ret2
    rw[ai.out]
    exact⟨none,0,rfl,Sl.nil _ _ _,ag.out.trans (ak.out.mono ag.out.size)⟩
def Nf.At (w:World) (g sz:Nat) (Z:List Int):Prop:=∃R:List Value,Z.length+R.length=sz∧Rw.At w g 3 (Z.map (Value.int .i64)++R)
theorem Nf.At.cell {w:World} {g sz:Nat} {Z:List Int} (h:Nf.At w g sz Z) {i:Nat} {x:Int} (hx:Z[i]?=some x):w.cell? ⟨g,i,none⟩=some (.int .i64 x):=by
 obtain⟨R,hs,h⟩:=h
 refine Rw.At.cell h i ?_
 rw[ZW (by rw[Zg];exact (List.getElem?_eq_some_iff.1 hx).1),Zu,hx]
 rfl
theorem Nf.At.fro {w:World} {g sz:Nat} {Z:List Int} (h:Nf.At w g sz Z) (i:Nat):w.frozen? ⟨g,i,none⟩=false:=by
 obtain⟨R,hs,h⟩:=h
 exact Rw.At.frozen h i
theorem Nf.At.lt {w:World} {g sz:Nat} {Z:List Int} (h:Nf.At w g sz Z):g<w.heap.size:=by
 obtain⟨R,hs,h⟩:=h
 exact Rw.At.lt h
theorem Nf.At.set {w:World} {g sz:Nat} {Z:List Int} (h:Nf.At w g sz Z) (i:Nat) (hi:i<Z.length) (x:Int):Nf.At (w.setCell ⟨g,i,none⟩ (.int .i64 x)) g sz (Z.set i x):=by
 obtain⟨R,hs,h⟩:=h
 refine⟨R,by rw[Xl];exact hs,?_⟩
 rw[List.map_set,←List.set_append_left _ _ (by rw[Zg];exact hi)]
 exact Rw.At.set h i _
theorem Nf.At.swap {w:World} {g sz:Nat} {P Q:List Int} {x y:Int} (h:Nf.At w g sz (P++x::y::Q)):Nf.At ((w.setCell ⟨g,P.length,none⟩ (.int .i64 y)).setCell ⟨g,P.length+1,none⟩ (.int .i64 x)) g sz (P++y::x::Q):=by
 have:=(h.set P.length (by simp) y).set (P.length+1) (by simp) x
 have e:=Ss.swap2 P [] Q x y
 simp only[Z2,Z6,YW]at e
 rw[e]at this
 exact this
theorem Nf.At.below {w w':World} {g sz:Nat} {Z:List Int} (h:Nf.At w g sz Z) (hb:Below w.heap.size w w'):Nf.At w' g sz Z:=by
 obtain⟨R,hs,h⟩:=h
 exact⟨R,hs,Rw.At.below h hb⟩
theorem Nf.At.of_own {w:World} {base g n cap:Nat} {l:List Int} (hl:l.length=n) (h:w.ownsRow base 3 1 (.slice (some ⟨g,0,none⟩) n cap) n (l.map (Value.int .i64))):Nf.At w g cap l∧base≤g∧n≤cap∧cap≤maxLen:=by
 rcases h.2 with ⟨hv,_⟩|⟨g',ae,aa,hv,hg,hb,h1,h2,h3,h4⟩
 · cases hv
 · simp only[Z3,Zi,YO,YH,X0]at hv
   obtain⟨rfl,rfl⟩:=hv
   refine⟨⟨aa.toList.drop n,?_,?_⟩,hg,h1,h2⟩
   · have e:aa.toList.length=aa.size:=XO
     rw[ZK,e,h3,hl]
     omega
   · unfold Rw.At
     rw[Xe]at h4
     rw[←h4,ZG]
     simpa using hb
theorem Nf.At.own {w:World} {base g n cap:Nat} {Z:List Int} (h:Nf.At w g cap Z) (hl:Z.length=n) (hb:base≤g) (hc:n≤cap) (hm:cap≤maxLen):w.ownsRow base 3 1 (.slice (some ⟨g,0,none⟩) n cap) n (Z.map (Value.int .i64)):=by
 obtain⟨R,hs,ha⟩:=h
 refine⟨by rw[Zg,hl,Xe],.inr ⟨g,cap,_,rfl,hb,ha,hc,hm,?_,?_⟩⟩
 · simp
   omega
 · rw[Xe]
   simp[hl]
def Nf.RetOwnI (l:List Int) (w:World) (e:Ending) (w':World):Prop :=
 ∃A c,e=.returned (.slice A l.length c)∧w'.ownsRow w.heap.size 3 1 (.slice A l.length c) l.length (l.map (Value.int .i64))∧Below w.heap.size w w'
theorem Or.iter_len (f:Int→Int):∀(n:Nat) (l:List Int),(Or.iter f n l).length=l.length:=fun n l=>(Or.iter_eqv f n l).length
set_option maxRecDepth 100000 in
set_option maxHeartbeats 8000000 in
theorem Nf.rof_any (v:Value) (T:List Rw.Row) (E:List Int) (A:Option Addr) (n c:Nat) (l:List Int) (w:World) (cc:T.length≤1000000) (h:Md.Doc w v T E) (hl:l.length=n) (hn:n≤100000) (hA:Sl w w.heap.size A (l.map (Value.int .i64))) :
 Calls Tryz.prog 29 #[v,.slice A n c] w (Nf.RetOwnI (Or.of (Md.cls T) l) w):=by
 obtain⟨i0,dc,cr,cq,c6⟩:=Z7 infoInt
 have hd:=h
 obtain⟨AT,cT,XA,xc,rfl,_⟩:=hd
 obtain⟨tn,b9⟩:∃k,T.length=k:=⟨_,rfl⟩
 obtain⟨xn,hxn⟩:∃k,E.length=k:=⟨_,rfl⟩
 rw[b9,hxn]at h ⊢
 have av:∀d W,Below w.heap.size w W→Calls Tryz.prog 50 #[Md.tv AT tn cT XA xn xc,.int .i64 d] W fun e w'=>e=.returned (.int .i64 (Md.cls T d))∧Below W.heap.size W w':=fun d W hW=>Md.rcls_any _ T E d W cc (h.below hW)
 obtain⟨f,hf⟩:∃f,Md.cls T=f:=⟨_,rfl⟩
 rw[hf]at av ⊢
 unfold Md.tv at *
 obtain⟨wa,ba⟩:∃wa,(w.alloc (.cells #[.slice AT tn cT,.slice XA xn xc] 25)).alloc (.cells #[] 3)=wa:=⟨_,rfl⟩
 have bl:Below w.heap.size w wa:=by rw[←ba];exact ((Zd _ _).alloc (Zb _) _).alloc (by simp) _
 have b5:Rw.At wa w.heap.size 25 [.slice AT tn cT,.slice XA xn xc]:=by
  rw[←ba];exact (Rw.At.new w 25 [.slice AT tn cT,.slice XA xn xc]).alloc _
 have bb:wa.ownsRow (w.heap.size+1) 3 1 (.slice (some ⟨w.heap.size+1,0,none⟩) 0 0) 0 []:=by
  have:=Md.own_empty (w.alloc (.cells #[.slice AT tn cT,.slice XA xn xc] 25)) 3 (by decide)
  rw[ZH]at this
  rw[←ba];exact this
 have dk:w.heap.size+1≤wa.heap.size:=b5.lt
 have dr:=Za ba
 have cv:=Za bl
 have c8:=Za b5
 have bw:=Za bb
 have HL:=Za hl
 have dl:=Za (hA.below bl (Zb _))
 have bc:=Za av
 have cb:(l.map (Value.int .i64)).length=n*1:=by rw[Zg,hl];omega
 have b7:∀u∈l.map (Value.int .i64),u.oneCell'=true:=oneCells .i64 _
 have cz:=Za b7
 have dv:=Za cb
 clear ba bl b5 bb hl hA av h b9 hxn cc hf cb b7
 go_enter Tryz.func29,Tryz.ntmps29
 go_wp2_with (first|(at_builtin;(rw[dr.out]);refine wpList_appendSl _ rfl _ _ _ rfl (w.heap.size+1) 3 i0 _ 1 8 Tryz.underlying23 dc cr cq c6 rfl (by omega) _ 0 _ rfl bw.out _ A n c (l.map (Value.int .i64)) rfl dv.out dl.out cz.out (by simp only[maxLen];omega) (by omega) dk ?_;intro v1 w1 aa bq ah;have aq:=Za aa;have bt:=Za (cv.out.trans (bq.mono (ZZ _)));have bo:=Za (c8.out.below' bq (ZS _));clear aa bq ah)|fail)
 rw[Z2,Z1]at aq
 have aa:=aq.out
 rcases aa.2 with ⟨hv,h0⟩|⟨g,cap,dz,hv,hg,ct,k1,k2,k3,k4⟩
 · subst hv
   obtain rfl:n=0:=h0
   have df:l=[]:=Zy HL.out
   subst df
   clear aa
   go_loopw [6,7,8,9] (fun vi _ _ _ wr=>vi=.int .i64 0∧wr=w1) (fun _ _ _ _ _=>0)
   case atStart=>exact⟨rfl,rfl⟩
   case round =>
    obtain⟨rfl,c7⟩:=hrel
    subst c7
    go_wp2_with fail
    go_ret
    exact⟨none,0,rfl,ZC _ _ _ _,bt.out⟩
 · subst hv
   obtain⟨ch,dm,cg,ck⟩:=Nf.At.of_own HL.out aa
   have cf:∀W,w1.grownBy W (some g)→Below w.heap.size w W:=fun W hW=>bt.out.grown hW bt.out.size (by intro k hk;simp only[Zi]at hk;omega)
   have az:∀W,w1.grownBy W (some g)→W.cell? ⟨w.heap.size,0,none⟩=some (.slice AT tn cT)∧W.cell? ⟨w.heap.size,1,none⟩=some (.slice XA xn xc)∧w.heap.size<W.heap.size:=fun W hW=>by
    have:=bo.out.grown hW (by simp only[X3,Zi];omega)
    exact⟨this.cell 0 rfl,this.cell 1 rfl,this.lt⟩
   have br:=Za cf
   have a1:=Za az
   have bu:=Za ch
   have b4:Hid (w.heap.size≤g∧n≤cap∧cap≤maxLen):=Za ⟨by omega,cg,ck⟩
   have du:=Za (Or.iter_len f)
   clear aa ct k1 k2 k3 k4 cf az ch dm cg ck hg
   go_loopw [6,7,8,9] (fun vi _ _ _ wr=>∃(t:Nat) (Z:List Int),t≤n∧vi=.int .i64 t∧Z.length=n∧Or.iter f (n-t) Z=Or.of f l∧Nf.At wr g cap Z∧w1.grownBy wr (some g)) (fun vi _ _ _ _=>n-(intOf vi).toNat)
   case atStart=>exact⟨0,l,ZE _,rfl,HL.out,by rw[Nat.sub_zero,←HL.out];rfl,bu.out,Ss.grown_refl _ _⟩
   case round =>
    obtain⟨t,Z,ht,rfl,ax,hit,ai,bi⟩:=hrel
    by_cases hlt:t<n
    · have tI:(t:Int)<n:=by omega
      obtain⟨x0,R0,rfl⟩:∃x R,Z=x::R:=by
       cases Z with
       | nil=>simp at ax;omega
       | cons x R=>exact⟨x,R,rfl⟩
      have cy:=Za hit
      have cw:=Za ax
      have bj:=Za ai
      have dn:=Za bi
      clear hit ax ai bi
      go_wp2_with fail
      obtain⟨wo,rfl⟩:∃wo:World,wo=wr:=⟨_,rfl⟩
      go_loopw [7,8,9] (fun vi _ _ wr=>∃(i:Nat) (P:List Int) (x:Int) (R:List Int),1≤i∧i≤n∧vi=.int .i64 i∧P.length+1=i∧P.length+1+R.length=n∧P++Or.go f x R=Or.pass f (x0::R0)∧Nf.At wr g cap (P++x::R)∧w1.grownBy wr (some g)) (fun vi _ _ _=>n-(intOf vi).toNat)
      case atStart=>exact⟨1,[],x0,R0,Zb _,by omega,rfl,rfl,by have:=cw.out;simp at this ⊢;omega,rfl,bj.out,dn.out⟩
      case round =>
       obtain⟨i,P,x,R,ec,ea,rfl,a8,bg,af,ae,ay⟩:=hrel
       by_cases hie:i<n
       · have iI:(i:Int)<n:=by omega
         obtain⟨y,R,rfl⟩:∃y R',R=y::R':=by
          cases R with
          | nil=>simp at bg;omega
          | cons y R'=>exact⟨y,R',rfl⟩
         have c1:=ae.cell (Ss.get_first _ _ _)
         have c2:=ae.cell (Ss.get_second P [] R x y)
         rw[Z6,YW,a8]at c2
         have ap:P.length=i-1:=by omega
         rw[ap]at c1
         have f1:=ae.fro (i-1)
         have f2:=ae.fro i
         have gl:=ae.lt
         have ak:=ae.swap
         rw[a8,ap]at ak
         obtain⟨b1,b2,b3⟩:=a1.out wr ay
         have bn:=Ext.cells b1 b3
         have bp:=Ext.cells b2 b3
         have dp:=Ext.cells c1 gl
         have xc2:=Ext.cells c2 gl
         obtain⟨u,hu⟩:∃u,f x=u:=⟨_,rfl⟩
         obtain⟨q,hq⟩:∃q,f y=q:=⟨_,rfl⟩
         have C1:=Za (Ext.call (w:=wr) fun W hW=>by
          have:=bc.out x W (br.out W (Rw.grown_trans ay (Ss.grown_below hW)))
          rw[hu]at this
          exact this)
         have C2:=Za (fun (wq:World) (dt:w1.grownBy wq (some g))=>Ext.call (w:=wq) fun W hW=>by
          have:=bc.out y W (br.out W (Rw.grown_trans dt (Ss.grown_below hW)))
          rw[hq]at this
          exact this)
         have HU:=Za hu
         have HQ:=Za hq
         have ao:=Za af
         have au:=Za a8
         have bz:=Za bg
         have bs:=Za ae
         have dw:=Za ay
         have j0:(0:Int)≤(i:Int)-1:=by omega
         have j1:(i:Int)-1<n:=by omega
         have jt:((i:Int)-1).toNat=i-1:=by omega
         clear hu hq af a8 bg ae ay ak ap
         go_wp2_with fail
         refine wp_region_ext (by kernel_rfl) (by kernel_rfl) ?_
         repeat (go_big_quiet_step ((go_at_call 50;with_reducible exact C1.out _)))
         refine wpQuiet_nil ?_
         intro xw
         obtain⟨wx,cj⟩:∃wx,xw.val=wx:=⟨_,rfl⟩
         have aj:=xw.below
         rw[cj]at aj ⊢
         have ah:=Rw.grown_trans dw.out (Ss.grown_below (row:=some g) aj)
         have ag:=bs.out.below aj
         clear bn bp dp xc2 b1 b2 b3 c1 c2 f1 f2 gl cj xw aj
         have c2:=ag.cell (Ss.get_second P [] R x y)
         rw[Z6,YW,au.out]at c2
         have gl:=ag.lt
         obtain⟨b1,b2,b3⟩:=a1.out wx ah
         have bn:=Ext.cells b1 b3
         have bp:=Ext.cells b2 b3
         have xc2:=Ext.cells c2 gl
         have C3:=Za (C2.out wx ah)
         have cp:=Za ag
         have di:=Za ah
         have dy:(0:Int)≤(i:Int):=by omega
         clear ag ah
         go_wp2_with fail
         refine wp_region_ext (by kernel_rfl) (by kernel_rfl) ?_
         repeat (go_big_quiet_step ((go_at_call 50;with_reducible exact C3.out _)))
         refine wpQuiet_nil ?_
         intro xw
         obtain⟨wy,cm⟩:∃wy,xw.val=wy:=⟨_,rfl⟩
         have aj:=xw.below
         rw[cm]at aj ⊢
         have ah:=Rw.grown_trans di.out (Ss.grown_below (row:=some g) aj)
         have ag:=cp.out.below aj
         clear bn bp xc2 b1 b2 b3 c2 gl cm xw aj
         have ap:P.length=i-1:=by have:=au.out;omega
         have bk:=Za ah
         by_cases ak:0<q∧q<u
         · obtain⟨aw,b6⟩:=ak
           have bf:q > 0:=aw
           have bm:u > q:=b6
           have a7:P++Or.go f x (y::R)=(P++[y])++Or.go f x R:=by
            rw[Or.go,Zp (by rw[HU.out,HQ.out];exact⟨aw,b6⟩)]
            simp
           have c1:=ag.cell (Ss.get_first P (y::R) x)
           have c2:=ag.cell (Ss.get_second P [] R x y)
           rw[Z6,YW,au.out]at c2
           rw[ap]at c1
           have f1:=ag.fro (i-1)
           have f2:=ag.fro i
           have gl:=ag.lt
           have bx:=ag.swap
           rw[au.out,ap]at bx
           have dx:¬i-1=i:=by omega
           have eb:¬i=i-1:=by omega
           have dh:Hid (Nf.At ((wy.setCell ⟨g,i-1,none⟩ (.int .i64 y)).setCell ⟨g,i,none⟩ (.int .i64 x)) g cap ((P++[y])++x::R)):=Lib.hid (by simpa using bx)
           have bh:Hid ((P++[y])++Or.go f x R=Or.pass f (x0::R0)):=Za (a7.symm.trans ao.out)
           clear ag ah a7 bx ap
           go_wp2_with fail
           go_region
           go_wp2
           exact⟨⟨i+1,P++[y],x,R,by omega,by omega,by first|rfl|go_num,by have:=au.out;simp;omega,by have:=bz.out;simp at this ⊢;omega,bh.out,dh.out,Ss.grown_drew (Ss.grown_set (Ss.grown_set bk.out _ _) _ _)⟩,by simp[intOf];omega⟩
         · have a7:P++Or.go f x (y::R)=(P++[x])++Or.go f y R:=by
            rw[Or.go,Zl (by rw[HU.out,HQ.out];exact ak)]
            simp
           have bh:Hid ((P++[x])++Or.go f y R=Or.pass f (x0::R0)):=Za (a7.symm.trans ao.out)
           have cd:Hid (Nf.At wy g cap ((P++[x])++y::R)):=Lib.hid (by simpa using ag)
           clear ag ah a7 ap
           by_cases aw:0<q
           · have bf:q > 0:=aw
             have bm:¬u > q:=fun h=>ak ⟨aw,h⟩
             clear ak
             go_wp2_with fail
             exact⟨⟨i+1,P++[x],y,R,by omega,by omega,by first|rfl|go_num,by have:=au.out;simp;omega,by have:=bz.out;simp at this ⊢;omega,bh.out,cd.out,bk.out⟩,by simp[intOf];omega⟩
           · have bf:¬q > 0:=aw
             clear ak
             go_wp2_with fail
             exact⟨⟨i+1,P++[x],y,R,by omega,by omega,by first|rfl|go_num,by have:=au.out;simp;omega,by have:=bz.out;simp at this ⊢;omega,bh.out,cd.out,bk.out⟩,by simp[intOf];omega⟩
       · obtain rfl:i=n:=by omega
         have iI:¬(i:Int)<i:=by omega
         obtain rfl:R=[]:=Zy (by omega)
         have cn:P++[x]=Or.pass f (x0::R0):=af
         have b8:(P++[x]).length=i:=by simp;omega
         have a6:Or.iter f (i-(t+1)) (P++[x])=Or.of f l:=by
          have h:=cy.out
          rw[show i-t=i-(t+1)+1 by omega]at h
          rw[cn]
          exact h
         have H1:=Za b8
         have H2:=Za a6
         have H3:=Za ae
         have H4:=Za ay
         clear cn b8 a6 ae ay af a8 bg
         go_wp2_with fail
         exact⟨⟨t+1,P++[x],by omega,by first|rfl|go_num,H1.out,H2.out,H3.out,H4.out⟩,by simp[intOf];omega⟩
    · obtain rfl:t=n:=by omega
      have tI:¬(t:Int)<t:=by omega
      rw[Yv]at hit
      have hZ:Z=Or.of f l:=hit
      subst hZ
      have ar:=ai.own (n:=t) (base:=w.heap.size) ax b4.out.1 b4.out.2.1 b4.out.2.2
      have HO:=Za ar
      have cx:=Za (br.out wr bi)
      have cu:=Za ax
      clear hit ai ar bi ax
      go_wp2_with fail
      go_ret
      unfold Nf.RetOwnI
      rw[cu.out]
      exact⟨_,_,rfl,HO.out,cx.out⟩
end Go.Proofs.YtikiplbhlohmdaaGreatDoor
