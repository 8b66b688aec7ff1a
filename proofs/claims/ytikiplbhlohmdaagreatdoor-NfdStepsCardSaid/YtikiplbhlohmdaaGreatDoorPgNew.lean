/- Pages: New, by walking its text. -/
import Derived.Test.YtikiplbhlohmdaaGreatDoorPgReg
set_option linter.unusedVariables false
set_option linter.unusedSimpArgs false
namespace Go.Proofs.YtikiplbhlohmdaaGreatDoor
open Go.RowKit
set_option maxRecDepth 100000 in
set_option maxHeartbeats 4000000 in
theorem Pg.new_lo (A:Option Addr) (n c:Nat) (L:List (Int × Int)) (w:World) (hn:L.length=n) (ek:Pg.cellsOk L) (hs:Sl w w.heap.size A (Pg.fl L)) (fo:n≤maxLen) :
 Calls Tryz.prog 92 #[.slice A n c] w fun e w'=>∃v,e=.returned v∧Pg.OfL w.heap.size w' v (Pg.last L)∧Below w.heap.size w w':=by
 have ef:=@run_makeMap Tryz.prog
 have ao:=Pg.St.made w w.heap.size (w.alloc (.map #[] 0)).heap.size
 have dw:Below w.heap.size w (w.alloc (.map #[] 0)):=(Zd _ _).alloc (Zb _) _
 obtain⟨w1,df⟩:∃w1,w.alloc (.map #[] 0)=w1:=⟨_,rfl⟩
 rw[df]at ao dw
 have e4:w1.heap.size=w.heap.size+1:=by rw[←df];simp
 have e8:=Za df
 have en:=Za ao
 have er:=Za dw
 have HS:=Za hs
 have HN:=Za hn
 have c6:=Za ek
 have fw:=Za e4
 simp only[maxLen]at fo
 clear df ao dw hs hn ek e4
 go_enter Tryz.func92,Tryz.ntmps92
 go_upto_region 2 with (fail)
 rw[e8.out]
 clear ef
 go_wp2_with fail
 go_loopw [16] (fun i wr=>∃(k:Nat) (G:Nat→Option Nat),k≤n∧i=.int .i64 k∧Pg.St w.heap.size wr.heap.size wr w.heap.size (Pg.last (L.take k)) G∧Below w.heap.size w wr) (fun i _=>n-(intOf i).toNat)
 case atStart=>exact⟨0,_,ZE _,rfl,en.out,er.out⟩
 case round =>
  obtain⟨k,G,hk,rfl,ao,ah⟩:=hrel
  by_cases hlt:k<n
  · obtain⟨x,hx⟩:∃x,L[k]?=some x:=⟨_,Zc (by rw[HN.out];exact hlt)⟩
    have et:=c6.out x (Zk hx)
    obtain⟨b,o,rfl,hb,dn⟩:=(HS.out.below ah ah.size) (by rw[Pg.fl_len,HN.out];omega)
    have c0:=dn (k*2) (by rw[Pg.fl_len,HN.out];omega)
    have c1:=dn (k*2+1) (by rw[Pg.fl_len,HN.out];omega)
    rw[(Pg.fl_get L k x hx).1]at c0
    rw[(Pg.fl_get L k x hx).2,←Yi]at c1
    have ej:L.take (k+1)=L.take k++[x]:=by rw[Zw,hx];rfl
    have dm:=Za ej
    have gg:(k:Int)<n:=by omega
    have fx:(0:Int)≤k:=by omega
    have dr:Below wr.heap.size wr (wr.alloc (.cells #[.int .i32 x.1,.int .u16 x.2] 166)):=(Zd _ _).alloc (Zb _) _
    have ch:=Rw.At.new wr 166 [.int .i32 x.1,.int .u16 x.2]
    have cu:=ao.below dr ao.lt (Zb _)
    have bz:=ah.trans (dr.mono ah.size)
    have ax:=Za cu
    have ae:=Za bz
    have a8:=Za ch
    have hmb:=ao.lt
    have cf:(wr.alloc (.cells #[.int .i32 x.1,.int .u16 x.2] 166)).heap.size=wr.heap.size+1:=by simp
    have bf:=Za cf
    have hI:=Pg.in_any x.1 (wr.alloc (.cells #[.int .i32 x.1,.int .u16 x.2] 166))
    have fy:=Za et
    clear hx dn ej ao ah dr ch cu bz cf et
    obtain⟨x1,x2⟩:=x
    dsimp only at *
    by_cases hc:0≤x1∧x1≤1114111
    · rw[Zn hc]at hI
      have HI:=Za hI
      obtain⟨N,hN⟩:∃N:Nat,x1/256=N:=⟨(x1/256).toNat,by omega⟩
      obtain⟨M,hM⟩:∃M:Nat,x1%256=M:=⟨(x1%256).toNat,by omega⟩
      have b3:N<4352:=by omega
      have ep:M<256:=by omega
      have hand:=Pg.and_8 x1 hc.1 hc.2
      rw[hM]at hand
      have b4:Hid (Pg.blk (Pg.last (L.take (k+1))) N=(Pg.blk (Pg.last (L.take k)) N).set M x2):=Za (by rw[dm.out];exact Pg.blk_set _ _ hN hM)
      have bh:Hid (∀m,m≠N→Pg.blk (Pg.last (L.take (k+1))) m=Pg.blk (Pg.last (L.take k)) m):=Za (fun m hm=>by rw[dm.out];exact Pg.blk_other _ _ hN hm)
      have fz:(M:Int)<256:=by omega
      have gf:(0:Int)≤M:=by omega
      have HM:=Za hM
      clear hI hM
      obtain⟨wa,dt⟩:∃wa,wr.alloc (.cells #[.int .i32 x1,.int .u16 x2] 166)=wa:=⟨_,rfl⟩
      rw[dt]at ax ae a8 bf HI
      have fk:=Za dt
      clear dt
      go_upto_region 5 with (fail)
      rw[fk.out]
      clear c0 c1
      have c0:=a8.out.cell 0 rfl
      have c1:=a8.out.cell 1 rfl
      have hq:=a8.out.lt
      go_wp2_with fail
      refine HI.out.mono ?_
      rintro e w5 ⟨rfl,rfl⟩
      have aw:=ax.out.look b3
      rcases hG:G N with _|g
      · rw[hG]at aw
        replace aw:(Instr.lookup 220 (.map (some w.heap.size)) (.int .i32 N) false).run Tryz.prog wa=.ok (.pointer none) wa:=aw
        obtain⟨wb,G',bc,cg,ei,eb⟩:=ax.out.put b3 hG (by rw[bf.out];exact Zh (ae.out.size) (by rw[bf.out];exact Zb _)) (by rw[bf.out];omega)
        have e5:=(a8.out.alloc (.cells (Pg.vs Pg.zeros).toArray 186)).grown eb (by
         intro e
         have e:=ZU e
         omega)
        have fj:=Za eb
        have ed:=Za cg
        have ft:=Za ei
        have fe:=Za e5
        clear cg eb e5 ei hG
        go_upto_region 9 with (first|(refine Pg.wpList_exec rfl _ (Pg.exec_build 186 rfl _ (Pg.runZ _)) ?_)|fail)
        have a1:=ed
        have b8:=ft
        have cb:=fe
        have bl:Hid (Below w.heap.size w wb):=Za ((ae.out.alloc (ae.out.size) (.cells (Pg.vs Pg.zeros).toArray 186)).trans (Rw.below_grown fj.out (by simp;have:=ae.out.size;omega) fun q hq=>by cases hq;exact Zb _))
        clear bc hmb
        have ak:(Instr.lookup 220 (.map (some w.heap.size)) (.int .i32 N) false).run Tryz.prog wb.drew=.ok (.pointer (some ⟨wa.heap.size,0,none⟩)) wb.drew:=by
         have:=Pg.St.look (W:=wb.drew) a1.out b3
         rw[b8.out]at this
         exact this
        obtain⟨dk,e7,af⟩:=a1.out.at b3 b8.out
        have e3:=af.lt
        obtain⟨y,hy⟩:∃y,(Pg.vs (Pg.blk (Pg.last (L.take k)) N))[M]?=some y:=⟨_,List.getElem?_eq_getElem (by unfold Pg.vs;rw[List.length_map,Pg.blk_len];exact ep)⟩
        have e0:=af.cell M hy
        have e1:=af.frozen M
        have d0:=cb.out.cell 0 rfl
        have d1:=cb.out.cell 1 rfl
        have cm:=cb.out.lt
        have b5:=Za af
        clear aw af hy c0 c1
        go_region
        go_wp2_with fail
        exact⟨⟨k+1,_,by omega,by go_num,(a1.out.store (hi:=_) b3 b8.out x2 b4.out bh.out).more (by simp[ZN]),(bl.out.setCell (p:=⟨wa.heap.size,M,none⟩) dk _).drew⟩,by simp[intOf];omega⟩
      · rw[hG]at aw
        replace aw:(Instr.lookup 220 (.map (some w.heap.size)) (.int .i32 N) false).run Tryz.prog wa=.ok (.pointer (some ⟨g,0,none⟩)) wa:=aw
        have a1:=ax
        have b8:=Za hG
        have cb:=a8
        have bl:=ae
        clear hG
        go_upto_region 9 with (fail)
        have ak:(Instr.lookup 220 (.map (some w.heap.size)) (.int .i32 N) false).run Tryz.prog wa.drew=.ok (.pointer (some ⟨g,0,none⟩)) wa.drew:=by
         have:=Pg.St.look (W:=wa.drew) a1.out b3
         rw[b8.out]at this
         exact this
        obtain⟨dk,e7,af⟩:=a1.out.at b3 b8.out
        have e3:=af.lt
        obtain⟨y,hy⟩:∃y,(Pg.vs (Pg.blk (Pg.last (L.take k)) N))[M]?=some y:=⟨_,List.getElem?_eq_getElem (by unfold Pg.vs;rw[List.length_map,Pg.blk_len];exact ep)⟩
        have e0:=af.cell M hy
        have e1:=af.frozen M
        have d0:=cb.out.cell 0 rfl
        have d1:=cb.out.cell 1 rfl
        have cm:=cb.out.lt
        have b5:=Za af
        clear aw af hy c0 c1 hq
        go_region
        go_wp2_with fail
        exact⟨⟨k+1,_,by omega,by go_num,(a1.out.store (hi:=_) b3 b8.out x2 b4.out bh.out).more (by have:=bf.out;simp[ZN];omega),(bl.out.setCell (p:=⟨g,M,none⟩) dk _).drew⟩,by simp[intOf];omega⟩
    · rw[Zo hc]at hI
      have HI:=Za hI
      have bt:∀m,m<4352→Pg.blk (Pg.last (L.take (k+1))) m=Pg.blk (Pg.last (L.take k)) m:=fun m hm=>by rw[dm.out];exact Pg.blk_skip _ _ (Zo hc) hm
      have cv:=Za bt
      clear hI bt
      go_wp2_with fail
      refine HI.out.mono ?_
      rintro e w5 ⟨rfl,rfl⟩
      go_wp2_with fail
      exact⟨⟨k+1,G,by omega,by go_num,(ax.out.more (by rw[bf.out];omega)).turn cv.out,ae.out⟩,by simp[intOf];omega⟩
  · obtain rfl:n=k:=by omega
    rw[Zj (by rw[HN.out];exact Zb _)]at ao
    obtain⟨w2,rfl⟩:∃w2:World,w2=wr:=⟨_,rfl⟩
    obtain⟨f,hf⟩:∃f,Pg.last L=f:=⟨_,rfl⟩
    rw[hf]at ao
    have cp:∀m,Pg.u16 (Pg.blk f m):=fun m=>by rw[←hf];exact Pg.blk_u16 (fun x hx=>(c6.out x hx).2.2) m
    have HF:=Za hf
    have HU:=Za cp
    have ax:=Za ao
    have ae:=Za ah
    have hmb:=ao.lt
    have ea:=Pg.runS w2 Pg.zeros YD
    obtain⟨w3,cd⟩:∃w3,w2.alloc (.cells (Pg.vs Pg.zeros).toArray 186)=w3:=⟨_,rfl⟩
    have b2:w3.ownsRow w2.heap.size 186 256 (.slice (some ⟨w2.heap.size,0,none⟩) 1 1) 1 (Pg.vs Pg.zeros):=by
     rw[←cd]
     exact⟨by unfold Pg.vs Pg.zeros;simp,.inr ⟨_,1,(Pg.vs Pg.zeros).toArray,rfl,Nat.le_refl _,heap_alloc_new w2 _,Nat.le_refl _,by decide,by unfold Pg.vs Pg.zeros;simp,by unfold Pg.vs Pg.zeros;simp⟩⟩
    have di:Below w2.heap.size w2 w3:=by rw[←cd];exact (Zd _ _).alloc (Zb _) _
    have fc:w3.heap.size=w2.heap.size+1:=by rw[←cd];simp
    rw[cd]at ea
    obtain⟨arr,b6⟩:∃arr,(Pg.vs (List.replicate 4352 0)++[Value.slice (some ⟨w2.heap.size,0,none⟩) 1 1]).toArray=arr:=⟨_,rfl⟩
    have dv:=Pg.runP w3 ⟨w2.heap.size,0,none⟩
    rw[b6]at dv
    obtain⟨w4,cx⟩:∃w4,w3.alloc (.cells arr 190)=w4:=⟨_,rfl⟩
    have cw:Rw.At w4 w3.heap.size 190 (Pg.vs (Pg.idxZ f 0)++[.slice (some ⟨w2.heap.size,0,none⟩) 1 1]):=by
     rw[←cx,←b6]
     exact Rw.At.new w3 190 _
    have dp:Below w3.heap.size w3 w4:=by rw[←cx];exact (Zd _ _).alloc (Zb _) _
    have fq:w4.heap.size=w3.heap.size+1:=by rw[←cx];simp
    obtain⟨w6,bc,cr,ct⟩:=Pg.Pl.made w4 0
    have du:Below w4.heap.size w4 w6:=((Zd _ _).alloc (Zb _) _).trans (Rw.below_grown ct (by simp) fun q hq=>by cases hq;exact Zb _)
    have cc:Below w3.heap.size w3 w6:=dp.trans (du.mono dp.size)
    have b7:Below w2.heap.size w2 w6:=di.trans (cc.mono di.size)
    have cn:=Za (ao.below b7 hmb (Zb _))
    have cj:=Za (cw.below du)
    have bx:=Za (own_below b2 cc (Zb _))
    have ck:=Za cr
    have eu:=Za (ae.out.trans (b7.mono ae.out.size))
    have e6:=Za cd
    have ez:=Za cx
    have ag:Hid (w2.heap.size<w3.heap.size∧w3.heap.size<w4.heap.size∧w.heap.size<w2.heap.size):=Za ⟨by omega,by omega,hmb⟩
    have ef:=@run_makeMap Tryz.prog
    clear ao ah hf cp b2 di b6 cw dp cr ct du cc b7 cd cx hlt fc fq hmb
    go_upto_region 11 with (fail)
    go_step
    refine Pg.wpList_exec rfl _ (Pg.exec_build 186 rfl _ (Pg.runZ _)) ?_
    refine Pg.wpList_exec rfl _ (Pg.exec_slice1 188 1 0 _ rfl (.agg (Pg.vs Pg.zeros).toArray) rfl _ ea) ?_
    refine Pg.wpList_exec rfl _ (Pg.exec_build1 190 1 _ rfl (.slice (some ⟨w2.heap.size,0,none⟩) 1 1) rfl _ dv) ?_
    clear ea dv
    go_upto_region 12 with (fail)
    rw[ez.out]
    go_upto_region 13 with (first|(refine Pg.wpList_exec rfl _ (Pg.exec_build 186 rfl _ (Pg.runZ _)) ?_)|fail)
    clear ef bc e6 ez
    have fh:Hid (Pg.bls f 0=[Pg.zeros]):=Za rfl
    go_wp2_with fail
    go_loopw [53] (fun i wr=>∃(m:Nat) (v:Value),m≤4352∧i=.int .i64 m∧Pg.St w.heap.size w2.heap.size wr w.heap.size f G∧Pg.Pl wr w4.heap.size (Pg.bls f m)∧Rw.At wr w3.heap.size 190 (Pg.vs (Pg.idxZ f m)++[v])∧wr.ownsRow w2.heap.size 186 256 v (Pg.bls f m).length (Pg.vs (Pg.bls f m).flatten)∧Below w.heap.size w wr) (fun i _=>4352-(intOf i).toNat)
    case atStart=>exact⟨0,_,Nat.zero_le _,rfl,cn.out,ck.out,cj.out,by rw[fh.out];simpa using bx.out,eu.out⟩
    case round =>
     obtain⟨m,v,hm,rfl,ao,dl,c7,bk,ah⟩:=hrel
     clear en er HS ax ae cn ck cj bx eu
     by_cases hlt:m<4352
     · have mI:(m:Int)<4352:=by omega
       have m0:(0:Int)≤m:=by omega
       have fm:IntKind.i32.wrap (m:Int)=m:=by rw[Xu];omega
       have aw:=ao.look hlt
       have ar:=Za ao
       have cq:=Za dl
       have bo:=Za c7
       have ai:=Za bk
       have a6:=Za ah
       have e9:=c7.lt
       have dz:=Pg.bls_len f m
       clear ao dl c7 bk ah
       rcases hG:G m with _|g
       · rw[hG]at aw
         replace aw:(Instr.lookup 220 (.map (some w.heap.size)) (.int .i32 m) false).run Tryz.prog wr=.ok (.pointer none) wr:=aw
         obtain⟨s1,s2⟩:=Pg.idxZ_skip f hlt (ar.out.none hlt hG)
         have S1:=Za s1
         have S2:=Za s2
         clear s1 s2 hG
         go_wp2_with fail
         exact⟨⟨m+1,v,by omega,by go_num,ar.out,by rw[S1.out];exact cq.out,by rw[S2.out];exact bo.out,by rw[S1.out];exact ai.out,a6.out⟩,by simp[intOf];omega⟩
       · rw[hG]at aw
         replace aw:(Instr.lookup 220 (.map (some w.heap.size)) (.int .i32 m) false).run Tryz.prog wr=.ok (.pointer (some ⟨g,0,none⟩)) wr:=aw
         have af:=(ar.out.at hlt hG).2.2
         have e3:=af.lt
         have fp:=(ar.out.at hlt hG).2.1
         have e2:=Za (Pg.At.load af (Pg.blk_len f m))
         have b5:=Za af
         have ak:=cq.out.look (HU.out m)
         have au:Hid (Pg.bls f (m+1)=Pg.add (Pg.bls f m) (Pg.blk f m)):=Za rfl
         have bq:=Za (Pg.idxZ_set f hlt)
         obtain⟨eo,hold⟩:∃eo,(Pg.vs (Pg.idxZ f m))[m]?=some eo:=⟨_,List.getElem?_eq_getElem (by unfold Pg.vs;rw[List.length_map,Pg.idxZ_len f (by omega)];exact hlt)⟩
         have HOLD:=Za hold
         clear hG af hold
         by_cases hmem:Pg.blk f m∈Pg.bls f m
         · have av:=Za (Pg.add_there hmem)
           have bj:Pg.place (Pg.bls f m) (Pg.blk f m)=some (Pg.at (Pg.bls f m) (Pg.blk f m)):=Zp hmem
           have cm:=Pg.at_lt hmem
           have az:Hid (Pg.at (Pg.bls f (m+1)) (Pg.blk f m)=Pg.at (Pg.bls f m) (Pg.blk f m)):=Za (by rw[au.out,av.out])
           obtain⟨q,hq⟩:∃q,Pg.at (Pg.bls f m) (Pg.blk f m)=q:=⟨_,rfl⟩
           rw[bj,hq]at ak
           rw[hq]at cm az
           replace ak:(Instr.lookup 222 (.map (some w4.heap.size)) (.agg (Pg.vs (Pg.blk f m)).toArray) true).run Tryz.prog wr=.ok (.tuple #[.int .i64 q,.bool true]) wr:=ak
           have fu:IntKind.u16.wrap (q:Int)=q:=by rw[IntKind.wrap_u16];omega
           have z0:=Pg.cell_at bo.out HOLD.out
           have z1:=bo.out.frozen m
           have gh:=Za cm
           clear hmem bj hq cm
           go_wp2_with (first|(refine Pg.wpList_load rfl 186 _ rfl _ _ rfl e2.out ?_)|fail)
           have hb:Below w2.heap.size wr (wr.setCell ⟨w3.heap.size,m,none⟩ (.int .u16 q)):=(Zd _ _).setCell (p:=⟨w3.heap.size,m,none⟩) (Ya ag.out.1) _
           refine⟨⟨m+1,v,by omega,by go_num,ar.out.below hb ag.out.2.2 (Zb _),?_,?_,?_,a6.out.trans (hb.mono (Ya ag.out.2.2))⟩,by simp[intOf];omega⟩
           · rw[au.out,av.out]
             exact cq.out.grown (Rw.grown_set w3.heap.size m _) (by have:=ag.out.2.1;simp;omega)
           · rw[bq.out,az.out]
             have:=bo.out.set m (.int .u16 q)
             rw[List.set_append_left _ _ (by unfold Pg.vs;rw[List.length_map,Pg.idxZ_len f (by omega)];exact hlt)]at this
             rw[show Pg.vs ((Pg.idxZ f m).set m (q:Int))=(Pg.vs (Pg.idxZ f m)).set m (.int .u16 q) by unfold Pg.vs;rw[List.map_set]]
             exact this
           · rw[au.out,av.out]
             refine ai.out.kept (Rw.grown_set w3.heap.size m _) (.inr fun e=>?_)
             exact Rw.own_not ai.out (by decide) _ e _ _ bo.out
         · have av:=Za (Pg.add_new hmem)
           have bj:Pg.place (Pg.bls f m) (Pg.blk f m)=none:=Zl hmem
           have az:Hid (Pg.at (Pg.bls f (m+1)) (Pg.blk f m)=(Pg.bls f m).length):=Lib.hid (by rw[au.out,av.out];unfold Pg.at;rw[List.idxOf_append,if_neg hmem];simp)
           have eg:=Za hmem
           rw[bj]at ak
           obtain⟨A2,c2,rfl⟩:=own_form ai.out
           obtain⟨ln,dh⟩:∃ln,(Pg.bls f m).length=ln:=⟨_,rfl⟩
           rw[dh]at ai az dz bo
           replace ak:(Instr.lookup 222 (.map (some w4.heap.size)) (.agg (Pg.vs (Pg.blk f m)).toArray) true).run Tryz.prog wr=.ok (.tuple #[.int .i64 0,.bool false]) wr:=ak
           obtain⟨w5,bc,bs,br⟩:=cq.out.put (HU.out m) hmem
           rw[dh]at bc
           rw[←au.out]at bs
           have z1:=Pg.cell_last bo.out (n:=4352) (by unfold Pg.vs;rw[List.length_map,Pg.idxZ_len f (by omega)])
           have dx:Below w2.heap.size wr w5:=Rw.below_grown br (by have:=ag.out.1;omega) fun q hq=>by cases hq;have:=ag.out;omega
           have bw:some w4.heap.size≠some w3.heap.size:=by have:=ag.out.2.1;simp;omega
           have ay:=bo.out.grown br bw
           have ap:=ai.out.kept br (.inr (Pg.own_notmap ai.out cq.out))
           have bu:=b5.out.below' dx fp
           have bg:=Pg.At.load (w:=w5.drew) bu (Pg.blk_len f m)
           have a7:=Pg.runS w5.drew (Pg.blk f m) (Pg.blk_len f m)
           have fg:=ay.lt
           obtain⟨v8,w8,bb,bi,bp⟩:=Pg.run_more w2.heap.size w5.drew _ ln _ (Pg.blk f m) (Pg.blk_len f m) ap (by have:=ag.out.1;show w2.heap.size≤w5.heap.size;omega) (by omega) 188
           obtain⟨A8,c8,rfl⟩:=own_form bi
           have ew:(Value.slice A2 ln c2).ownBlock≠some w3.heap.size:=fun e=>Rw.own_not ap (by decide) _ e _ _ ay
           have bn:=Rw.At.grown (w:=w5.drew) ay bp ew
           have eh:Below w2.heap.size wr w8:=dx.drew.trans (Rw.below_grown (w:=w5.drew) bp (by have:=ag.out.1;show w2.heap.size≤w5.heap.size;omega) fun q hq=>(ap.lt q hq).1)
           have d0:=Pg.cell_last ay (n:=4352) (by unfold Pg.vs;rw[List.length_map,Pg.idxZ_len f (by omega)])
           have ee:=ay.alloc (.cells (Pg.vs (Pg.blk f m)).toArray 186)
           have cz:=Pg.run_load1 w5.drew w3.heap.size 4352 (.slice A2 ln c2) d0
           have dc:=Pg.run_load1 (w5.drew.alloc (.cells (Pg.vs (Pg.blk f m)).toArray 186)) w3.heap.size 4352 (.slice A2 ln c2) (Pg.cell_last (Rw.At.alloc (w:=w5.drew) ay _) (n:=4352) (by unfold Pg.vs;rw[List.length_map,Pg.idxZ_len f (by omega)]))
           have f0:=Pg.cell_last bn (n:=4352) (by unfold Pg.vs;rw[List.length_map,Pg.idxZ_len f (by omega)])
           have f1:=bn.frozen 4352
           have cy:=Pg.Pl.grown (W:=w5.drew) bs bp (fun e=>Pg.own_notmap ap bs e.symm)
           have ba:=Za bn
           have aj:=Za bi
           have b9:=Za cy
           have ec:=Za eh
           have dy:=Za dh
           have fu:IntKind.u16.wrap (ln:Int)=ln:=by rw[IntKind.wrap_u16];omega
           have gb:=(bn.set 4352 (.slice A8 (ln+1) c8))
           clear hmem bj bs br dx ay ap bu ee bi bp eh bn cy dh ew bw
           go_upto_region 22 with (first|(refine Pg.wpList_load rfl 186 _ rfl _ _ rfl e2.out ?_)|fail)
           clear aw ak bc z1
           refine wp_region_any (by kernel_rfl) ?_
           change wpAny _ _ _ _ 13 _ _ (World.drew _)
           with_reducible refine Pg.take 0 (.move (.tmp 7)) (some 82) (130) (.pointer (some ⟨w3.heap.size,0,none⟩)) (by kernel_rfl) (by kernel_rfl) (by kernel_rfl) (by kernel_rfl) (by intro _ _ _ h;with_unfolding_all exact h) (fun o h w=>Pg.exec_move _ h _ (by kernel_rfl)) ?_
           with_reducible refine Pg.take 1 (.move (.tmp 7)) (some 83) (130) (.pointer (some ⟨w3.heap.size,0,none⟩)) (by kernel_rfl) (by kernel_rfl) (by kernel_rfl) (by kernel_rfl) (by intro _ _ _ h;with_unfolding_all exact h) (fun o h w=>Pg.exec_move _ h _ (by kernel_rfl)) ?_
           with_reducible refine Pg.take 2 (.nilCheck (.tmp 83)) (some 84) (0) (.pointer (some ⟨w3.heap.size,0,none⟩)) (by kernel_rfl) (by kernel_rfl) (by kernel_rfl) (by kernel_rfl) (by intro _ _ _ h;with_unfolding_all exact h) (fun o h w=>Pg.exec_nil _ h _ (by kernel_rfl)) ?_
           with_reducible refine Pg.take 3 (.fieldAddr 190 (.tmp 84) 1) (some 85) (0) (.pointer (some ⟨w3.heap.size,4352,none⟩)) (by kernel_rfl) (by kernel_rfl) (by kernel_rfl) (by kernel_rfl) (by intro _ _ _ h;with_unfolding_all exact h) (fun o h w=>Pg.exec_field _ _ _ h (.pointer (some ⟨w3.heap.size,0,none⟩)) (by kernel_rfl) _ (Pg.run_field _ _)) ?_
           with_reducible refine Pg.take 5 (.move (.tmp 10)) (some 87) (221) (.pointer (some ⟨g,0,none⟩)) (by kernel_rfl) (by kernel_rfl) (by kernel_rfl) (by kernel_rfl) (by intro _ _ _ h;with_unfolding_all exact h) (fun o h w=>Pg.exec_move _ h _ (by kernel_rfl)) ?_
           with_reducible refine Pg.take 6 (.nilCheck (.tmp 87)) (some 88) (0) (.pointer (some ⟨g,0,none⟩)) (by kernel_rfl) (by kernel_rfl) (by kernel_rfl) (by kernel_rfl) (by intro _ _ _ h;with_unfolding_all exact h) (fun o h w=>Pg.exec_nil _ h _ (by kernel_rfl)) ?_
           refine Y6 (rs:=[4,7]) (by kernel_rfl) (by simp) ?_
           with_reducible refine Pg.branch (.load 188 (.tmp 85)) (some 86) (188) (.slice A2 ln c2) w5.drew (by kernel_rfl) (fun o h ht=>Pg.exec_load _ _ h (.pointer (some ⟨w3.heap.size,4352,none⟩)) (by kernel_rfl) _ cz) ?_ ?_
           · refine Y6 (rs:=[7]) (by kernel_rfl) (by simp) ?_
             with_reducible refine Pg.branch (.load 186 (.tmp 88)) (some 89) (186) (.agg (Pg.vs (Pg.blk f m)).toArray) _ (by kernel_rfl) (fun o h ht=>Pg.exec_load _ _ h (.pointer (some ⟨g,0,none⟩)) (by kernel_rfl) _ bg) ?_ ?_
             · refine Y6 (rs:=[8]) (by kernel_rfl) (by simp) ?_
               with_reducible refine Pg.branch (.buildSlice 188 1 #[(0,.tmp 89)]) (some 90) (188) (.slice (some ⟨w5.drew.heap.size,0,none⟩) 1 1) _ (by kernel_rfl) (fun o h ht=>Pg.exec_slice1 _ _ _ _ h (.agg (Pg.vs (Pg.blk f m)).toArray) (by kernel_rfl) _ a7) ?_ ?_
               · refine Y6 (rs:=[9]) (by kernel_rfl) (by simp) ?_
                 with_reducible refine Pg.branch (.call { callee:=.builtin .append,args := #[.tmp 86,.tmp 90],argTypes := #[188,188] }) (some 91) (188) _ _ (by kernel_rfl) (fun o h ht=>Pg.exec_append _ _ _ h (.slice A2 ln c2) (.slice (some ⟨w5.drew.heap.size,0,none⟩) 1 1) (by kernel_rfl) (by kernel_rfl) _ (by rw[ht];exact bb)) ?_ ?_
                 · with_reducible refine Pg.take 10 (.nilCheck (.tmp 82)) (some 92) (0) (.pointer (some ⟨w3.heap.size,0,none⟩)) (by kernel_rfl) (by kernel_rfl) (by kernel_rfl) (by kernel_rfl) (by intro _ _ _ h;with_unfolding_all exact h) (fun o h w=>Pg.exec_nil _ h _ (by kernel_rfl)) ?_
                   with_reducible refine Pg.take 11 (.fieldAddr 190 (.tmp 92) 1) (some 93) (0) (.pointer (some ⟨w3.heap.size,4352,none⟩)) (by kernel_rfl) (by kernel_rfl) (by kernel_rfl) (by kernel_rfl) (by intro _ _ _ h;with_unfolding_all exact h) (fun o h w=>Pg.exec_field _ _ _ h (.pointer (some ⟨w3.heap.size,0,none⟩)) (by kernel_rfl) _ (Pg.run_field _ _)) ?_
                   refine Y6 (rs:=[12]) (by kernel_rfl) (by simp) ?_
                   with_reducible refine Pg.branchS (.store 188 (.tmp 93) (.tmp 91)) _ (by kernel_rfl) (fun o h=>Pg.exec_store _ _ _ h (.pointer (some ⟨w3.heap.size,4352,none⟩)) (.slice A8 (ln+1) c8) (by kernel_rfl) (by kernel_rfl) (Pg.run_store1 _ _ _ _ _ _ _ f0 f1)) ?_ ?_
                   · refine wpAny_done (by kernel_rfl) ?_ _
                     have aa:Rw.At (w8.setCell ⟨w3.heap.size,4352,none⟩ (.slice A8 (ln+1) c8)) w3.heap.size 190 (Pg.vs (Pg.idxZ f m)++[.slice A8 (ln+1) c8]):=by
                      have hl:(Pg.vs (Pg.idxZ f m)).length=4352:=by unfold Pg.vs;rw[List.length_map,Pg.idxZ_len f (by omega)]
                      have:=ba.out.set 4352 (.slice A8 (ln+1) c8)
                      rw[YC _ _ (by rw[hl];exact Zb _),hl,Yv]at this
                      exact this
                     have z0:=Pg.cell_at aa HOLD.out
                     have z1:=aa.frozen m
                     have ey:=aa.lt
                     have bm:=Za aa
                     clear aa f0 f1 bg a7 cz dc bb
                     go_wp2_with fail
                     have b1:Below w2.heap.size wr ((w8.setCell ⟨w3.heap.size,4352,none⟩ (.slice A8 (ln+1) c8)).setCell ⟨w3.heap.size,m,none⟩ (.int .u16 ln)):=(ec.out.setCell (p:=⟨w3.heap.size,4352,none⟩) (Ya ag.out.1) _).setCell (p:=⟨w3.heap.size,m,none⟩) (Ya ag.out.1) _
                     have aq:(Value.slice A8 (ln+1) c8).ownBlock≠some w3.heap.size:=fun e=>Rw.own_not aj.out (by decide) _ e _ _ ba.out
                     refine⟨⟨m+1,.slice A8 (ln+1) c8,by omega,by go_num,ar.out.below b1 ag.out.2.2 (Zb _),?_,?_,?_,a6.out.trans (b1.mono (Ya ag.out.2.2))⟩,by simp[intOf];omega⟩
                     · exact (b9.out.grown (Rw.grown_set w3.heap.size 4352 _) (by have:=ag.out.2.1;simp;omega)).grown (Rw.grown_set w3.heap.size m _) (by have:=ag.out.2.1;simp;omega)
                     · rw[bq.out,az.out]
                       have:=bm.out.set m (.int .u16 ln)
                       rw[List.set_append_left _ _ (by unfold Pg.vs;rw[List.length_map,Pg.idxZ_len f (by omega)];exact hlt)]at this
                       rw[show Pg.vs ((Pg.idxZ f m).set m (ln:Int))=(Pg.vs (Pg.idxZ f m)).set m (.int .u16 ln) by unfold Pg.vs;rw[List.map_set]]
                       exact this
                     · rw[au.out,av.out,List.length_append,dy.out,List.flatten_append,show Pg.vs ((Pg.bls f m).flatten++[Pg.blk f m].flatten)=Pg.vs (Pg.bls f m).flatten++Pg.vs (Pg.blk f m) by unfold Pg.vs;simp]
                       exact (aj.out.kept (Rw.grown_set w3.heap.size 4352 _) (.inr aq)).kept (Rw.grown_set w3.heap.size m _) (.inr aq)
                   exact YZ
                 exact YZ
               exact YZ
             exact YZ
           with_reducible refine Pg.branch (.load 186 (.tmp 88)) (some 89) (186) (.agg (Pg.vs (Pg.blk f m)).toArray) _ (by kernel_rfl) (fun o h ht=>Pg.exec_load _ _ h (.pointer (some ⟨g,0,none⟩)) (by kernel_rfl) _ bg) ?_ ?_
           · refine Y6 (rs:=[4,8]) (by kernel_rfl) (by simp) ?_
             with_reducible refine Pg.branch (.load 188 (.tmp 85)) (some 86) (188) (.slice A2 ln c2) w5.drew (by kernel_rfl) (fun o h ht=>Pg.exec_load _ _ h (.pointer (some ⟨w3.heap.size,4352,none⟩)) (by kernel_rfl) _ cz) ?_ ?_
             · refine Y6 (rs:=[8]) (by kernel_rfl) (by simp) ?_
               with_reducible refine Pg.branch (.buildSlice 188 1 #[(0,.tmp 89)]) (some 90) (188) (.slice (some ⟨w5.drew.heap.size,0,none⟩) 1 1) _ (by kernel_rfl) (fun o h ht=>Pg.exec_slice1 _ _ _ _ h (.agg (Pg.vs (Pg.blk f m)).toArray) (by kernel_rfl) _ a7) ?_ ?_
               · refine Y6 (rs:=[9]) (by kernel_rfl) (by simp) ?_
                 with_reducible refine Pg.branch (.call { callee:=.builtin .append,args := #[.tmp 86,.tmp 90],argTypes := #[188,188] }) (some 91) (188) _ _ (by kernel_rfl) (fun o h ht=>Pg.exec_append _ _ _ h (.slice A2 ln c2) (.slice (some ⟨w5.drew.heap.size,0,none⟩) 1 1) (by kernel_rfl) (by kernel_rfl) _ (by rw[ht];exact bb)) ?_ ?_
                 · with_reducible refine Pg.take 10 (.nilCheck (.tmp 82)) (some 92) (0) (.pointer (some ⟨w3.heap.size,0,none⟩)) (by kernel_rfl) (by kernel_rfl) (by kernel_rfl) (by kernel_rfl) (by intro _ _ _ h;with_unfolding_all exact h) (fun o h w=>Pg.exec_nil _ h _ (by kernel_rfl)) ?_
                   with_reducible refine Pg.take 11 (.fieldAddr 190 (.tmp 92) 1) (some 93) (0) (.pointer (some ⟨w3.heap.size,4352,none⟩)) (by kernel_rfl) (by kernel_rfl) (by kernel_rfl) (by kernel_rfl) (by intro _ _ _ h;with_unfolding_all exact h) (fun o h w=>Pg.exec_field _ _ _ h (.pointer (some ⟨w3.heap.size,0,none⟩)) (by kernel_rfl) _ (Pg.run_field _ _)) ?_
                   refine Y6 (rs:=[12]) (by kernel_rfl) (by simp) ?_
                   with_reducible refine Pg.branchS (.store 188 (.tmp 93) (.tmp 91)) _ (by kernel_rfl) (fun o h=>Pg.exec_store _ _ _ h (.pointer (some ⟨w3.heap.size,4352,none⟩)) (.slice A8 (ln+1) c8) (by kernel_rfl) (by kernel_rfl) (Pg.run_store1 _ _ _ _ _ _ _ f0 f1)) ?_ ?_
                   · refine wpAny_done (by kernel_rfl) ?_ _
                     have aa:Rw.At (w8.setCell ⟨w3.heap.size,4352,none⟩ (.slice A8 (ln+1) c8)) w3.heap.size 190 (Pg.vs (Pg.idxZ f m)++[.slice A8 (ln+1) c8]):=by
                      have hl:(Pg.vs (Pg.idxZ f m)).length=4352:=by unfold Pg.vs;rw[List.length_map,Pg.idxZ_len f (by omega)]
                      have:=ba.out.set 4352 (.slice A8 (ln+1) c8)
                      rw[YC _ _ (by rw[hl];exact Zb _),hl,Yv]at this
                      exact this
                     have z0:=Pg.cell_at aa HOLD.out
                     have z1:=aa.frozen m
                     have ey:=aa.lt
                     have bm:=Za aa
                     clear aa f0 f1 bg a7 cz dc bb
                     go_wp2_with fail
                     have b1:Below w2.heap.size wr ((w8.setCell ⟨w3.heap.size,4352,none⟩ (.slice A8 (ln+1) c8)).setCell ⟨w3.heap.size,m,none⟩ (.int .u16 ln)):=(ec.out.setCell (p:=⟨w3.heap.size,4352,none⟩) (Ya ag.out.1) _).setCell (p:=⟨w3.heap.size,m,none⟩) (Ya ag.out.1) _
                     have aq:(Value.slice A8 (ln+1) c8).ownBlock≠some w3.heap.size:=fun e=>Rw.own_not aj.out (by decide) _ e _ _ ba.out
                     refine⟨⟨m+1,.slice A8 (ln+1) c8,by omega,by go_num,ar.out.below b1 ag.out.2.2 (Zb _),?_,?_,?_,a6.out.trans (b1.mono (Ya ag.out.2.2))⟩,by simp[intOf];omega⟩
                     · exact (b9.out.grown (Rw.grown_set w3.heap.size 4352 _) (by have:=ag.out.2.1;simp;omega)).grown (Rw.grown_set w3.heap.size m _) (by have:=ag.out.2.1;simp;omega)
                     · rw[bq.out,az.out]
                       have:=bm.out.set m (.int .u16 ln)
                       rw[List.set_append_left _ _ (by unfold Pg.vs;rw[List.length_map,Pg.idxZ_len f (by omega)];exact hlt)]at this
                       rw[show Pg.vs ((Pg.idxZ f m).set m (ln:Int))=(Pg.vs (Pg.idxZ f m)).set m (.int .u16 ln) by unfold Pg.vs;rw[List.map_set]]
                       exact this
                     · rw[au.out,av.out,List.length_append,dy.out,List.flatten_append,show Pg.vs ((Pg.bls f m).flatten++[Pg.blk f m].flatten)=Pg.vs (Pg.bls f m).flatten++Pg.vs (Pg.blk f m) by unfold Pg.vs;simp]
                       exact (aj.out.kept (Rw.grown_set w3.heap.size 4352 _) (.inr aq)).kept (Rw.grown_set w3.heap.size m _) (.inr aq)
                   exact YZ
                 exact YZ
               exact YZ
             with_reducible refine Pg.branch (.buildSlice 188 1 #[(0,.tmp 89)]) (some 90) (188) (.slice (some ⟨w5.drew.heap.size,0,none⟩) 1 1) _ (by kernel_rfl) (fun o h ht=>Pg.exec_slice1 _ _ _ _ h (.agg (Pg.vs (Pg.blk f m)).toArray) (by kernel_rfl) _ a7) ?_ ?_
             · refine Y6 (rs:=[4]) (by kernel_rfl) (by simp) ?_
               with_reducible refine Pg.branch (.load 188 (.tmp 85)) (some 86) (188) (.slice A2 ln c2) _ (by kernel_rfl) (fun o h ht=>Pg.exec_load _ _ h (.pointer (some ⟨w3.heap.size,4352,none⟩)) (by kernel_rfl) _ dc) ?_ ?_
               · refine Y6 (rs:=[9]) (by kernel_rfl) (by simp) ?_
                 with_reducible refine Pg.branch (.call { callee:=.builtin .append,args := #[.tmp 86,.tmp 90],argTypes := #[188,188] }) (some 91) (188) _ _ (by kernel_rfl) (fun o h ht=>Pg.exec_append _ _ _ h (.slice A2 ln c2) (.slice (some ⟨w5.drew.heap.size,0,none⟩) 1 1) (by kernel_rfl) (by kernel_rfl) _ (by rw[ht];exact bb)) ?_ ?_
                 · with_reducible refine Pg.take 10 (.nilCheck (.tmp 82)) (some 92) (0) (.pointer (some ⟨w3.heap.size,0,none⟩)) (by kernel_rfl) (by kernel_rfl) (by kernel_rfl) (by kernel_rfl) (by intro _ _ _ h;with_unfolding_all exact h) (fun o h w=>Pg.exec_nil _ h _ (by kernel_rfl)) ?_
                   with_reducible refine Pg.take 11 (.fieldAddr 190 (.tmp 92) 1) (some 93) (0) (.pointer (some ⟨w3.heap.size,4352,none⟩)) (by kernel_rfl) (by kernel_rfl) (by kernel_rfl) (by kernel_rfl) (by intro _ _ _ h;with_unfolding_all exact h) (fun o h w=>Pg.exec_field _ _ _ h (.pointer (some ⟨w3.heap.size,0,none⟩)) (by kernel_rfl) _ (Pg.run_field _ _)) ?_
                   refine Y6 (rs:=[12]) (by kernel_rfl) (by simp) ?_
                   with_reducible refine Pg.branchS (.store 188 (.tmp 93) (.tmp 91)) _ (by kernel_rfl) (fun o h=>Pg.exec_store _ _ _ h (.pointer (some ⟨w3.heap.size,4352,none⟩)) (.slice A8 (ln+1) c8) (by kernel_rfl) (by kernel_rfl) (Pg.run_store1 _ _ _ _ _ _ _ f0 f1)) ?_ ?_
                   · refine wpAny_done (by kernel_rfl) ?_ _
                     have aa:Rw.At (w8.setCell ⟨w3.heap.size,4352,none⟩ (.slice A8 (ln+1) c8)) w3.heap.size 190 (Pg.vs (Pg.idxZ f m)++[.slice A8 (ln+1) c8]):=by
                      have hl:(Pg.vs (Pg.idxZ f m)).length=4352:=by unfold Pg.vs;rw[List.length_map,Pg.idxZ_len f (by omega)]
                      have:=ba.out.set 4352 (.slice A8 (ln+1) c8)
                      rw[YC _ _ (by rw[hl];exact Zb _),hl,Yv]at this
                      exact this
                     have z0:=Pg.cell_at aa HOLD.out
                     have z1:=aa.frozen m
                     have ey:=aa.lt
                     have bm:=Za aa
                     clear aa f0 f1 bg a7 cz dc bb
                     go_wp2_with fail
                     have b1:Below w2.heap.size wr ((w8.setCell ⟨w3.heap.size,4352,none⟩ (.slice A8 (ln+1) c8)).setCell ⟨w3.heap.size,m,none⟩ (.int .u16 ln)):=(ec.out.setCell (p:=⟨w3.heap.size,4352,none⟩) (Ya ag.out.1) _).setCell (p:=⟨w3.heap.size,m,none⟩) (Ya ag.out.1) _
                     have aq:(Value.slice A8 (ln+1) c8).ownBlock≠some w3.heap.size:=fun e=>Rw.own_not aj.out (by decide) _ e _ _ ba.out
                     refine⟨⟨m+1,.slice A8 (ln+1) c8,by omega,by go_num,ar.out.below b1 ag.out.2.2 (Zb _),?_,?_,?_,a6.out.trans (b1.mono (Ya ag.out.2.2))⟩,by simp[intOf];omega⟩
                     · exact (b9.out.grown (Rw.grown_set w3.heap.size 4352 _) (by have:=ag.out.2.1;simp;omega)).grown (Rw.grown_set w3.heap.size m _) (by have:=ag.out.2.1;simp;omega)
                     · rw[bq.out,az.out]
                       have:=bm.out.set m (.int .u16 ln)
                       rw[List.set_append_left _ _ (by unfold Pg.vs;rw[List.length_map,Pg.idxZ_len f (by omega)];exact hlt)]at this
                       rw[show Pg.vs ((Pg.idxZ f m).set m (ln:Int))=(Pg.vs (Pg.idxZ f m)).set m (.int .u16 ln) by unfold Pg.vs;rw[List.map_set]]
                       exact this
                     · rw[au.out,av.out,List.length_append,dy.out,List.flatten_append,show Pg.vs ((Pg.bls f m).flatten++[Pg.blk f m].flatten)=Pg.vs (Pg.bls f m).flatten++Pg.vs (Pg.blk f m) by unfold Pg.vs;simp]
                       exact (aj.out.kept (Rw.grown_set w3.heap.size 4352 _) (.inr aq)).kept (Rw.grown_set w3.heap.size m _) (.inr aq)
                   exact YZ
                 exact YZ
               exact YZ
             exact YZ
           exact YZ
     · obtain rfl:m=4352:=by omega
       obtain⟨A2,c2,rfl⟩:=own_form bk
       have bo:=Za c7
       have ai:=Za bk
       have a6:=Za ah
       clear ao dl c7 bk ah hlt
       go_wp2_with fail
       go_ret
       refine⟨_,rfl,?_,a6.out⟩
       rw[HF.out]
       refine⟨w3.heap.size,A2,c2,rfl,by have:=ag.out;omega,?_,Sl.of_own ai.out,fun a ha=>?_⟩
       · have:=bo.out
         rw[Pg.idxZ_end]at this
         exact this
       · subst ha
         have:=(ai.out.lt a.block rfl).1
         have:=ag.out
         omega
end Go.Proofs.YtikiplbhlohmdaaGreatDoor
