/- Pages: New, by walking its text. -/
import Derived.Test.YtbeakahjbkdeiaaGreatDoorAl1
import Derived.Test.YtbeakahjbkdeiaaGreatDoorPgReg
set_option linter.unusedVariables false
set_option linter.unusedSimpArgs false
namespace Go.Proofs.YtbeakahjbkdeiaaGreatDoor
open Go.RowKit
set_option linter.unusedSimpArgs false
set_option linter.unusedVariables false
set_option maxRecDepth 100000 in
set_option maxHeartbeats 4000000 in
theorem Pg.new_lo (A:Option Addr) (n c:Nat) (L:List (Int × Int)) (w:World) (hn:L.length=n) (e5:Pg.cellsOk L) (hs:Sl w w.heap.size A (Pg.fl L)) (fk:n≤maxLen) :
 Calls Tryz.prog 122 #[.slice A n c] w fun e w'=>∃v,e=.returned v∧Pg.OfL w.heap.size w' v (Pg.last L)∧Below w.heap.size w w':=by
 have dm:=@run_makeMap Tryz.prog
 have ao:=Pg.St.made w w.heap.size (w.alloc (.map #[] 0)).heap.size
 have dy:Below w.heap.size w (w.alloc (.map #[] 0)):=(Zd _ _).alloc (Zb _) _
 obtain⟨w1,df⟩:∃w1,w.alloc (.map #[] 0)=w1:=⟨_,rfl⟩
 rw[df]at ao dy
 have e2:w1.heap.size=w.heap.size+1:=by rw[←df];simp
 have e7:=Za df
 have en:=Za ao
 have ey:=Za dy
 have HS:=Za hs
 have HN:=Za hn
 have cm:=Za e5
 have fx:=Za e2
 simp only[maxLen]at fk
 clear df ao dy hs hn e5 e2
 go_enter Tryz.func122,Tryz.ntmps122
 go_upto_region 2 with (fail)
 rw[e7.out]
 clear dm
 go_wp2_with fail
 go_loopw [16] (fun i wr=>∃(k:Nat) (G:Nat→Option Nat),k≤n∧i=.int .i64 k∧Pg.St w.heap.size wr.heap.size wr w.heap.size (Pg.last (L.take k)) G∧Below w.heap.size w wr) (fun i _=>n-(intOf i).toNat)
 case atStart=>exact⟨0,_,Zz _,rfl,en.out,ey.out⟩
 case round =>
  obtain⟨k,G,hk,rfl,ao,ah⟩:=hrel
  by_cases hlt:k<n
  · obtain⟨x,hx⟩:∃x,L[k]?=some x:=⟨_,Zc (by rw[HN.out];exact hlt)⟩
    have et:=cm.out x (Zk hx)
    obtain⟨b,o,rfl,hb,du⟩:=(HS.out.below ah ah.size) (by rw[Pg.fl_len,HN.out];omega)
    have c0:=du (k*2) (by rw[Pg.fl_len,HN.out];omega)
    have c1:=du (k*2+1) (by rw[Pg.fl_len,HN.out];omega)
    rw[(Pg.fl_get L k x hx).1]at c0
    rw[(Pg.fl_get L k x hx).2,←Yh]at c1
    have eo:L.take (k+1)=L.take k++[x]:=by rw[Zr,hx];rfl
    have eb:=Za eo
    have gh:(k:Int)<n:=by omega
    have fw:(0:Int)≤k:=by omega
    have ef:Below wr.heap.size wr (wr.alloc (.cells #[.int .i32 x.1,.int .u16 x.2] 178)):=(Zd _ _).alloc (Zb _) _
    have cg:=Rw.At.new wr 178 [.int .i32 x.1,.int .u16 x.2]
    have cj:=ao.below ef ao.lt (Zb _)
    have bw:=ah.trans (ef.mono ah.size)
    have ay:=Za cj
    have aa:=Za bw
    have ba:=Za cg
    have hmb:=ao.lt
    have cw:(wr.alloc (.cells #[.int .i32 x.1,.int .u16 x.2] 178)).heap.size=wr.heap.size+1:=by simp
    have bc:=Za cw
    have hI:=Pg.in_any x.1 (wr.alloc (.cells #[.int .i32 x.1,.int .u16 x.2] 178))
    have gb:=Za et
    clear hx du eo ao ah ef cg cj bw cw et
    obtain⟨x1,x2⟩:=x
    dsimp only at *
    by_cases hc:0≤x1∧x1≤1114111
    · rw[Zo hc]at hI
      have HI:=Za hI
      obtain⟨N,hN⟩:∃N:Nat,x1/256=N:=⟨(x1/256).toNat,by omega⟩
      obtain⟨M,hM⟩:∃M:Nat,x1%256=M:=⟨(x1%256).toNat,by omega⟩
      have b2:N<4352:=by omega
      have ez:M<256:=by omega
      have hand:=Pg.and_8 x1 hc.1 hc.2
      rw[hM]at hand
      have b3:Hid (Pg.blk (Pg.last (L.take (k+1))) N=(Pg.blk (Pg.last (L.take k)) N).set M x2):=Za (by rw[eb.out];exact Pg.blk_set _ _ hN hM)
      have bg:Hid (∀m,m≠N→Pg.blk (Pg.last (L.take (k+1))) m=Pg.blk (Pg.last (L.take k)) m):=Za (fun m hm=>by rw[eb.out];exact Pg.blk_other _ _ hN hm)
      have fy:(M:Int)<256:=by omega
      have fz:(0:Int)≤M:=by omega
      have HM:=Za hM
      clear hI hM
      obtain⟨wa,ed⟩:∃wa,wr.alloc (.cells #[.int .i32 x1,.int .u16 x2] 178)=wa:=⟨_,rfl⟩
      rw[ed]at ay aa ba bc HI
      have fg:=Za ed
      clear ed
      go_upto_region 5 with (fail)
      rw[fg.out]
      clear c0 c1
      have c0:=ba.out.cell 0 rfl
      have c1:=ba.out.cell 1 rfl
      have hq:=ba.out.lt
      go_wp2_with fail
      refine HI.out.mono ?_
      rintro e w5 ⟨rfl,rfl⟩
      have aw:=ay.out.look b2
      rcases hG:G N with _|g
      · rw[hG]at aw
        replace aw:(Instr.lookup 242 (.map (some w.heap.size)) (.int .i32 N) false).run Tryz.prog wa=.ok (.pointer none) wa:=aw
        obtain⟨wb,G',a8,cr,ei,ea⟩:=ay.out.put b2 hG (by rw[bc.out];exact Zh (aa.out.size) (by rw[bc.out];exact Zb _)) (by rw[bc.out];omega)
        have eg:=(ba.out.alloc (.cells (Pg.vs Pg.zeros).toArray 183)).grown ea (by
         intro e
         have e:=Z4 e
         omega)
        have e6:=Za ea
        have dx:=Za cr
        have fm:=Za ei
        have fu:=Za eg
        clear cr ea eg ei hG
        go_upto_region 9 with (first|(refine Pg.wpList_exec rfl _ (Pg.exec_build 183 rfl _ (Pg.runZ _)) ?_)|fail)
        have ax:=dx
        have b6:=fm
        have cb:=fu
        have bj:Hid (Below w.heap.size w wb):=Za ((aa.out.alloc (aa.out.size) (.cells (Pg.vs Pg.zeros).toArray 183)).trans (Rw.below_grown e6.out (by simp;have:=aa.out.size;omega) fun q hq=>by cases hq;exact Zb _))
        clear a8 hmb
        have ak:(Instr.lookup 242 (.map (some w.heap.size)) (.int .i32 N) false).run Tryz.prog wb.drew=.ok (.pointer (some ⟨wa.heap.size,0,none⟩)) wb.drew:=by
         have:=Pg.St.look (W:=wb.drew) ax.out b2
         rw[b6.out]at this
         exact this
        obtain⟨dt,e8,af⟩:=ax.out.at b2 b6.out
        have ew:=af.lt
        obtain⟨y,hy⟩:∃y,(Pg.vs (Pg.blk (Pg.last (L.take k)) N))[M]?=some y:=⟨_,List.getElem?_eq_getElem (by unfold Pg.vs;rw[List.length_map,Pg.blk_len];exact ez)⟩
        have e0:=af.cell M hy
        have e1:=af.frozen M
        have d0:=cb.out.cell 0 rfl
        have d1:=cb.out.cell 1 rfl
        have cv:=cb.out.lt
        have b9:=Za af
        clear aw af hy c0 c1
        go_region
        go_wp2_with fail
        exact⟨⟨k+1,_,by omega,by go_num,(ax.out.store (hi:=_) b2 b6.out x2 b3.out bg.out).more (by simp[ZJ]),(bj.out.setCell (p:=⟨wa.heap.size,M,none⟩) dt _).drew⟩,by simp[intOf];omega⟩
      · rw[hG]at aw
        replace aw:(Instr.lookup 242 (.map (some w.heap.size)) (.int .i32 N) false).run Tryz.prog wa=.ok (.pointer (some ⟨g,0,none⟩)) wa:=aw
        have ax:=ay
        have b6:=Za hG
        have cb:=ba
        have bj:=aa
        clear hG
        go_upto_region 9 with (fail)
        have ak:(Instr.lookup 242 (.map (some w.heap.size)) (.int .i32 N) false).run Tryz.prog wa.drew=.ok (.pointer (some ⟨g,0,none⟩)) wa.drew:=by
         have:=Pg.St.look (W:=wa.drew) ax.out b2
         rw[b6.out]at this
         exact this
        obtain⟨dt,e8,af⟩:=ax.out.at b2 b6.out
        have ew:=af.lt
        obtain⟨y,hy⟩:∃y,(Pg.vs (Pg.blk (Pg.last (L.take k)) N))[M]?=some y:=⟨_,List.getElem?_eq_getElem (by unfold Pg.vs;rw[List.length_map,Pg.blk_len];exact ez)⟩
        have e0:=af.cell M hy
        have e1:=af.frozen M
        have d0:=cb.out.cell 0 rfl
        have d1:=cb.out.cell 1 rfl
        have cv:=cb.out.lt
        have b9:=Za af
        clear aw af hy c0 c1 hq
        go_region
        go_wp2_with fail
        exact⟨⟨k+1,_,by omega,by go_num,(ax.out.store (hi:=_) b2 b6.out x2 b3.out bg.out).more (by have:=bc.out;simp[ZJ];omega),(bj.out.setCell (p:=⟨g,M,none⟩) dt _).drew⟩,by simp[intOf];omega⟩
    · rw[Zu hc]at hI
      have HI:=Za hI
      have bu:∀m,m<4352→Pg.blk (Pg.last (L.take (k+1))) m=Pg.blk (Pg.last (L.take k)) m:=fun m hm=>by rw[eb.out];exact Pg.blk_skip _ _ (Zu hc) hm
      have cq:=Za bu
      clear hI bu
      go_wp2_with fail
      refine HI.out.mono ?_
      rintro e w5 ⟨rfl,rfl⟩
      go_wp2_with fail
      exact⟨⟨k+1,G,by omega,by go_num,(ay.out.more (by rw[bc.out];omega)).turn cq.out,aa.out⟩,by simp[intOf];omega⟩
  · obtain rfl:n=k:=by omega
    rw[Zj (by rw[HN.out];exact Zb _)]at ao
    obtain⟨w2,rfl⟩:∃w2:World,w2=wr:=⟨_,rfl⟩
    obtain⟨f,hf⟩:∃f,Pg.last L=f:=⟨_,rfl⟩
    rw[hf]at ao
    have cx:∀m,Pg.u16 (Pg.blk f m):=fun m=>by rw[←hf];exact Pg.blk_u16 (fun x hx=>(cm.out x hx).2.2) m
    have HF:=Za hf
    have HU:=Za cx
    have ay:=Za ao
    have aa:=Za ah
    have hmb:=ao.lt
    have dn:=Pg.runS w2 Pg.zeros List.length_replicate
    obtain⟨w3,cd⟩:∃w3,w2.alloc (.cells (Pg.vs Pg.zeros).toArray 183)=w3:=⟨_,rfl⟩
    have b4:w3.ownsRow w2.heap.size 183 256 (.slice (some ⟨w2.heap.size,0,none⟩) 1 1) 1 (Pg.vs Pg.zeros):=by
     rw[←cd]
     exact⟨by unfold Pg.vs Pg.zeros;simp,.inr ⟨_,1,(Pg.vs Pg.zeros).toArray,rfl,Nat.le_refl _,heap_alloc_new w2 _,Nat.le_refl _,by decide,by unfold Pg.vs Pg.zeros;simp,by unfold Pg.vs Pg.zeros;simp⟩⟩
    have di:Below w2.heap.size w2 w3:=by rw[←cd];exact (Zd _ _).alloc (Zb _) _
    have fq:w3.heap.size=w2.heap.size+1:=by rw[←cd];simp
    rw[cd]at dn
    obtain⟨arr,cc⟩:∃arr,(Pg.vs (List.replicate 4352 0)++[Value.slice (some ⟨w2.heap.size,0,none⟩) 1 1]).toArray=arr:=⟨_,rfl⟩
    have ec:=Pg.runP w3 ⟨w2.heap.size,0,none⟩
    rw[cc]at ec
    obtain⟨w4,cf⟩:∃w4,w3.alloc (.cells arr 187)=w4:=⟨_,rfl⟩
    have cy:Rw.At w4 w3.heap.size 187 (Pg.vs (Pg.idxZ f 0)++[.slice (some ⟨w2.heap.size,0,none⟩) 1 1]):=by
     rw[←cf,←cc]
     exact Rw.At.new w3 187 _
    have dp:Below w3.heap.size w3 w4:=by rw[←cf];exact (Zd _ _).alloc (Zb _) _
    have fc:w4.heap.size=w3.heap.size+1:=by rw[←cf];simp
    obtain⟨w6,a8,cp,c7⟩:=Pg.Pl.made w4 0
    have dz:Below w4.heap.size w4 w6:=((Zd _ _).alloc (Zb _) _).trans (Rw.below_grown c7 (by simp) fun q hq=>by cases hq;exact Zb _)
    have b8:Below w3.heap.size w3 w6:=dp.trans (dz.mono dp.size)
    have b5:Below w2.heap.size w2 w6:=di.trans (b8.mono di.size)
    have c6:=Za (ao.below b5 hmb (Zb _))
    have ch:=Za (cy.below dz)
    have bt:=Za (own_below b4 b8 (Zb _))
    have cz:=Za cp
    have ep:=Za (aa.out.trans (b5.mono aa.out.size))
    have fp:=Za cd
    have e3:=Za cf
    have ag:Hid (w2.heap.size<w3.heap.size∧w3.heap.size<w4.heap.size∧w.heap.size<w2.heap.size):=Za ⟨by omega,by omega,hmb⟩
    have dm:=@run_makeMap Tryz.prog
    clear ao ah hf cx b4 di cc cy dp cp c7 dz b8 b5 cd cf hlt fq fc hmb
    go_upto_region 11 with (fail)
    go_step
    refine Pg.wpList_exec rfl _ (Pg.exec_build 183 rfl _ (Pg.runZ _)) ?_
    refine Pg.wpList_exec rfl _ (Pg.exec_slice1 185 1 0 _ rfl (.agg (Pg.vs Pg.zeros).toArray) rfl _ dn) ?_
    refine Pg.wpList_exec rfl _ (Pg.exec_build1 187 1 _ rfl (.slice (some ⟨w2.heap.size,0,none⟩) 1 1) rfl _ ec) ?_
    clear dn ec
    go_upto_region 12 with (fail)
    rw[e3.out]
    go_upto_region 13 with (first|(refine Pg.wpList_exec rfl _ (Pg.exec_build 183 rfl _ (Pg.runZ _)) ?_)|fail)
    clear dm a8 fp e3
    have e9:Hid (Pg.bls f 0=[Pg.zeros]):=Za rfl
    go_wp2_with fail
    go_loopw [53] (fun i wr=>∃(m:Nat) (v:Value),m≤4352∧i=.int .i64 m∧Pg.St w.heap.size w2.heap.size wr w.heap.size f G∧Pg.Pl wr w4.heap.size (Pg.bls f m)∧Rw.At wr w3.heap.size 187 (Pg.vs (Pg.idxZ f m)++[v])∧wr.ownsRow w2.heap.size 183 256 v (Pg.bls f m).length (Pg.vs (Pg.bls f m).flatten)∧Below w.heap.size w wr) (fun i _=>4352-(intOf i).toNat)
    case atStart=>exact⟨0,_,Nat.zero_le _,rfl,c6.out,cz.out,ch.out,by rw[e9.out];simpa using bt.out,ep.out⟩
    case round =>
     obtain⟨m,v,hm,rfl,ao,dr,ct,bk,ah⟩:=hrel
     clear en ey HS ay aa c6 cz ch bt ep
     by_cases hlt:m<4352
     · have mI:(m:Int)<4352:=by omega
       have m0:(0:Int)≤m:=by omega
       have fo:IntKind.i32.wrap (m:Int)=m:=by rw[XE];omega
       have aw:=ao.look hlt
       have au:=Za ao
       have cu:=Za dr
       have bo:=Za ct
       have ai:=Za bk
       have a6:=Za ah
       have fe:=ct.lt
       have ee:=Pg.bls_len f m
       clear ao dr ct bk ah
       rcases hG:G m with _|g
       · rw[hG]at aw
         replace aw:(Instr.lookup 242 (.map (some w.heap.size)) (.int .i32 m) false).run Tryz.prog wr=.ok (.pointer none) wr:=aw
         obtain⟨s1,s2⟩:=Pg.idxZ_skip f hlt (au.out.none hlt hG)
         have S1:=Za s1
         have S2:=Za s2
         clear s1 s2 hG
         go_wp2_with fail
         exact⟨⟨m+1,v,by omega,by go_num,au.out,by rw[S1.out];exact cu.out,by rw[S2.out];exact bo.out,by rw[S1.out];exact ai.out,a6.out⟩,by simp[intOf];omega⟩
       · rw[hG]at aw
         replace aw:(Instr.lookup 242 (.map (some w.heap.size)) (.int .i32 m) false).run Tryz.prog wr=.ok (.pointer (some ⟨g,0,none⟩)) wr:=aw
         have af:=(au.out.at hlt hG).2.2
         have ew:=af.lt
         have ft:=(au.out.at hlt hG).2.1
         have eh:=Za (Pg.At.load af (Pg.blk_len f m))
         have b9:=Za af
         have ak:=cu.out.look (HU.out m)
         have ap:Hid (Pg.bls f (m+1)=Pg.add (Pg.bls f m) (Pg.blk f m)):=Za rfl
         have bs:=Za (Pg.idxZ_set f hlt)
         obtain⟨ek,hold⟩:∃ek,(Pg.vs (Pg.idxZ f m))[m]?=some ek:=⟨_,List.getElem?_eq_getElem (by unfold Pg.vs;rw[List.length_map,Pg.idxZ_len f (by omega)];exact hlt)⟩
         have HOLD:=Za hold
         clear hG af hold
         by_cases hmem:Pg.blk f m∈Pg.bls f m
         · have av:=Za (Pg.add_there hmem)
           have bh:Pg.place (Pg.bls f m) (Pg.blk f m)=some (Pg.at (Pg.bls f m) (Pg.blk f m)):=Zv hmem
           have cv:=Pg.at_lt hmem
           have az:Hid (Pg.at (Pg.bls f (m+1)) (Pg.blk f m)=Pg.at (Pg.bls f m) (Pg.blk f m)):=Za (by rw[ap.out,av.out])
           obtain⟨q,hq⟩:∃q,Pg.at (Pg.bls f m) (Pg.blk f m)=q:=⟨_,rfl⟩
           rw[bh,hq]at ak
           rw[hq]at cv az
           replace ak:(Instr.lookup 244 (.map (some w4.heap.size)) (.agg (Pg.vs (Pg.blk f m)).toArray) true).run Tryz.prog wr=.ok (.tuple #[.int .i64 q,.bool true]) wr:=ak
           have fj:IntKind.u16.wrap (q:Int)=q:=by rw[IntKind.wrap_u16];omega
           have z0:=Pg.cell_at bo.out HOLD.out
           have z1:=bo.out.frozen m
           have gg:=Za cv
           clear hmem bh hq cv
           go_wp2_with (first|(refine Pg.wpList_load rfl 183 _ rfl _ _ rfl eh.out ?_)|fail)
           have hb:Below w2.heap.size wr (wr.setCell ⟨w3.heap.size,m,none⟩ (.int .u16 q)):=(Zd _ _).setCell (p:=⟨w3.heap.size,m,none⟩) (Z3 ag.out.1) _
           refine⟨⟨m+1,v,by omega,by go_num,au.out.below hb ag.out.2.2 (Zb _),?_,?_,?_,a6.out.trans (hb.mono (Z3 ag.out.2.2))⟩,by simp[intOf];omega⟩
           · rw[ap.out,av.out]
             exact cu.out.grown (Rw.grown_set w3.heap.size m _) (by have:=ag.out.2.1;simp;omega)
           · rw[bs.out,az.out]
             have:=bo.out.set m (.int .u16 q)
             rw[List.set_append_left _ _ (by unfold Pg.vs;rw[List.length_map,Pg.idxZ_len f (by omega)];exact hlt)]at this
             rw[show Pg.vs ((Pg.idxZ f m).set m (q:Int))=(Pg.vs (Pg.idxZ f m)).set m (.int .u16 q) by unfold Pg.vs;rw[List.map_set]]
             exact this
           · rw[ap.out,av.out]
             refine ai.out.kept (Rw.grown_set w3.heap.size m _) (.inr fun e=>?_)
             exact Rw.own_not ai.out (by decide) _ e _ _ bo.out
         · have av:=Za (Pg.add_new hmem)
           have bh:Pg.place (Pg.bls f m) (Pg.blk f m)=none:=Zs hmem
           have az:Hid (Pg.at (Pg.bls f (m+1)) (Pg.blk f m)=(Pg.bls f m).length):=Lib.hid (by rw[ap.out,av.out];unfold Pg.at;rw[List.idxOf_append,if_neg hmem];simp)
           have ej:=Za hmem
           rw[bh]at ak
           obtain⟨A2,c2,rfl⟩:=own_form ai.out
           obtain⟨ln,dc⟩:∃ln,(Pg.bls f m).length=ln:=⟨_,rfl⟩
           rw[dc]at ai az ee bo
           replace ak:(Instr.lookup 244 (.map (some w4.heap.size)) (.agg (Pg.vs (Pg.blk f m)).toArray) true).run Tryz.prog wr=.ok (.tuple #[.int .i64 0,.bool false]) wr:=ak
           obtain⟨w5,a8,bp,br⟩:=cu.out.put (HU.out m) hmem
           rw[dc]at a8
           rw[←ap.out]at bp
           have z1:=Pg.cell_last bo.out (n:=4352) (by unfold Pg.vs;rw[List.length_map,Pg.idxZ_len f (by omega)])
           have dl:Below w2.heap.size wr w5:=Rw.below_grown br (by have:=ag.out.1;omega) fun q hq=>by cases hq;have:=ag.out;omega
           have bx:some w4.heap.size≠some w3.heap.size:=by have:=ag.out.2.1;simp;omega
           have a1:=bo.out.grown br bx
           have ar:=ai.out.kept br (.inr (Pg.own_notmap ai.out cu.out))
           have bz:=b9.out.below' dl ft
           have bi:=Pg.At.load (w:=w5.drew) bz (Pg.blk_len f m)
           have a7:=Pg.runS w5.drew (Pg.blk f m) (Pg.blk_len f m)
           have fh:=a1.lt
           obtain⟨v8,w8,bb,bm,bq⟩:=Pg.run_more w2.heap.size w5.drew _ ln _ (Pg.blk f m) (Pg.blk_len f m) ar (by have:=ag.out.1;show w2.heap.size≤w5.heap.size;omega) (by omega) 185
           obtain⟨A8,c8,rfl⟩:=own_form bm
           have eu:(Value.slice A2 ln c2).ownBlock≠some w3.heap.size:=fun e=>Rw.own_not ar (by decide) _ e _ _ a1
           have bn:=Rw.At.grown (w:=w5.drew) a1 bq eu
           have e4:Below w2.heap.size wr w8:=dl.drew.trans (Rw.below_grown (w:=w5.drew) bq (by have:=ag.out.1;show w2.heap.size≤w5.heap.size;omega) fun q hq=>(ar.lt q hq).1)
           have d0:=Pg.cell_last a1 (n:=4352) (by unfold Pg.vs;rw[List.length_map,Pg.idxZ_len f (by omega)])
           have dw:=a1.alloc (.cells (Pg.vs (Pg.blk f m)).toArray 183)
           have ck:=Pg.run_load1 w5.drew w3.heap.size 4352 (.slice A2 ln c2) d0
           have dh:=Pg.run_load1 (w5.drew.alloc (.cells (Pg.vs (Pg.blk f m)).toArray 183)) w3.heap.size 4352 (.slice A2 ln c2) (Pg.cell_last (Rw.At.alloc (w:=w5.drew) a1 _) (n:=4352) (by unfold Pg.vs;rw[List.length_map,Pg.idxZ_len f (by omega)]))
           have f0:=Pg.cell_last bn (n:=4352) (by unfold Pg.vs;rw[List.length_map,Pg.idxZ_len f (by omega)])
           have f1:=bn.frozen 4352
           have cn:=Pg.Pl.grown (W:=w5.drew) bp bq (fun e=>Pg.own_notmap ar bp e.symm)
           have bf:=Za bn
           have aj:=Za bm
           have b7:=Za cn
           have dk:=Za e4
           have dv:=Za dc
           have fj:IntKind.u16.wrap (ln:Int)=ln:=by rw[IntKind.wrap_u16];omega
           have gf:=(bn.set 4352 (.slice A8 (ln+1) c8))
           clear hmem bh bp br dl a1 ar bz dw bm bq e4 bn cn dc eu bx
           go_upto_region 22 with (first|(refine Pg.wpList_load rfl 183 _ rfl _ _ rfl eh.out ?_)|fail)
           clear aw ak a8 z1
           refine wp_region_any (by kernel_rfl) ?_
           change wpAny _ _ _ _ 13 _ _ (World.drew _)
           with_reducible refine Pg.take 0 (.move (.tmp 7)) (some 82) (123) (.pointer (some ⟨w3.heap.size,0,none⟩)) (by kernel_rfl) (by kernel_rfl) (by kernel_rfl) (by kernel_rfl) (by intro _ _ _ h;with_unfolding_all exact h) (fun o h w=>Pg.exec_move _ h _ (by kernel_rfl)) ?_
           with_reducible refine Pg.take 1 (.move (.tmp 7)) (some 83) (123) (.pointer (some ⟨w3.heap.size,0,none⟩)) (by kernel_rfl) (by kernel_rfl) (by kernel_rfl) (by kernel_rfl) (by intro _ _ _ h;with_unfolding_all exact h) (fun o h w=>Pg.exec_move _ h _ (by kernel_rfl)) ?_
           with_reducible refine Pg.take 2 (.nilCheck (.tmp 83)) (some 84) (0) (.pointer (some ⟨w3.heap.size,0,none⟩)) (by kernel_rfl) (by kernel_rfl) (by kernel_rfl) (by kernel_rfl) (by intro _ _ _ h;with_unfolding_all exact h) (fun o h w=>Pg.exec_nil _ h _ (by kernel_rfl)) ?_
           with_reducible refine Pg.take 3 (.fieldAddr 187 (.tmp 84) 1) (some 85) (0) (.pointer (some ⟨w3.heap.size,4352,none⟩)) (by kernel_rfl) (by kernel_rfl) (by kernel_rfl) (by kernel_rfl) (by intro _ _ _ h;with_unfolding_all exact h) (fun o h w=>Pg.exec_field _ _ _ h (.pointer (some ⟨w3.heap.size,0,none⟩)) (by kernel_rfl) _ (Pg.run_field _ _)) ?_
           with_reducible refine Pg.take 5 (.move (.tmp 10)) (some 87) (243) (.pointer (some ⟨g,0,none⟩)) (by kernel_rfl) (by kernel_rfl) (by kernel_rfl) (by kernel_rfl) (by intro _ _ _ h;with_unfolding_all exact h) (fun o h w=>Pg.exec_move _ h _ (by kernel_rfl)) ?_
           with_reducible refine Pg.take 6 (.nilCheck (.tmp 87)) (some 88) (0) (.pointer (some ⟨g,0,none⟩)) (by kernel_rfl) (by kernel_rfl) (by kernel_rfl) (by kernel_rfl) (by intro _ _ _ h;with_unfolding_all exact h) (fun o h w=>Pg.exec_nil _ h _ (by kernel_rfl)) ?_
           refine YX (rs:=[4,7]) (by kernel_rfl) (by simp) ?_
           with_reducible refine Pg.branch (.load 185 (.tmp 85)) (some 86) (185) (.slice A2 ln c2) w5.drew (by kernel_rfl) (fun o h ht=>Pg.exec_load _ _ h (.pointer (some ⟨w3.heap.size,4352,none⟩)) (by kernel_rfl) _ ck) ?_ ?_
           · refine YX (rs:=[7]) (by kernel_rfl) (by simp) ?_
             with_reducible refine Pg.branch (.load 183 (.tmp 88)) (some 89) (183) (.agg (Pg.vs (Pg.blk f m)).toArray) _ (by kernel_rfl) (fun o h ht=>Pg.exec_load _ _ h (.pointer (some ⟨g,0,none⟩)) (by kernel_rfl) _ bi) ?_ ?_
             · refine YX (rs:=[8]) (by kernel_rfl) (by simp) ?_
               with_reducible refine Pg.branch (.buildSlice 185 1 #[(0,.tmp 89)]) (some 90) (185) (.slice (some ⟨w5.drew.heap.size,0,none⟩) 1 1) _ (by kernel_rfl) (fun o h ht=>Pg.exec_slice1 _ _ _ _ h (.agg (Pg.vs (Pg.blk f m)).toArray) (by kernel_rfl) _ a7) ?_ ?_
               · refine YX (rs:=[9]) (by kernel_rfl) (by simp) ?_
                 with_reducible refine Pg.branch (.call { callee:=.builtin .append,args := #[.tmp 86,.tmp 90],argTypes := #[185,185] }) (some 91) (185) _ _ (by kernel_rfl) (fun o h ht=>Pg.exec_append _ _ _ h (.slice A2 ln c2) (.slice (some ⟨w5.drew.heap.size,0,none⟩) 1 1) (by kernel_rfl) (by kernel_rfl) _ (by rw[ht];exact bb)) ?_ ?_
                 · with_reducible refine Pg.take 10 (.nilCheck (.tmp 82)) (some 92) (0) (.pointer (some ⟨w3.heap.size,0,none⟩)) (by kernel_rfl) (by kernel_rfl) (by kernel_rfl) (by kernel_rfl) (by intro _ _ _ h;with_unfolding_all exact h) (fun o h w=>Pg.exec_nil _ h _ (by kernel_rfl)) ?_
                   with_reducible refine Pg.take 11 (.fieldAddr 187 (.tmp 92) 1) (some 93) (0) (.pointer (some ⟨w3.heap.size,4352,none⟩)) (by kernel_rfl) (by kernel_rfl) (by kernel_rfl) (by kernel_rfl) (by intro _ _ _ h;with_unfolding_all exact h) (fun o h w=>Pg.exec_field _ _ _ h (.pointer (some ⟨w3.heap.size,0,none⟩)) (by kernel_rfl) _ (Pg.run_field _ _)) ?_
                   refine YX (rs:=[12]) (by kernel_rfl) (by simp) ?_
                   with_reducible refine Pg.branchS (.store 185 (.tmp 93) (.tmp 91)) _ (by kernel_rfl) (fun o h=>Pg.exec_store _ _ _ h (.pointer (some ⟨w3.heap.size,4352,none⟩)) (.slice A8 (ln+1) c8) (by kernel_rfl) (by kernel_rfl) (Pg.run_store1 _ _ _ _ _ _ _ f0 f1)) ?_ ?_
                   · refine wpAny_done (by kernel_rfl) ?_ _
                     have ae:Rw.At (w8.setCell ⟨w3.heap.size,4352,none⟩ (.slice A8 (ln+1) c8)) w3.heap.size 187 (Pg.vs (Pg.idxZ f m)++[.slice A8 (ln+1) c8]):=by
                      have hl:(Pg.vs (Pg.idxZ f m)).length=4352:=by unfold Pg.vs;rw[List.length_map,Pg.idxZ_len f (by omega)]
                      have:=bf.out.set 4352 (.slice A8 (ln+1) c8)
                      rw[Yx _ _ (by rw[hl];exact Zb _),hl,Yu]at this
                      exact this
                     have z0:=Pg.cell_at ae HOLD.out
                     have z1:=ae.frozen m
                     have er:=ae.lt
                     have bl:=Za ae
                     clear ae f0 f1 bi a7 ck dh bb
                     go_wp2_with fail
                     have b1:Below w2.heap.size wr ((w8.setCell ⟨w3.heap.size,4352,none⟩ (.slice A8 (ln+1) c8)).setCell ⟨w3.heap.size,m,none⟩ (.int .u16 ln)):=(dk.out.setCell (p:=⟨w3.heap.size,4352,none⟩) (Z3 ag.out.1) _).setCell (p:=⟨w3.heap.size,m,none⟩) (Z3 ag.out.1) _
                     have aq:(Value.slice A8 (ln+1) c8).ownBlock≠some w3.heap.size:=fun e=>Rw.own_not aj.out (by decide) _ e _ _ bf.out
                     refine⟨⟨m+1,.slice A8 (ln+1) c8,by omega,by go_num,au.out.below b1 ag.out.2.2 (Zb _),?_,?_,?_,a6.out.trans (b1.mono (Z3 ag.out.2.2))⟩,by simp[intOf];omega⟩
                     · exact (b7.out.grown (Rw.grown_set w3.heap.size 4352 _) (by have:=ag.out.2.1;simp;omega)).grown (Rw.grown_set w3.heap.size m _) (by have:=ag.out.2.1;simp;omega)
                     · rw[bs.out,az.out]
                       have:=bl.out.set m (.int .u16 ln)
                       rw[List.set_append_left _ _ (by unfold Pg.vs;rw[List.length_map,Pg.idxZ_len f (by omega)];exact hlt)]at this
                       rw[show Pg.vs ((Pg.idxZ f m).set m (ln:Int))=(Pg.vs (Pg.idxZ f m)).set m (.int .u16 ln) by unfold Pg.vs;rw[List.map_set]]
                       exact this
                     · rw[ap.out,av.out,List.length_append,dv.out,List.flatten_append,show Pg.vs ((Pg.bls f m).flatten++[Pg.blk f m].flatten)=Pg.vs (Pg.bls f m).flatten++Pg.vs (Pg.blk f m) by unfold Pg.vs;simp]
                       exact (aj.out.kept (Rw.grown_set w3.heap.size 4352 _) (.inr aq)).kept (Rw.grown_set w3.heap.size m _) (.inr aq)
                   exact YT
                 exact YT
               exact YT
             exact YT
           with_reducible refine Pg.branch (.load 183 (.tmp 88)) (some 89) (183) (.agg (Pg.vs (Pg.blk f m)).toArray) _ (by kernel_rfl) (fun o h ht=>Pg.exec_load _ _ h (.pointer (some ⟨g,0,none⟩)) (by kernel_rfl) _ bi) ?_ ?_
           · refine YX (rs:=[4,8]) (by kernel_rfl) (by simp) ?_
             with_reducible refine Pg.branch (.load 185 (.tmp 85)) (some 86) (185) (.slice A2 ln c2) w5.drew (by kernel_rfl) (fun o h ht=>Pg.exec_load _ _ h (.pointer (some ⟨w3.heap.size,4352,none⟩)) (by kernel_rfl) _ ck) ?_ ?_
             · refine YX (rs:=[8]) (by kernel_rfl) (by simp) ?_
               with_reducible refine Pg.branch (.buildSlice 185 1 #[(0,.tmp 89)]) (some 90) (185) (.slice (some ⟨w5.drew.heap.size,0,none⟩) 1 1) _ (by kernel_rfl) (fun o h ht=>Pg.exec_slice1 _ _ _ _ h (.agg (Pg.vs (Pg.blk f m)).toArray) (by kernel_rfl) _ a7) ?_ ?_
               · refine YX (rs:=[9]) (by kernel_rfl) (by simp) ?_
                 with_reducible refine Pg.branch (.call { callee:=.builtin .append,args := #[.tmp 86,.tmp 90],argTypes := #[185,185] }) (some 91) (185) _ _ (by kernel_rfl) (fun o h ht=>Pg.exec_append _ _ _ h (.slice A2 ln c2) (.slice (some ⟨w5.drew.heap.size,0,none⟩) 1 1) (by kernel_rfl) (by kernel_rfl) _ (by rw[ht];exact bb)) ?_ ?_
                 · with_reducible refine Pg.take 10 (.nilCheck (.tmp 82)) (some 92) (0) (.pointer (some ⟨w3.heap.size,0,none⟩)) (by kernel_rfl) (by kernel_rfl) (by kernel_rfl) (by kernel_rfl) (by intro _ _ _ h;with_unfolding_all exact h) (fun o h w=>Pg.exec_nil _ h _ (by kernel_rfl)) ?_
                   with_reducible refine Pg.take 11 (.fieldAddr 187 (.tmp 92) 1) (some 93) (0) (.pointer (some ⟨w3.heap.size,4352,none⟩)) (by kernel_rfl) (by kernel_rfl) (by kernel_rfl) (by kernel_rfl) (by intro _ _ _ h;with_unfolding_all exact h) (fun o h w=>Pg.exec_field _ _ _ h (.pointer (some ⟨w3.heap.size,0,none⟩)) (by kernel_rfl) _ (Pg.run_field _ _)) ?_
                   refine YX (rs:=[12]) (by kernel_rfl) (by simp) ?_
                   with_reducible refine Pg.branchS (.store 185 (.tmp 93) (.tmp 91)) _ (by kernel_rfl) (fun o h=>Pg.exec_store _ _ _ h (.pointer (some ⟨w3.heap.size,4352,none⟩)) (.slice A8 (ln+1) c8) (by kernel_rfl) (by kernel_rfl) (Pg.run_store1 _ _ _ _ _ _ _ f0 f1)) ?_ ?_
                   · refine wpAny_done (by kernel_rfl) ?_ _
                     have ae:Rw.At (w8.setCell ⟨w3.heap.size,4352,none⟩ (.slice A8 (ln+1) c8)) w3.heap.size 187 (Pg.vs (Pg.idxZ f m)++[.slice A8 (ln+1) c8]):=by
                      have hl:(Pg.vs (Pg.idxZ f m)).length=4352:=by unfold Pg.vs;rw[List.length_map,Pg.idxZ_len f (by omega)]
                      have:=bf.out.set 4352 (.slice A8 (ln+1) c8)
                      rw[Yx _ _ (by rw[hl];exact Zb _),hl,Yu]at this
                      exact this
                     have z0:=Pg.cell_at ae HOLD.out
                     have z1:=ae.frozen m
                     have er:=ae.lt
                     have bl:=Za ae
                     clear ae f0 f1 bi a7 ck dh bb
                     go_wp2_with fail
                     have b1:Below w2.heap.size wr ((w8.setCell ⟨w3.heap.size,4352,none⟩ (.slice A8 (ln+1) c8)).setCell ⟨w3.heap.size,m,none⟩ (.int .u16 ln)):=(dk.out.setCell (p:=⟨w3.heap.size,4352,none⟩) (Z3 ag.out.1) _).setCell (p:=⟨w3.heap.size,m,none⟩) (Z3 ag.out.1) _
                     have aq:(Value.slice A8 (ln+1) c8).ownBlock≠some w3.heap.size:=fun e=>Rw.own_not aj.out (by decide) _ e _ _ bf.out
                     refine⟨⟨m+1,.slice A8 (ln+1) c8,by omega,by go_num,au.out.below b1 ag.out.2.2 (Zb _),?_,?_,?_,a6.out.trans (b1.mono (Z3 ag.out.2.2))⟩,by simp[intOf];omega⟩
                     · exact (b7.out.grown (Rw.grown_set w3.heap.size 4352 _) (by have:=ag.out.2.1;simp;omega)).grown (Rw.grown_set w3.heap.size m _) (by have:=ag.out.2.1;simp;omega)
                     · rw[bs.out,az.out]
                       have:=bl.out.set m (.int .u16 ln)
                       rw[List.set_append_left _ _ (by unfold Pg.vs;rw[List.length_map,Pg.idxZ_len f (by omega)];exact hlt)]at this
                       rw[show Pg.vs ((Pg.idxZ f m).set m (ln:Int))=(Pg.vs (Pg.idxZ f m)).set m (.int .u16 ln) by unfold Pg.vs;rw[List.map_set]]
                       exact this
                     · rw[ap.out,av.out,List.length_append,dv.out,List.flatten_append,show Pg.vs ((Pg.bls f m).flatten++[Pg.blk f m].flatten)=Pg.vs (Pg.bls f m).flatten++Pg.vs (Pg.blk f m) by unfold Pg.vs;simp]
                       exact (aj.out.kept (Rw.grown_set w3.heap.size 4352 _) (.inr aq)).kept (Rw.grown_set w3.heap.size m _) (.inr aq)
                   exact YT
                 exact YT
               exact YT
             with_reducible refine Pg.branch (.buildSlice 185 1 #[(0,.tmp 89)]) (some 90) (185) (.slice (some ⟨w5.drew.heap.size,0,none⟩) 1 1) _ (by kernel_rfl) (fun o h ht=>Pg.exec_slice1 _ _ _ _ h (.agg (Pg.vs (Pg.blk f m)).toArray) (by kernel_rfl) _ a7) ?_ ?_
             · refine YX (rs:=[4]) (by kernel_rfl) (by simp) ?_
               with_reducible refine Pg.branch (.load 185 (.tmp 85)) (some 86) (185) (.slice A2 ln c2) _ (by kernel_rfl) (fun o h ht=>Pg.exec_load _ _ h (.pointer (some ⟨w3.heap.size,4352,none⟩)) (by kernel_rfl) _ dh) ?_ ?_
               · refine YX (rs:=[9]) (by kernel_rfl) (by simp) ?_
                 with_reducible refine Pg.branch (.call { callee:=.builtin .append,args := #[.tmp 86,.tmp 90],argTypes := #[185,185] }) (some 91) (185) _ _ (by kernel_rfl) (fun o h ht=>Pg.exec_append _ _ _ h (.slice A2 ln c2) (.slice (some ⟨w5.drew.heap.size,0,none⟩) 1 1) (by kernel_rfl) (by kernel_rfl) _ (by rw[ht];exact bb)) ?_ ?_
                 · with_reducible refine Pg.take 10 (.nilCheck (.tmp 82)) (some 92) (0) (.pointer (some ⟨w3.heap.size,0,none⟩)) (by kernel_rfl) (by kernel_rfl) (by kernel_rfl) (by kernel_rfl) (by intro _ _ _ h;with_unfolding_all exact h) (fun o h w=>Pg.exec_nil _ h _ (by kernel_rfl)) ?_
                   with_reducible refine Pg.take 11 (.fieldAddr 187 (.tmp 92) 1) (some 93) (0) (.pointer (some ⟨w3.heap.size,4352,none⟩)) (by kernel_rfl) (by kernel_rfl) (by kernel_rfl) (by kernel_rfl) (by intro _ _ _ h;with_unfolding_all exact h) (fun o h w=>Pg.exec_field _ _ _ h (.pointer (some ⟨w3.heap.size,0,none⟩)) (by kernel_rfl) _ (Pg.run_field _ _)) ?_
                   refine YX (rs:=[12]) (by kernel_rfl) (by simp) ?_
                   with_reducible refine Pg.branchS (.store 185 (.tmp 93) (.tmp 91)) _ (by kernel_rfl) (fun o h=>Pg.exec_store _ _ _ h (.pointer (some ⟨w3.heap.size,4352,none⟩)) (.slice A8 (ln+1) c8) (by kernel_rfl) (by kernel_rfl) (Pg.run_store1 _ _ _ _ _ _ _ f0 f1)) ?_ ?_
                   · refine wpAny_done (by kernel_rfl) ?_ _
                     have ae:Rw.At (w8.setCell ⟨w3.heap.size,4352,none⟩ (.slice A8 (ln+1) c8)) w3.heap.size 187 (Pg.vs (Pg.idxZ f m)++[.slice A8 (ln+1) c8]):=by
                      have hl:(Pg.vs (Pg.idxZ f m)).length=4352:=by unfold Pg.vs;rw[List.length_map,Pg.idxZ_len f (by omega)]
                      have:=bf.out.set 4352 (.slice A8 (ln+1) c8)
                      rw[Yx _ _ (by rw[hl];exact Zb _),hl,Yu]at this
                      exact this
                     have z0:=Pg.cell_at ae HOLD.out
                     have z1:=ae.frozen m
                     have er:=ae.lt
                     have bl:=Za ae
                     clear ae f0 f1 bi a7 ck dh bb
                     go_wp2_with fail
                     have b1:Below w2.heap.size wr ((w8.setCell ⟨w3.heap.size,4352,none⟩ (.slice A8 (ln+1) c8)).setCell ⟨w3.heap.size,m,none⟩ (.int .u16 ln)):=(dk.out.setCell (p:=⟨w3.heap.size,4352,none⟩) (Z3 ag.out.1) _).setCell (p:=⟨w3.heap.size,m,none⟩) (Z3 ag.out.1) _
                     have aq:(Value.slice A8 (ln+1) c8).ownBlock≠some w3.heap.size:=fun e=>Rw.own_not aj.out (by decide) _ e _ _ bf.out
                     refine⟨⟨m+1,.slice A8 (ln+1) c8,by omega,by go_num,au.out.below b1 ag.out.2.2 (Zb _),?_,?_,?_,a6.out.trans (b1.mono (Z3 ag.out.2.2))⟩,by simp[intOf];omega⟩
                     · exact (b7.out.grown (Rw.grown_set w3.heap.size 4352 _) (by have:=ag.out.2.1;simp;omega)).grown (Rw.grown_set w3.heap.size m _) (by have:=ag.out.2.1;simp;omega)
                     · rw[bs.out,az.out]
                       have:=bl.out.set m (.int .u16 ln)
                       rw[List.set_append_left _ _ (by unfold Pg.vs;rw[List.length_map,Pg.idxZ_len f (by omega)];exact hlt)]at this
                       rw[show Pg.vs ((Pg.idxZ f m).set m (ln:Int))=(Pg.vs (Pg.idxZ f m)).set m (.int .u16 ln) by unfold Pg.vs;rw[List.map_set]]
                       exact this
                     · rw[ap.out,av.out,List.length_append,dv.out,List.flatten_append,show Pg.vs ((Pg.bls f m).flatten++[Pg.blk f m].flatten)=Pg.vs (Pg.bls f m).flatten++Pg.vs (Pg.blk f m) by unfold Pg.vs;simp]
                       exact (aj.out.kept (Rw.grown_set w3.heap.size 4352 _) (.inr aq)).kept (Rw.grown_set w3.heap.size m _) (.inr aq)
                   exact YT
                 exact YT
               exact YT
             exact YT
           exact YT
     · obtain rfl:m=4352:=by omega
       obtain⟨A2,c2,rfl⟩:=own_form bk
       have bo:=Za ct
       have ai:=Za bk
       have a6:=Za ah
       clear ao dr ct bk ah hlt
       go_wp2_with fail
       go_ret
       refine⟨_,rfl,?_,a6.out⟩
       rw[HF.out]
       refine⟨w3.heap.size,A2,c2,rfl,by have:=ag.out;omega,?_,Sl.of_own ai.out,fun a ha=>?_⟩
       · have:=bo.out
         rw[Pg.idxZ_end]at this
         exact this
       · subst ha
         have:=(ai.out.lt a.block rfl).1
         have:=ag.out
         omega
end Go.Proofs.YtbeakahjbkdeiaaGreatDoor
