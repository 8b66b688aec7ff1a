/- slices.Compact at rune (the kit's text at int, turned). -/
import Derived.Lib.SlicesS
import Derived.Test.YtikiplbhlohmdaaGreatDoorFiBits
import Derived.RangeFuncCalls
set_option linter.unusedVariables false
set_option linter.unusedSimpArgs false
namespace Go.Proofs.YtikiplbhlohmdaaGreatDoor
open Go.RowKit Go.Lib Go.Sort
theorem store_world_int {w wr:World} {n blk off:Nat} {dk:Array Int} {i:Nat} (hi:i<dk.size) (aa:wr=putRow encI (Sort.ahead w n) blk off dk) (x:Int) :
 (wr.setCell ⟨blk,off+i,none⟩ (encI x)).drew=putRow encI (Sort.ahead w (n+1)) blk off (dk.setIfInBounds i x):=by
 subst aa
 rw[putRow_set encI _ blk off dk i x hi,←ahead_drew]
 rfl
set_option maxHeartbeats 4000000 in
set_option maxRecDepth 1000000 in
theorem So.slices_Compact_int_arr (blk off cap:Nat) (d:Array Int) (w:World) (hH:Holds encI w blk off d) (ao:d.size≤9223372036854775807) (ah:d.size≤cap) :
 Calls Tryz.prog 99 #[.slice (some ⟨blk,off,none⟩) d.size cap] w fun e w'=>e=.returned (.slice (some ⟨blk,off,none⟩) (compactUpTo d d.size).length cap)∧∃q,w'=putRow encI (Sort.ahead w q) blk off (compactUpTo d d.size++List.replicate (d.size-(compactUpTo d d.size).length) 0).toArray:=by
 have same:∀q,(∀j,j<d.size→keeps d j=true)→(compactUpTo d d.size).length=d.size∧w.drewN q=putRow encI (Sort.ahead w q) blk off (compactUpTo d d.size++List.replicate (d.size-(compactUpTo d d.size).length) 0).toArray:=by
  intro q aa
  have e:compactUpTo d d.size=d.toList:=by rw[compactUpTo_all d _ aa,range_map_get]
  rw[e]
  refine⟨by simp,?_⟩
  simp only[XO,Yv,List.replicate_zero,Yc,Array.toArray_toList]
  exact (putRow_self encI (Sort.ahead w q) blk off d (holds_ahead encI w q blk off d hH)).symm
 have HS:Aside (∀q,(∀j,j<d.size→keeps d j=true)→(compactUpTo d d.size).length=d.size∧w.drewN q=putRow encI (Sort.ahead w q) blk off (compactUpTo d d.size++List.replicate (d.size-(compactUpTo d d.size).length) 0).toArray):=same
 clear same
 by_cases h2:d.size<2
 · have HH:Aside (Holds encI w blk off d):=hH
   clear hH
   go_enter Tryz.func99,Tryz.ntmps99
   go_wp2
   go_ret
   obtain⟨e1,e2⟩:=HS.out 0 (fun j hj=>keeps_lt_one d j (by omega))
   exact⟨by rw[e1];rfl,0,e2⟩
 · go_enter Tryz.func99,Tryz.ntmps99
   go_wp2
   go_loopg [3] d.size (fun g s3 wr=>∃k q:Nat,1≤k∧k≤d.size∧d.size-k≤g∧s3=.int .i64 k∧wr=w.drewN q∧∀j,j<k→keeps d j=true)
   case atStart=>exact⟨1,0,Zb _,by omega,by omega,rfl,rfl,keeps_lt_one d⟩
   case round =>
    obtain⟨k,q,ap,hk,hg,rfl,rfl,aa⟩:=hrel
    by_cases hlt:k<d.size
    · obtain⟨c1,f1⟩:=hH k hlt
      obtain⟨c0,f0⟩:=hH (k-1) (by omega)
      have A:Aside (∀j,j<k→keeps d j=true):=aa
      have HH:Aside (Holds encI w blk off d):=hH
      clear aa hH
      generalize hx:d[k]! = x at c1
      generalize hy:d[k-1]! = y at c0
      have B:Aside (d[k]! = x∧d[k-1]! = y):=⟨hx,hy⟩
      clear hx hy
      by_cases hdup:x=y
      · subst hdup
        go_wp2_with fail
        go_region
        go_wp2
        clear c0 c1 f0 f1
        go_loopg [3,5] d.size (fun g s3 s5 wr=>∃(kk k2 q2:Nat) (dk:Array Int),s3=.int .i64 kk∧s5=.int .i64 k2∧1≤k2∧k+k2≤d.size∧d.size-(k+k2)≤g∧wr=putRow encI (Sort.ahead w q2) blk off dk∧CompInv d (k+k2) kk dk)
        case atStart=>exact⟨k,1,q+1,d,rfl,rfl,Zb _,by omega,by omega,(putRow_self encI (Sort.ahead w (q+1)) blk off d (holds_ahead encI w (q+1) blk off d HH.out)).symm,CompInv.start A.out (keeps_neg (by omega) (by rw[B.out.1,B.out.2]))⟩
        case round =>
         obtain⟨kk,k2,q2,dk,rfl,rfl,h1,hle,ak,ag,hI⟩:=hrel
         have aj:=hI.lt
         have ai:=hI.size
         have ae:Holds encI wr blk off dk:=by rw[ag];exact holds_putRow encI _ blk off d dk (holds_ahead encI w q2 blk off d HH.out) ai
         have W2:Aside (wr=putRow encI (Sort.ahead w q2) blk off dk):=ag
         have I2:Aside (CompInv d (k+k2) kk dk):=hI
         clear ag
         by_cases hlt2:k+k2<d.size
         · obtain⟨cm,_⟩:=ae (k+k2) (by omega)
           obtain⟨cp,_⟩:=ae (k+k2-1) (by omega)
           obtain⟨ck,fk⟩:=ae kk (by omega)
           rw[hI.high (k+k2) (by omega),show off+(k+k2)=off+k+k2 by omega]at cm
           rw[hI.high (k+k2-1) (by omega),show off+(k+k2-1)=off+k+(k2-1) by omega]at cp
           clear ae hI
           generalize hu:d[k+k2]! = u at cm
           generalize hv:d[k+k2-1]! = v at cp
           generalize dk[kk]! = old at ck
           have C:Aside (d[k+k2]! = u∧d[k+k2-1]! = v):=⟨hu,hv⟩
           clear hu hv
           by_cases huv:u=v
           · subst huv
             go_wp2_with fail
             go_region
             go_wp2
             go_roundg (d.size-(k+(k2+1)))
             case measure=>omega
             case rel=>exact⟨kk,k2+1,q2+1,dk,rfl,by go_num,by omega,by omega,Zb _,by rw[W2.out];rfl,I2.out.skip (keeps_neg (by omega) (by rw[C.out.1,C.out.2]))⟩
           · go_wp2_with fail
             go_region
             go_wp2
             go_roundg (d.size-(k+(k2+1)))
             case measure=>omega
             case rel=>exact⟨kk+1,k2+1,q2+1,dk.setIfInBounds kk u,by go_num,by go_num,by omega,by omega,Zb _,store_world_int (by omega) W2.out u,by have:=I2.out.keep hlt2 (keeps_pos (by rw[C.out.1,C.out.2];exact huv));rwa [C.out.1]at this⟩
         · have af:k+k2=d.size:=by omega
           have aq:∀ty,(Builtin.clear_ #[49] ty #[.slice (some ⟨blk,off+kk,none⟩) (d.size-kk) (cap-kk)]).run Tryz.prog wr=.ok (.tuple #[]) (wr.setCells blk (off+kk) (List.replicate (d.size-kk) (encI 0))) :=
            fun ty=>Lib.run_clear_slice wr _ _ ty _ Tryz.underlying49 (fun w=>(by kernel_rfl:(zeroValue 21).run Tryz.prog w=.ok (Value.int .i32 0) w)) rfl rfl blk (off+kk) _ _ (by omega) (fun j hj=>by rw[show off+kk+j=off+(kk+j) by omega,(ae (kk+j) (by omega)).1];rfl) (fun j hj=>by rw[show off+kk+j=off+(kk+j) by omega];exact (ae (kk+j) (by omega)).2)
           clear ae hI
           go_wp2
           go_ret
           have hI:=I2.out
           rw[af]at hI
           refine⟨by rw[hI.len];rfl,q2,?_⟩
           rw[hI.len,←hI.done 0,←putRow_setCells encI _ blk off _ dk kk (by simp;omega),←W2.out,List.map_replicate]
      · go_wp2_with fail
        go_region
        go_wp2
        go_roundg (d.size-(k+1))
        case measure=>omega
        case rel =>
         refine⟨k+1,q+1,by omega,by omega,Zb _,by go_num,rfl,fun j hj=>?_⟩
         by_cases e:j=k
         · subst e
           exact keeps_pos (by rw[B.out.1,B.out.2];exact hdup)
         · exact A.out j (by omega)
    · have:k=d.size:=by omega
      subst this
      have HH:Aside (Holds encI w blk off d):=hH
      clear hH
      go_wp2
      go_ret
      obtain⟨e1,e2⟩:=HS.out q aa
      exact⟨by rw[e1];rfl,q,e2⟩
theorem So.slices_Compact_int (blk off cap:Nat) (zs:List Int) (w:World) (hH:Holds (Value.int .i32) w blk off zs.toArray) (ae:zs.length≤9223372036854775807) (aa:zs.length≤cap) :
 Calls Tryz.prog 99 #[.slice (some ⟨blk,off,none⟩) zs.length cap] w fun e w'=>e=.returned (.slice (some ⟨blk,off,none⟩) (Lib.compact zs).length cap)∧∃q,w'=putRow (Value.int .i32) (Sort.ahead w q) blk off (Lib.compact zs++List.replicate (zs.length-(Lib.compact zs).length) 0).toArray:=by
 have h:=So.slices_Compact_int_arr blk off cap zs.toArray w hH (by simpa using ae) (by simpa using aa)
 simpa [Lib.compact] using h
set_option maxHeartbeats 1000000 in
theorem So.slices_Compact_int_empty (a:Option Addr) (cap:Nat) (w:World) :
 Calls Tryz.prog 99 #[.slice a 0 cap] w fun e w'=>e=.returned (.slice a 0 cap)∧w'=w:=by
 go_enter Tryz.func99,Tryz.ntmps99
 go_wp2
 go_ret
 exact⟨rfl,rfl⟩
end Go.Proofs.YtikiplbhlohmdaaGreatDoor
namespace Go.Proofs.YtikiplbhlohmdaaGreatDoor
open Go.RowKit Go.Sort
theorem R.heap0 {w:World} {g n:Nat} {aa:Array Value} {e:TypeId} {fr:Nat × Nat} (d:Array Int) (hb:w.heap[g]?=some (.cells aa e fr)) :
 (putRow (Value.int .i32) (Sort.ahead w n) g 0 d).heap[g]?=some (.cells (putCells (Value.int .i32) 0 d aa) e fr):=by
 simp[putRow,mapBlock,Sort.ahead,YN,hb,onCells]
theorem R.below0 {w:World} {g n base:Nat} (d:Array Int) (hg:base≤g):RowKit.Below base w (putRow (Value.int .i32) (Sort.ahead w n) g 0 d):=by
 refine⟨rfl,rfl,rfl,by simp,fun k hk=>?_⟩
 have:g≠k:=by omega
 simp[putRow,mapBlock,Sort.ahead,YN,this]
theorem R.compact_len (l:List Int):(Lib.compact l).length≤l.length:=by
 unfold Lib.compact Lib.compactUpTo
 rw[Zg]
 exact Zh (List.length_filter_le _ _) (by simp)
theorem R.compact_any (A:Option Addr) (n c base e:Nat) (l:List Int) (w:World) (hn:l.length=n) (aj:n≤1000000) (aa:w.ownsRow base e 1 (.slice A n c) n (l.map (Value.int .i32))) (af:base≤w.heap.size) :
 Calls Tryz.prog 99 #[.slice A n c] w fun r w'=>∃A' c',r=.returned (.slice A' (Lib.compact l).length c')∧Sl w' w'.heap.size A' ((Lib.compact l).map (Value.int .i32))∧RowKit.Below base w w':=by
 subst hn
 rcases aa.2 with ⟨hv,h0⟩|⟨g,cap,ae,hv,hg,hb,h1,h2,h3,h4⟩
 · simp only[Z3]at hv
   obtain⟨rfl,_,rfl⟩:=hv
   have hl:l=[]:=Zy h0
   subst hl
   refine (So.slices_Compact_int_empty none 0 w).mono fun r w' hh=>?_
   obtain⟨hr,hw⟩:=hh
   subst hw
   exact⟨none,0,by rw[hr];rfl,Sl.nil _ _ _,Zd _ _⟩
 · simp only[Z3]at hv
   obtain⟨rfl,_,rfl⟩:=hv
   rw[Xe]at h4
   have ag:g<w.heap.size:=(Array.getElem?_eq_some_iff.1 hb).1
   refine (So.slices_Compact_int g 0 c l w (R.holds hb h4) (by omega) h1).mono fun r w' hh=>?_
   obtain⟨hr,q,hw⟩:=hh
   subst hw
   have ak:=R.compact_len l
   refine⟨_,_,hr,?_,R.below0 _ hg⟩
   intro hx
   rw[Zg]at hx
   refine⟨g,0,rfl,by simpa using ag,fun i hi=>?_⟩
   rw[Zg]at hi
   have ai:ae.size=c:=by rw[h3,Xe]
   have ah:i<ae.size:=by omega
   have hd:i<(Lib.compact l++List.replicate (l.length-(Lib.compact l).length) 0).toArray.size:=by simp;omega
   simp only[World.cell?,R.heap0 _ hb,Z1,Option.isSome_none,ZJ,Ye]
   rw[Zu,Zc hi]
   simp only[putCells,Array.getElem?_mapIdx]
   rw[Xk ah]
   simp only[Zt,Nat.sub_zero,ZE,X0,Z1]
   rw[Zp hd,getElem!_pos _ i hd]
   simp[List.getElem_append,hi]
end Go.Proofs.YtikiplbhlohmdaaGreatDoor
namespace Go.Proofs.YtikiplbhlohmdaaGreatDoor
open Go.RowKit
theorem C.chF_succ {cs:List Int} {i:Nat} {c:Int} (h:cs[i]?=some c):C.chF (cs.take (i+1)) []=C.step C.isC (C.chF (cs.take i) []) c (c+1):=by
 unfold C.chF
 rw[Zw,h,Y8]
 rfl
theorem C.step_last {acc:List Int} {k:Nat} {c b:Int} (hp:C.isC c=true) (hl:acc.length=k+1) (h:acc[k]?=some c):C.step C.isC acc c b=acc.set k b:=by
 unfold C.step
 rw[Zp hp,Zp (by rw[List.getLast?_eq_getElem?,hl];exact h)]
 rcases YL acc with rfl|⟨l2,e,rfl⟩
 · simp at hl
 · rw[YM]at *
   have:l2.length=k:=by simpa using hl
   subst this
   simp
set_option maxRecDepth 100000 in
set_option maxHeartbeats 4000000 in
theorem C.chars_any (A:Option Addr) (n c B:Nat) (l:List Int) (w:World) (hn:l.length=n) (cp:n≤400000) (hB:B≤w.heap.size) (hA:Sl w B A (l.map (Value.int .i32))) :
 Calls Tryz.prog 66 #[.slice A n c] w (RetSet (C.chars l) w):=by
 have HN:=Za hn
 obtain⟨bx,b3⟩:=C.once_spec l
 obtain⟨cs,hcs⟩:∃cs,C.once l=cs:=⟨_,rfl⟩
 have bc:(l.mergeSort fun x y=>decide (x≤y)).length=n:=by simp[hn]
 have bj:Lib.compact (l.mergeSort fun x y=>decide (x≤y))=cs:=by
  rw[←hcs];unfold Lib.compact C.once;rw[bc,hn]
 have av:C.chars l=C.chF cs []:=by unfold C.chars;rw[hcs]
 rw[av]
 obtain⟨m,hm⟩:∃m,cs.length=m:=⟨_,rfl⟩
 have hmn:m≤400000:=by
  have h:=R.compact_len (l.mergeSort fun x y=>decide (x≤y))
  rw[bj,bc,hm]at h;omega
 have HM:=Za hm
 have cd:=Za bc
 have cc:=Za bj
 have bq:Below w.heap.size w (w.alloc (.cells #[.slice none 0 0] 100)):=(Zd _ _).alloc (Zb _) _
 have cb:=Za (hA.belowN bq hB (Zb _))
 have cg:w.heap.size+1≤(w.alloc (.cells #[.slice none 0 0] 100)).heap.size:=by simp
 obtain⟨j0,hj0,bm,bu,bo⟩:=Z7 infoRune
 clear hn hcs bc bj av hm bx b3
 go_enter Tryz.func66,Tryz.ntmps66
 go_wp2_with fail
 refine (R.clone_any A n c B l _ HN.out (by omega) (by omega) cb.out).mono ?_
 rintro e w1 ⟨A1,c1,rfl,ah,a8⟩
 have ak:=Za ah
 clear ah
 go_wp2_with fail
 refine (R.sort_any _ _ _ n l _ HN.out (by omega) ak.out a8.size).mono ?_
 rintro e w2 ⟨rfl,aa,aj⟩
 have au:=Za aa
 clear aa
 go_wp2_with fail
 refine (R.compact_any A1 n c1 _ _ (l.mergeSort fun x y=>decide (x≤y)) _ cd.out (by omega) au.out (Zh a8.size aj.size)).mono ?_
 rw[cc.out]
 rintro e w3 ⟨A3,c3,rfl,bs,bn⟩
 rw[HM.out]
 have b1:=Za bs
 have ax:=(a8.trans aj).trans bn
 clear bs
 go_wp2
 go_loopw [4,15] (fun vo vi wr=>∃(i:Nat) (acc:List Int),i≤m∧vi=.int .i64 i∧acc=C.chF (cs.take i) []∧acc.length≤2*i∧wr.ownsRow w3.heap.size 21 1 vo acc.length (acc.map (Value.int .i32))∧Below w3.heap.size w3 wr) (fun _ vi _=>m-(intOf vi).toNat)
 case atStart=>exact⟨0,[],by omega,rfl,rfl,ZE _,ZC _ _ _ _,Zd _ _⟩
 case round =>
  obtain⟨i,acc,hi,rfl,af,bf,ae,ar⟩:=hrel
  obtain⟨uu,rfl⟩:∃uu:World,uu=wr:=⟨_,rfl⟩
  obtain⟨q,hq⟩:∃q,acc.length=q:=⟨_,rfl⟩
  rw[hq]at ae bf
  have HQ:=Za hq
  have b5:=Za af
  have bt:w3.heap.size≤uu.heap.size:=ar.size
  obtain⟨A4,c4,rfl⟩:=own_form ae
  by_cases hlt:i<m
  · obtain⟨ch,av⟩:∃ch,cs[i]?=some ch:=⟨_,Zc (by rw[HM.out];omega)⟩
    have bl:=C.chF_succ av
    rw[←af]at bl
    have bb:=Za bl
    obtain⟨g,o,rfl,b7,b9,_⟩:=b1.out.ints av
    rw[←(bcell ar).1 _ _ b7]at b9
    have n0:(0:Int)≤(i:Int):=by omega
    have n1:(i:Int)<m:=by omega
    clear bl av af hq
    rcases hic:C.isC ch with _|_
    · have b6:=Za (C.step_no (acc:=acc) (b:=ch+1) hic)
      have ay:=Za hic
      clear hic
      go_wp2_with (go_at_call 52;refine (C.utfis_any _ _).mono ?_;rw[ay.out];rintro e w' ⟨rfl,rfl⟩)
      refine⟨⟨i+1,acc,by omega,by go_num,by rw[bb.out,b6.out],by rw[HQ.out];omega,by rw[HQ.out];exact ae,ar⟩,by simp[intOf];omega⟩
    · have cf:0≤ch∧ch≤1114111:=by simp[C.isC]at hic;omega
      obtain⟨cr,ct⟩:=cf
      have ay:=Za hic
      rcases Yz q with hz|hz
      · subst hz
        have ap:=Za (C.step_new (p:=C.isC) (acc:=acc) (b:=ch+1) hic (by rw[Zy HQ.out];simp))
        clear hic
        have hZ:=Za (Sl.lit (w:=uu.alloc (.cells #[.int .i32 ch,.int .i32 (ch+1)] 21)) (A:=some ⟨uu.heap.size,0,none⟩) (xs:=[.int .i32 ch,.int .i32 (ch+1)]) rfl 21 (0,0) (ZP uu _))
        have aa:=Za (own_below ae ((Zd _ _).alloc (Zb _) (.cells #[.int .i32 ch,.int .i32 (ch+1)] 21)) (Zb _))
        have bh:w3.heap.size≤(uu.alloc (.cells #[.int .i32 ch,.int .i32 (ch+1)] 21)).heap.size:=by simp;omega
        have aq:w3.heap.size≤uu.heap.size:=bt
        go_wp2_with (first|(go_at_call 52;refine (C.utfis_any _ _).mono ?_;rw[ay.out];rintro e w' ⟨rfl,rfl⟩)|(at_builtin;refine wpList_appendSl _ rfl _ _ _ rfl w3.heap.size 21 j0 _ 1 4 Tryz.underlying49 hj0 bm bu bo rfl (by omega) _ 0 _ rfl aa.out _ (some ⟨uu.heap.size,0,none⟩) 2 2 [.int .i32 ch,.int .i32 (ch+1)] rfl rfl hZ.out (by simp[Value.oneCell']) (by simp only[maxLen];omega) (by omega) bh ?_;intro v1 w5 ag aj a1))
        refine⟨⟨i+1,acc++[ch,ch+1],by omega,by go_num,by rw[bb.out,ap.out],by rw[Ze,HQ.out];simp;omega,?_,(ar.alloc aq _).trans aj⟩,by simp[intOf];omega⟩
        rw[Ze,HQ.out,ZM]
        exact ag
      · obtain⟨k,rfl⟩:∃k,q=k+1:=⟨q-1,by omega⟩
        obtain⟨e0,ba⟩:∃e0,acc[k]?=some e0:=⟨_,Zc (by rw[HQ.out];omega)⟩
        have ai:acc.getLast?=some e0:=by rw[List.getLast?_eq_getElem?,HQ.out];exact ba
        obtain⟨g7,o7,rfl,cn,bz,_⟩:=(Sl.of_own ae).ints ba
        obtain⟨rfl,ck,cq,bp⟩:=own_zero ae
        simp only[Z1]at bz
        have cm:=bp k
        have q0:(0:Int)≤(k:Int):=by omega
        have qb:(k:Int)≤1000000:=by omega
        have b2:=Za ba
        have aw:=Za ai
        clear bp ba ai
        by_cases hea:e0=ch
        · subst hea
          have b8:=Za (C.step_last (b:=e0+1) hic HQ.out b2.out)
          have az:=own_set ae (j:=k) (by rw[Zg,HQ.out];omega) (.int .i32 (e0+1))
          have bg:=Za az
          clear hic az
          go_wp2_with (go_at_call 52;refine (C.utfis_any _ _).mono ?_;rw[ay.out];rintro e w' ⟨rfl,rfl⟩)
          refine⟨⟨i+1,acc.set k (e0+1),by omega,by go_num,by rw[bb.out,b8.out],by rw[Xl,HQ.out];omega,?_,ar.setCell (by show w3.heap.size≤g7;omega) _⟩,by simp[intOf];omega⟩
          rw[Xl,HQ.out,List.map_set]
          exact bg.out
        · have hd:(e0 == ch)=false:=by simp;exact hea
          have ap:=Lib.hid (C.step_new (p:=C.isC) (acc:=acc) (b:=ch+1) hic (by rw[aw.out];intro h;exact hea (by simpa using h)))
          clear hic
          have hZ:=Za (Sl.lit (w:=uu.alloc (.cells #[.int .i32 ch,.int .i32 (ch+1)] 21)) (A:=some ⟨uu.heap.size,0,none⟩) (xs:=[.int .i32 ch,.int .i32 (ch+1)]) rfl 21 (0,0) (ZP uu _))
          have aa:=Za (own_below ae ((Zd _ _).alloc (Zb _) (.cells #[.int .i32 ch,.int .i32 (ch+1)] 21)) (Zb _))
          have bh:w3.heap.size≤(uu.alloc (.cells #[.int .i32 ch,.int .i32 (ch+1)] 21)).heap.size:=by simp;omega
          have aq:w3.heap.size≤uu.heap.size:=bt
          go_wp2_with (first|(go_at_call 52;refine (C.utfis_any _ _).mono ?_;rw[ay.out];rintro e w' ⟨rfl,rfl⟩)|(at_builtin;refine wpList_appendSl _ rfl _ _ _ rfl w3.heap.size 21 j0 _ 1 4 Tryz.underlying49 hj0 bm bu bo rfl (by omega) _ (k+1) _ rfl aa.out _ (some ⟨uu.heap.size,0,none⟩) 2 2 [.int .i32 ch,.int .i32 (ch+1)] rfl rfl hZ.out (by simp[Value.oneCell']) (by simp only[maxLen];omega) (by omega) bh ?_;intro v1 w5 ag aj a1))
          refine⟨⟨i+1,acc++[ch,ch+1],by omega,by go_num,by rw[bb.out,ap.out],by rw[Ze,HQ.out];simp;omega,?_,(ar.alloc aq _).trans aj⟩,by simp[intOf];omega⟩
          rw[Ze,HQ.out,ZM]
          exact ag
  · obtain rfl:i=m:=by omega
    have a6:acc=C.chF cs []:=by rw[af,Zj (by rw[HM.out];exact Zb _)]
    have br:=ax.trans (ar.mono (Zh a8.size (Zh aj.size bn.size)))
    have ao:=(br.block w.heap.size (by omega)).trans (ZP w _)
    obtain⟨bw,cj⟩:=blk_cell ao 0
    simp only[List.getElem?_toArray,Y7]at bw
    have bi:=Za ao
    have b4:w.heap.size<w3.heap.size:=by have:=ax.size;omega
    have a7:=Za a6
    clear ao af a6 hq
    go_wp2
    have bk:=set_cell (v:=.slice A4 q c4) bi.out
    refine Yl (results_cell_row rfl _ _ w.heap.size _ _ _ _ rfl bk Tryz.underlying100 rfl (by kernel_rfl)) rfl ?_
    refine⟨A4,c4,by rw[←a7.out,HQ.out],?_,(bq.trans (br.mono (by omega))).setCell (by simp) _⟩
    rw[←a7.out,HQ.out]
    exact own_base (ownsRow_setCell_below ae (by omega) _) (by omega)
theorem Rw.results1 {P:Program} {fn:Func} {p:Tmp} {ty:TypeId} (h:fn.results = #[.cell p ty]) (tmps:Array Value) (w:World) (g:Nat) (t:TypeId) (cs:Array Value) (fr:Nat × Nat) (d:TypeDesc)
 (hp:tmps.getD p undef=.pointer (some ⟨g,0,none⟩)) (hg:w.heap[g]?=some (.cells cs t fr))
 (hu:P.underlying ty=some d) (hd:(match d with | .struct _ | .array _ _=>true|_=>false)=true) (hi:(P.info? ty).map (·.size)=some cs.size) :
 (results fn tmps).run P w=.ok (.agg cs) w:=by
 have aa:tmps[p]?.getD undef=.pointer (some ⟨g,0,none⟩):=by simpa using hp
 simp[results,h,aa,asAddr,XR w g t ty cs fr d hg hu hd hi]
theorem step_quiet {P:Program} {ops:Array Oper} {o:Oper} {a:Act} {K:Act→World→Prop} {Q:Exit→Act→World→Prop} {E:Prop} (w:World) (ae:o.guard=none) (f:FuncId) (x:Operand) (ts:Array TypeId)
 (ho:o.op=.call { callee:=.value (.func f),args := #[x],argTypes:=ts }) (entry:∀args w,(callFunc f args).run P w=.ok (.enter f args) w) (u:Value) (hv:a.eval x=u)
 (v:Value) (hC:Calls P f #[u] w fun e w'=>e=.returned v∧w=w') (h:K (a.put o.dst v) w) :
 if Region.wanted o (yielded ops a.tmps)=true then Oper.wp P o a w K Q else E:=by
 have hw:Region.wanted o (yielded ops a.tmps)=true:=by simp[Region.wanted,ae]
 rw[Zp hw]
 have aa:(execOp a.eval o).run P w=.ok (.enter f #[u]) w:=by
  have hf:a.eval (.func f)=.func (.func f) #[] #[]:=rfl
  unfold execOp
  subst hv
  simp[ho,resolve,invoke,go_sem,entry,hf]
 unfold Oper.wp
 rw[aa,Oper.upon_enter]
 refine hC.mono ?_
 rintro e w' ⟨rfl,rfl⟩
 exact h
theorem infoRow:(Tryz.prog.info? 113).map (fun i=>(i.zero,i.size,i.bytes))=some (some (.agg #[.int .i32 0,.int .i64 0,.slice none 0 0]),3,40):=by kernel_rfl
end Go.Proofs.YtikiplbhlohmdaaGreatDoor
