/- slices.Compact at rune (the kit's text at int, turned). -/
import Derived.Test.YtbeakahjbkdeiaaGreatDoorAl1
import Derived.Test.YtbeakahjbkdeiaaGreatDoorSoWalkA
import Derived.Deep.Draws
import Derived.Lib.Walk
import Derived.Sort.EncStr
import Derived.Lib.SliceRun
import Derived.Lib.SlicesS
import Derived.Lib.SlicesCompact
import Derived.BigQuiet
import Derived.Deep.QuietTactic
import Derived.RegionTactic
import Derived.BigRegion
import Derived.WalkKit
import Derived.Test.YtbeakahjbkdeiaaGreatDoorSoOwn
import Derived.Test.YtbeakahjbkdeiaaGreatDoorUdIs
import Derived.Test.YtbeakahjbkdeiaaGreatDoorFiBits
import Derived.Test.YtbeakahjbkdeiaaGreatDoorFaCh
import Derived.Test.YtbeakahjbkdeiaaGreatDoorMap
import Derived.Deep.RegionWith
import Derived.Deep.RegionLaw
import Derived.Deep.RegionHeld3
import Derived.Test.YtbeakahjbkdeiaaGreatDoorSlt
import Derived.RangeFuncCalls
import Derived.Test.YtbeakahjbkdeiaaGreatDoorPgRaw
set_option linter.unusedVariables false
set_option linter.unusedSimpArgs false
namespace Go.Proofs.YtbeakahjbkdeiaaGreatDoor
open Go.RowKit Go.Lib Go.Sort
set_option linter.unusedSimpArgs false
set_option linter.unusedVariables false
theorem store_world_int {w wr:World} {n blk off:Nat} {dk:Array Int} {i:Nat} (hi:i<dk.size) (aa:wr=putRow encI (Sort.ahead w n) blk off dk) (x:Int) :
 (wr.setCell ⟨blk,off+i,none⟩ (encI x)).drew=putRow encI (Sort.ahead w (n+1)) blk off (dk.setIfInBounds i x):=by
 subst aa
 rw[putRow_set encI _ blk off dk i x hi,←ahead_drew]
 rfl
set_option maxHeartbeats 4000000 in
set_option maxRecDepth 1000000 in
theorem So.slices_Compact_int_arr (blk off cap:Nat) (d:Array Int) (w:World) (hH:Holds encI w blk off d) (ak:d.size≤9223372036854775807) (ai:d.size≤cap) :
 Calls Tryz.prog 115 #[.slice (some ⟨blk,off,none⟩) d.size cap] w fun e w'=>e=.returned (.slice (some ⟨blk,off,none⟩) (compactUpTo d d.size).length cap)∧∃q,w'=putRow encI (Sort.ahead w q) blk off (compactUpTo d d.size++List.replicate (d.size-(compactUpTo d d.size).length) 0).toArray:=by
 have same:∀q,(∀j,j<d.size→keeps d j=true)→(compactUpTo d d.size).length=d.size∧w.drewN q=putRow encI (Sort.ahead w q) blk off (compactUpTo d d.size++List.replicate (d.size-(compactUpTo d d.size).length) 0).toArray:=by
  intro q aa
  have e:compactUpTo d d.size=d.toList:=by rw[compactUpTo_all d _ aa,range_map_get]
  rw[e]
  refine⟨by simp,?_⟩
  simp only[XG,Yu,List.replicate_zero,Yk,Array.toArray_toList]
  exact (putRow_self encI (Sort.ahead w q) blk off d (holds_ahead encI w q blk off d hH)).symm
 have HS:Aside (∀q,(∀j,j<d.size→keeps d j=true)→(compactUpTo d d.size).length=d.size∧w.drewN q=putRow encI (Sort.ahead w q) blk off (compactUpTo d d.size++List.replicate (d.size-(compactUpTo d d.size).length) 0).toArray):=same
 clear same
 by_cases h2:d.size<2
 · have HH:Aside (Holds encI w blk off d):=hH
   clear hH
   go_enter Tryz.func115,Tryz.ntmps115
   go_wp2
   go_ret
   obtain⟨e1,e2⟩:=HS.out 0 (fun j hj=>keeps_lt_one d j (by omega))
   exact⟨by rw[e1];rfl,0,e2⟩
 · go_enter Tryz.func115,Tryz.ntmps115
   go_wp2
   go_loopg [3] d.size (fun g s3 wr=>∃k q:Nat,1≤k∧k≤d.size∧d.size-k≤g∧s3=.int .i64 k∧wr=w.drewN q∧∀j,j<k→keeps d j=true)
   case atStart=>exact⟨1,0,Zb _,by omega,by omega,rfl,rfl,keeps_lt_one d⟩
   case round =>
    obtain⟨k,q,ao,hk,hg,rfl,rfl,aa⟩:=hrel
    by_cases hlt:k<d.size
    · obtain⟨c1,f1⟩:=hH k hlt
      obtain⟨c0,f0⟩:=hH (k-1) (by omega)
      have A:Aside (∀j,j<k→keeps d j=true):=aa
      have HH:Aside (Holds encI w blk off d):=hH
      clear aa hH
      generalize hx:d[k]! = x at c1
      generalize hy:d[k-1]! = y at c0
      have B:Aside (d[k]! = x∧d[k-1]! = y):=⟨hx,hy⟩
      clear hx hy
      by_cases hdup:x=y
      · subst hdup
        go_wp2_with fail
        go_region
        go_wp2
        clear c0 c1 f0 f1
        go_loopg [3,5] d.size (fun g s3 s5 wr=>∃(kk k2 q2:Nat) (dk:Array Int),s3=.int .i64 kk∧s5=.int .i64 k2∧1≤k2∧k+k2≤d.size∧d.size-(k+k2)≤g∧wr=putRow encI (Sort.ahead w q2) blk off dk∧CompInv d (k+k2) kk dk)
        case atStart=>exact⟨k,1,q+1,d,rfl,rfl,Zb _,by omega,by omega,(putRow_self encI (Sort.ahead w (q+1)) blk off d (holds_ahead encI w (q+1) blk off d HH.out)).symm,CompInv.start A.out (keeps_neg (by omega) (by rw[B.out.1,B.out.2]))⟩
        case round =>
         obtain⟨kk,k2,q2,dk,rfl,rfl,h1,hle,aq,af,hI⟩:=hrel
         have ap:=hI.lt
         have ah:=hI.size
         have ae:Holds encI wr blk off dk:=by rw[af];exact holds_putRow encI _ blk off d dk (holds_ahead encI w q2 blk off d HH.out) ah
         have W2:Aside (wr=putRow encI (Sort.ahead w q2) blk off dk):=af
         have I2:Aside (CompInv d (k+k2) kk dk):=hI
         clear af
         by_cases hlt2:k+k2<d.size
         · obtain⟨cm,_⟩:=ae (k+k2) (by omega)
           obtain⟨cp,_⟩:=ae (k+k2-1) (by omega)
           obtain⟨ck,fk⟩:=ae kk (by omega)
           rw[hI.high (k+k2) (by omega),show off+(k+k2)=off+k+k2 by omega]at cm
           rw[hI.high (k+k2-1) (by omega),show off+(k+k2-1)=off+k+(k2-1) by omega]at cp
           clear ae hI
           generalize hu:d[k+k2]! = u at cm
           generalize hv:d[k+k2-1]! = v at cp
           generalize dk[kk]! = old at ck
           have C:Aside (d[k+k2]! = u∧d[k+k2-1]! = v):=⟨hu,hv⟩
           clear hu hv
           by_cases huv:u=v
           · subst huv
             go_wp2_with fail
             go_region
             go_wp2
             go_roundg (d.size-(k+(k2+1)))
             case measure=>omega
             case rel=>exact⟨kk,k2+1,q2+1,dk,rfl,by go_num,by omega,by omega,Zb _,by rw[W2.out];rfl,I2.out.skip (keeps_neg (by omega) (by rw[C.out.1,C.out.2]))⟩
           · go_wp2_with fail
             go_region
             go_wp2
             go_roundg (d.size-(k+(k2+1)))
             case measure=>omega
             case rel=>exact⟨kk+1,k2+1,q2+1,dk.setIfInBounds kk u,by go_num,by go_num,by omega,by omega,Zb _,store_world_int (by omega) W2.out u,by have:=I2.out.keep hlt2 (keeps_pos (by rw[C.out.1,C.out.2];exact huv));rwa [C.out.1]at this⟩
         · have ag:k+k2=d.size:=by omega
           have aj:∀ty,(Builtin.clear_ #[25] ty #[.slice (some ⟨blk,off+kk,none⟩) (d.size-kk) (cap-kk)]).run Tryz.prog wr=.ok (.tuple #[]) (wr.setCells blk (off+kk) (List.replicate (d.size-kk) (encI 0))) :=
            fun ty=>Lib.run_clear_slice wr _ _ ty _ Tryz.underlying25 (fun w=>(by kernel_rfl:(zeroValue 21).run Tryz.prog w=.ok (Value.int .i32 0) w)) rfl rfl blk (off+kk) _ _ (by omega) (fun j hj=>by rw[show off+kk+j=off+(kk+j) by omega,(ae (kk+j) (by omega)).1];rfl) (fun j hj=>by rw[show off+kk+j=off+(kk+j) by omega];exact (ae (kk+j) (by omega)).2)
           clear ae hI
           go_wp2
           go_ret
           have hI:=I2.out
           rw[ag]at hI
           refine⟨by rw[hI.len];rfl,q2,?_⟩
           rw[hI.len,←hI.done 0,←putRow_setCells encI _ blk off _ dk kk (by simp;omega),←W2.out,List.map_replicate]
      · go_wp2_with fail
        go_region
        go_wp2
        go_roundg (d.size-(k+1))
        case measure=>omega
        case rel =>
         refine⟨k+1,q+1,by omega,by omega,Zb _,by go_num,rfl,fun j hj=>?_⟩
         by_cases e:j=k
         · subst e
           exact keeps_pos (by rw[B.out.1,B.out.2];exact hdup)
         · exact A.out j (by omega)
    · have:k=d.size:=by omega
      subst this
      have HH:Aside (Holds encI w blk off d):=hH
      clear hH
      go_wp2
      go_ret
      obtain⟨e1,e2⟩:=HS.out q aa
      exact⟨by rw[e1];rfl,q,e2⟩
theorem So.slices_Compact_int (blk off cap:Nat) (zs:List Int) (w:World) (hH:Holds (Value.int .i32) w blk off zs.toArray) (ae:zs.length≤9223372036854775807) (aa:zs.length≤cap) :
 Calls Tryz.prog 115 #[.slice (some ⟨blk,off,none⟩) zs.length cap] w fun e w'=>e=.returned (.slice (some ⟨blk,off,none⟩) (Lib.compact zs).length cap)∧∃q,w'=putRow (Value.int .i32) (Sort.ahead w q) blk off (Lib.compact zs++List.replicate (zs.length-(Lib.compact zs).length) 0).toArray:=by
 have h:=So.slices_Compact_int_arr blk off cap zs.toArray w hH (by simpa using ae) (by simpa using aa)
 simpa [Lib.compact] using h
set_option maxHeartbeats 1000000 in
theorem So.slices_Compact_int_empty (a:Option Addr) (cap:Nat) (w:World) :
 Calls Tryz.prog 115 #[.slice a 0 cap] w fun e w'=>e=.returned (.slice a 0 cap)∧w'=w:=by
 go_enter Tryz.func115,Tryz.ntmps115
 go_wp2
 go_ret
 exact⟨rfl,rfl⟩
end Go.Proofs.YtbeakahjbkdeiaaGreatDoor
namespace Go.Proofs.YtbeakahjbkdeiaaGreatDoor
open Go.RowKit Go.Sort
set_option linter.unusedSimpArgs false
set_option linter.unusedVariables false
theorem R.heap0 {w:World} {g n:Nat} {aa:Array Value} {e:TypeId} {fr:Nat × Nat} (d:Array Int) (hb:w.heap[g]?=some (.cells aa e fr)) :
 (putRow (Value.int .i32) (Sort.ahead w n) g 0 d).heap[g]?=some (.cells (putCells (Value.int .i32) 0 d aa) e fr):=by
 simp[putRow,mapBlock,Sort.ahead,YH,hb,onCells]
theorem R.below0 {w:World} {g n base:Nat} (d:Array Int) (hg:base≤g):RowKit.Below base w (putRow (Value.int .i32) (Sort.ahead w n) g 0 d):=by
 refine⟨rfl,rfl,rfl,by simp,fun k hk=>?_⟩
 have:g≠k:=by omega
 simp[putRow,mapBlock,Sort.ahead,YH,this]
theorem R.compact_len (l:List Int):(Lib.compact l).length≤l.length:=by
 unfold Lib.compact Lib.compactUpTo
 rw[Zf]
 exact Zh (List.length_filter_le _ _) (by simp)
theorem R.compact_any (A:Option Addr) (n c base e:Nat) (l:List Int) (w:World) (hn:l.length=n) (ak:n≤1000000) (aa:w.ownsRow base e 1 (.slice A n c) n (l.map (Value.int .i32))) (af:base≤w.heap.size) :
 Calls Tryz.prog 115 #[.slice A n c] w fun r w'=>∃A' c',r=.returned (.slice A' (Lib.compact l).length c')∧Sl w' w'.heap.size A' ((Lib.compact l).map (Value.int .i32))∧RowKit.Below base w w':=by
 subst hn
 rcases aa.2 with ⟨hv,h0⟩|⟨g,cap,ae,hv,hg,hb,h1,h2,h3,h4⟩
 · simp only[ZV]at hv
   obtain⟨rfl,_,rfl⟩:=hv
   have hl:l=[]:=ZI h0
   subst hl
   refine (So.slices_Compact_int_empty none 0 w).mono fun r w' hh=>?_
   obtain⟨hr,hw⟩:=hh
   subst hw
   exact⟨none,0,by rw[hr];rfl,Sl.nil _ _ _,Zd _ _⟩
 · simp only[ZV]at hv
   obtain⟨rfl,_,rfl⟩:=hv
   rw[Y6]at h4
   have ag:g<w.heap.size:=(Array.getElem?_eq_some_iff.1 hb).1
   refine (So.slices_Compact_int g 0 c l w (R.holds hb h4) (by omega) h1).mono fun r w' hh=>?_
   obtain⟨hr,q,hw⟩:=hh
   subst hw
   have ai:=R.compact_len l
   refine⟨_,_,hr,?_,R.below0 _ hg⟩
   intro hx
   rw[Zf]at hx
   refine⟨g,0,rfl,by simpa using ag,fun i hi=>?_⟩
   rw[Zf]at hi
   have aj:ae.size=c:=by rw[h3,Y6]
   have ah:i<ae.size:=by omega
   have hd:i<(Lib.compact l++List.replicate (l.length-(Lib.compact l).length) 0).toArray.size:=by simp;omega
   simp only[World.cell?,R.heap0 _ hb,Z2,Option.isSome_none,ZE,Z8]
   rw[Zl,Zc hi]
   simp only[putCells,Array.getElem?_mapIdx]
   rw[Xa ah]
   simp only[Zn,Nat.sub_zero,Zz,XP,Z2]
   rw[Zv hd,getElem!_pos _ i hd]
   simp[List.getElem_append,hi]
end Go.Proofs.YtbeakahjbkdeiaaGreatDoor
namespace Go.Proofs.YtbeakahjbkdeiaaGreatDoor
open Go.RowKit
set_option linter.unusedSimpArgs false
set_option linter.unusedVariables false
theorem C.chF_succ {cs:List Int} {i:Nat} {c:Int} (h:cs[i]?=some c):C.chF (cs.take (i+1)) []=C.step C.isC (C.chF (cs.take i) []) c (c+1):=by
 unfold C.chF
 rw[Zr,h,YY]
 rfl
theorem C.step_last {acc:List Int} {k:Nat} {c b:Int} (hp:C.isC c=true) (hl:acc.length=k+1) (h:acc[k]?=some c):C.step C.isC acc c b=acc.set k b:=by
 unfold C.step
 rw[Zv hp,Zv (by rw[List.getLast?_eq_getElem?,hl];exact h)]
 rcases YI acc with rfl|⟨l2,e,rfl⟩
 · simp at hl
 · rw[YJ]at *
   have:l2.length=k:=by simpa using hl
   subst this
   simp
set_option maxRecDepth 100000 in
set_option maxHeartbeats 4000000 in
theorem C.chars_any (A:Option Addr) (n c B:Nat) (l:List Int) (w:World) (hn:l.length=n) (ck:n≤400000) (hB:B≤w.heap.size) (hA:Sl w B A (l.map (Value.int .i32))) :
 Calls Tryz.prog 75 #[.slice A n c] w (RetSet (C.chars l) w):=by
 have HN:=Za hn
 obtain⟨cf,bx⟩:=C.once_spec l
 obtain⟨cs,hcs⟩:∃cs,C.once l=cs:=⟨_,rfl⟩
 have a8:(l.mergeSort fun x y=>decide (x≤y)).length=n:=by simp[hn]
 have bi:Lib.compact (l.mergeSort fun x y=>decide (x≤y))=cs:=by
  rw[←hcs];unfold Lib.compact C.once;rw[a8,hn]
 have av:C.chars l=C.chF cs []:=by unfold C.chars;rw[hcs]
 rw[av]
 obtain⟨m,hm⟩:∃m,cs.length=m:=⟨_,rfl⟩
 have hmn:m≤400000:=by
  have h:=R.compact_len (l.mergeSort fun x y=>decide (x≤y))
  rw[bi,a8,hm]at h;omega
 have HM:=Za hm
 have cb:=Za a8
 have b7:=Za bi
 have br:Below w.heap.size w (w.alloc (.cells #[.slice none 0 0] 113)):=(Zd _ _).alloc (Zb _) _
 have cd:=Za (hA.belowN br hB (Zb _))
 have cq:w.heap.size+1≤(w.alloc (.cells #[.slice none 0 0] 113)).heap.size:=by simp
 obtain⟨j0,hj0,bm,bu,bt⟩:=Yf infoRune
 clear hn hcs a8 bi av hm cf bx
 go_enter Tryz.func75,Tryz.ntmps75
 go_wp2_with fail
 refine (R.clone_any A n c B l _ HN.out (by omega) (by omega) cd.out).mono ?_
 rintro e w1 ⟨A1,c1,rfl,ah,ba⟩
 have ak:=Za ah
 clear ah
 go_wp2_with fail
 refine (R.sort_any _ _ _ n l _ HN.out (by omega) ak.out ba.size).mono ?_
 rintro e w2 ⟨rfl,aa,ap⟩
 have ar:=Za aa
 clear aa
 go_wp2_with fail
 refine (R.compact_any A1 n c1 _ _ (l.mergeSort fun x y=>decide (x≤y)) _ cb.out (by omega) ar.out (Zh ba.size ap.size)).mono ?_
 rw[b7.out]
 rintro e w3 ⟨A3,c3,rfl,bn,bp⟩
 rw[HM.out]
 have bz:=Za bn
 have ax:=(ba.trans ap).trans bp
 clear bn
 go_wp2
 go_loopw [4,15] (fun vo vi wr=>∃(i:Nat) (acc:List Int),i≤m∧vi=.int .i64 i∧acc=C.chF (cs.take i) []∧acc.length≤2*i∧wr.ownsRow w3.heap.size 21 1 vo acc.length (acc.map (Value.int .i32))∧Below w3.heap.size w3 wr) (fun _ vi _=>m-(intOf vi).toNat)
 case atStart=>exact⟨0,[],by omega,rfl,rfl,Zz _,ZG _ _ _ _,Zd _ _⟩
 case round =>
  obtain⟨i,acc,hi,rfl,ag,bg,ae,aq⟩:=hrel
  obtain⟨uu,rfl⟩:∃uu:World,uu=wr:=⟨_,rfl⟩
  obtain⟨q,hq⟩:∃q,acc.length=q:=⟨_,rfl⟩
  rw[hq]at ae bg
  have HQ:=Za hq
  have b9:=Za ag
  have bq:w3.heap.size≤uu.heap.size:=aq.size
  obtain⟨A4,c4,rfl⟩:=own_form ae
  by_cases hlt:i<m
  · obtain⟨ch,av⟩:∃ch,cs[i]?=some ch:=⟨_,Zc (by rw[HM.out];omega)⟩
    have bh:=C.chF_succ av
    rw[←ag]at bh
    have bb:=Za bh
    obtain⟨g,o,rfl,b2,cc,_⟩:=bz.out.ints av
    rw[←(bcell aq).1 _ _ b2]at cc
    have n0:(0:Int)≤(i:Int):=by omega
    have n1:(i:Int)<m:=by omega
    clear bh av ag hq
    rcases hic:C.isC ch with _|_
    · have b4:=Za (C.step_no (acc:=acc) (b:=ch+1) hic)
      have aw:=Za hic
      clear hic
      go_wp2_with (go_at_call 105;refine (C.utfis_any _ _).mono ?_;rw[aw.out];rintro e w' ⟨rfl,rfl⟩)
      refine⟨⟨i+1,acc,by omega,by go_num,by rw[bb.out,b4.out],by rw[HQ.out];omega,by rw[HQ.out];exact ae,aq⟩,by simp[intOf];omega⟩
    · have b3:0≤ch∧ch≤1114111:=by simp[C.isC]at hic;omega
      obtain⟨cr,cp⟩:=b3
      have aw:=Za hic
      rcases YC q with hz|hz
      · subst hz
        have au:=Za (C.step_new (p:=C.isC) (acc:=acc) (b:=ch+1) hic (by rw[ZI HQ.out];simp))
        clear hic
        have hZ:=Za (Sl.lit (w:=uu.alloc (.cells #[.int .i32 ch,.int .i32 (ch+1)] 21)) (A:=some ⟨uu.heap.size,0,none⟩) (xs:=[.int .i32 ch,.int .i32 (ch+1)]) rfl 21 (0,0) (ZT uu _))
        have aa:=Za (own_below ae ((Zd _ _).alloc (Zb _) (.cells #[.int .i32 ch,.int .i32 (ch+1)] 21)) (Zb _))
        have bf:w3.heap.size≤(uu.alloc (.cells #[.int .i32 ch,.int .i32 (ch+1)] 21)).heap.size:=by simp;omega
        have aj:w3.heap.size≤uu.heap.size:=bq
        go_wp2_with (first|(go_at_call 105;refine (C.utfis_any _ _).mono ?_;rw[aw.out];rintro e w' ⟨rfl,rfl⟩)|(at_builtin;refine wpList_appendSl _ rfl _ _ _ rfl w3.heap.size 21 j0 _ 1 4 Tryz.underlying25 hj0 bm bu bt rfl (by omega) _ 0 _ rfl aa.out _ (some ⟨uu.heap.size,0,none⟩) 2 2 [.int .i32 ch,.int .i32 (ch+1)] rfl rfl hZ.out (by simp[Value.oneCell']) (by simp only[maxLen];omega) (by omega) bf ?_;intro v1 w5 af ap az))
        refine⟨⟨i+1,acc++[ch,ch+1],by omega,by go_num,by rw[bb.out,au.out],by rw[Zi,HQ.out];simp;omega,?_,(aq.alloc aj _).trans ap⟩,by simp[intOf];omega⟩
        rw[Zi,HQ.out,ZO]
        exact af
      · obtain⟨k,rfl⟩:∃k,q=k+1:=⟨q-1,by omega⟩
        obtain⟨e0,bc⟩:∃e0,acc[k]?=some e0:=⟨_,Zc (by rw[HQ.out];omega)⟩
        have ai:acc.getLast?=some e0:=by rw[List.getLast?_eq_getElem?,HQ.out];exact bc
        obtain⟨g7,o7,rfl,cn,bw,_⟩:=(Sl.of_own ae).ints bc
        obtain⟨rfl,cm,cj,bs⟩:=own_zero ae
        simp only[Z2]at bw
        have ct:=bs k
        have q0:(0:Int)≤(k:Int):=by omega
        have qb:(k:Int)≤1000000:=by omega
        have b1:=Za bc
        have a1:=Za ai
        clear bs bc ai
        by_cases hea:e0=ch
        · subst hea
          have b6:=Za (C.step_last (b:=e0+1) hic HQ.out b1.out)
          have a6:=own_set ae (j:=k) (by rw[Zf,HQ.out];omega) (.int .i32 (e0+1))
          have bj:=Za a6
          clear hic a6
          go_wp2_with (go_at_call 105;refine (C.utfis_any _ _).mono ?_;rw[aw.out];rintro e w' ⟨rfl,rfl⟩)
          refine⟨⟨i+1,acc.set k (e0+1),by omega,by go_num,by rw[bb.out,b6.out],by rw[Xc,HQ.out];omega,?_,aq.setCell (by show w3.heap.size≤g7;omega) _⟩,by simp[intOf];omega⟩
          rw[Xc,HQ.out,List.map_set]
          exact bj.out
        · have hd:(e0 == ch)=false:=by simp;exact hea
          have au:=Lib.hid (C.step_new (p:=C.isC) (acc:=acc) (b:=ch+1) hic (by rw[a1.out];intro h;exact hea (by simpa using h)))
          clear hic
          have hZ:=Za (Sl.lit (w:=uu.alloc (.cells #[.int .i32 ch,.int .i32 (ch+1)] 21)) (A:=some ⟨uu.heap.size,0,none⟩) (xs:=[.int .i32 ch,.int .i32 (ch+1)]) rfl 21 (0,0) (ZT uu _))
          have aa:=Za (own_below ae ((Zd _ _).alloc (Zb _) (.cells #[.int .i32 ch,.int .i32 (ch+1)] 21)) (Zb _))
          have bf:w3.heap.size≤(uu.alloc (.cells #[.int .i32 ch,.int .i32 (ch+1)] 21)).heap.size:=by simp;omega
          have aj:w3.heap.size≤uu.heap.size:=bq
          go_wp2_with (first|(go_at_call 105;refine (C.utfis_any _ _).mono ?_;rw[aw.out];rintro e w' ⟨rfl,rfl⟩)|(at_builtin;refine wpList_appendSl _ rfl _ _ _ rfl w3.heap.size 21 j0 _ 1 4 Tryz.underlying25 hj0 bm bu bt rfl (by omega) _ (k+1) _ rfl aa.out _ (some ⟨uu.heap.size,0,none⟩) 2 2 [.int .i32 ch,.int .i32 (ch+1)] rfl rfl hZ.out (by simp[Value.oneCell']) (by simp only[maxLen];omega) (by omega) bf ?_;intro v1 w5 af ap az))
          refine⟨⟨i+1,acc++[ch,ch+1],by omega,by go_num,by rw[bb.out,au.out],by rw[Zi,HQ.out];simp;omega,?_,(aq.alloc aj _).trans ap⟩,by simp[intOf];omega⟩
          rw[Zi,HQ.out,ZO]
          exact af
  · obtain rfl:i=m:=by omega
    have ay:acc=C.chF cs []:=by rw[ag,Zj (by rw[HM.out];exact Zb _)]
    have bo:=ax.trans (aq.mono (Zh ba.size (Zh ap.size bp.size)))
    have ao:=(bo.block w.heap.size (by omega)).trans (ZT w _)
    obtain⟨b5,cg⟩:=blk_cell ao 0
    simp only[List.getElem?_toArray,YM]at b5
    have bk:=Za ao
    have b8:w.heap.size<w3.heap.size:=by have:=ax.size;omega
    have a7:=Za ay
    clear ao ag ay hq
    go_wp2
    have bl:=set_cell (v:=.slice A4 q c4) bk.out
    refine Yy (results_cell_row rfl _ _ w.heap.size _ _ _ _ rfl bl Tryz.underlying113 rfl (by kernel_rfl)) rfl ?_
    refine⟨A4,c4,by rw[←a7.out,HQ.out],?_,(br.trans (bo.mono (by omega))).setCell (by simp) _⟩
    rw[←a7.out,HQ.out]
    exact own_base (ownsRow_setCell_below ae (by omega) _) (by omega)
theorem Rw.results1 {P:Program} {fn:Func} {p:Tmp} {ty:TypeId} (h:fn.results = #[.cell p ty]) (tmps:Array Value) (w:World) (g:Nat) (t:TypeId) (cs:Array Value) (fr:Nat × Nat) (d:TypeDesc)
 (hp:tmps.getD p undef=.pointer (some ⟨g,0,none⟩)) (hg:w.heap[g]?=some (.cells cs t fr))
 (hu:P.underlying ty=some d) (hd:(match d with | .struct _ | .array _ _=>true|_=>false)=true) (hi:(P.info? ty).map (·.size)=some cs.size) :
 (results fn tmps).run P w=.ok (.agg cs) w:=by
 have aa:tmps[p]?.getD undef=.pointer (some ⟨g,0,none⟩):=by simpa using hp
 simp[results,h,aa,asAddr,run_loadVar_row w g t ty cs fr d hg hu hd hi]
theorem Rw.flI_app:∀(rs:List Rw.Row) (ads:List (Option Addr × Nat)) (r:Rw.Row) (a:Option Addr × Nat),ads.length=rs.length →
 Rw.flI (rs++[r]) (ads++[a])=Rw.flI rs ads++[.int .i64 r.1,.int .i64 r.2.1,.slice a.1 r.2.2.length a.2]
 | [],[],r,a,_=>rfl
 | [],_::_,_,_,h=>by simp at h
 | q::rs,[],r,a,h=>by simp at h
 | q::rs,b::ads,r,a,h=>by
   simp only[ZP,Rw.flI]
   rw[Rw.flI_app rs ads r a (by simpa using h)]
def Rw.MapsI (w:World) (rs:List Rw.Row) (ads:List (Option Addr × Nat)):Prop:=∀(i:Nat) (r:Rw.Row) (a:Option Addr × Nat),rs[i]?=some r→ads[i]?=some a→Slt w 3 a.1 (r.2.2.map (Value.int .i64))
theorem Rw.MapsI.app {w:World} {rs:List Rw.Row} {ads:List (Option Addr × Nat)} (h:Rw.MapsI w rs ads) (hl:ads.length=rs.length) {r:Rw.Row} {a:Option Addr × Nat} (hr:Slt w 3 a.1 (r.2.2.map (Value.int .i64))):Rw.MapsI w (rs++[r]) (ads++[a]):=by
 intro i q x hq hx
 rcases ZY i rs.length with hi|hi
 · rw[ZU hi]at hq
   rw[ZU (by omega)]at hx
   exact h i q x hq hx
 · rw[ZF hi]at hq
   rw[ZF (by omega)]at hx
   obtain⟨j,hj⟩:∃j,i-rs.length=j:=⟨_,rfl⟩
   rw[hl,hj]at hx
   rw[hj]at hq
   rcases j with _|j
   · simp at hq hx
     subst hq hx
     exact hr
   · simp at hq
theorem Rw.MapsI.below {w w':World} {rs:List Rw.Row} {ads:List (Option Addr × Nat)} (h:Rw.MapsI w rs ads) (hb:Below w.heap.size w w'):Rw.MapsI w' rs ads:=fun i r a h1 h2=>(h i r a h1 h2).below hb
theorem Rw.MapsI.grown {w w':World} {rs:List Rw.Row} {ads:List (Option Addr × Nat)} {row:Option Nat} (h:Rw.MapsI w rs ads) (hg:w.grownBy w' row) (hr:∀k,row=some k→∀cs z,w.heap[k]?≠some (.cells cs 3 z)):Rw.MapsI w' rs ads :=
 fun i r a h1 h2=>(h i r a h1 h2).grown hg hr
theorem Rw.seesI_mk {w:World} {A:Option Addr} {rs:List Rw.Row} {ads:List (Option Addr × Nat)} (hl:ads.length=rs.length) (hs:Slt w 43 A (Rw.flI rs ads)) (hm:Rw.MapsI w rs ads):Rw.SeesI w A rs :=
 ⟨ads,hl,hs.sl,fun i r a h1 h2=>(hm i r a h1 h2).sl⟩
theorem Rw.At.slt {w:World} {b:Nat} {t:TypeId} {cs:List Value} (h:Rw.At w b t cs):Slt w t (some ⟨b,0,none⟩) cs :=
 fun _=>⟨b,0,cs.toArray,rfl,h,fun i _=>by simp⟩
theorem infoRowI:(Tryz.prog.info? 43).map (fun i=>(i.zero,i.size,i.bytes))=some (some (.agg #[.int .i64 0,.int .i64 0,.slice none 0 0]),3,40):=by kernel_rfl
def Md.Doc (w:World) (v:Value) (T:List Rw.Row) (E:List Int):Prop:=∃A c XA xc,v=Md.tv A T.length c XA E.length xc∧Rw.SeesI w A T∧Sl w w.heap.size XA (E.map (Value.int .i64))
theorem Md.Doc.below {w w':World} {v:Value} {T:List Rw.Row} {E:List Int} (h:Md.Doc w v T E) (hb:Below w.heap.size w w'):Md.Doc w' v T E:=by
 obtain⟨A,c,XA,xc,h1,h2,h3⟩:=h
 exact⟨A,c,XA,xc,h1,h2.below hb,h3.below hb hb.size⟩
set_option maxRecDepth 100000 in
set_option maxHeartbeats 1000000 in
theorem Md.in_any (A:Option Addr) (n c:Nat) (l:List Int) (d:Int) (w:World) (hn:l.length=n) (ap:n≤1000000) (hA:Sl w w.heap.size A (l.map (Value.int .i64))) :
 Calls Tryz.prog 83 #[.slice A n c,.int .i64 d] w fun e w'=>e=.returned (.bool (decide (d∈l)))∧w=w':=by
 obtain⟨o,ho⟩:∃o,decide (d∈l)=o:=⟨_,rfl⟩
 rw[ho]
 have HO:=Za ho
 have HN:=Za hn
 have HA:=Za hA
 clear ho hn hA
 go_enter Tryz.func83,Tryz.ntmps83
 go_wp2_with fail
 go_loop [9] (fun i=>∃k:Nat,k≤n∧i=.int .i64 k∧d∉l.take k) (fun i=>n-(intOf i).toNat)
 case atStart=>exact⟨0,Zz _,rfl,by simp⟩
 case round =>
  obtain⟨k,hk,rfl,ag⟩:=hrel
  have af:=Za ag
  clear ag
  by_cases hlt:k<n
  · obtain⟨x,hx⟩:∃x,l[k]?=some x:=⟨_,Zc (by rw[HN.out];exact hlt)⟩
    obtain⟨ab,ao,rfl,ak,ah⟩:=HA.out (by rw[Zf,HN.out];omega)
    have hc:=ah k (by rw[Zf,HN.out];exact hlt)
    rw[Zl,hx,Zn]at hc
    have aj:(k:Int)<n:=by omega
    have HX:=Za hx
    clear ah hx
    rcases hxd:(x == d) with _|_
    · have hne:¬x=d:=by simpa using hxd
      have ai:Hid (d∉l.take (k+1)):=Za (by
       rw[Zr,HX.out]
       intro h
       rcases List.mem_append.1 h with h|h
       · exact af.out h
       · simp at h
         exact hne h.symm)
      clear hne
      go_wp2_with fail
      go_round
      case rel=>exact⟨k+1,by omega,by go_num,ai.out⟩
      case measure=>simp[intOf];omega
    · have he:x=d:=beq_iff_eq.1 hxd
      have aa:o=true:=by
       rw[←HO.out]
       exact Zo (by rw[←he];exact Zk HX.out)
      have ae:=Za aa
      clear he aa
      go_wp2_with fail
      go_ret
      exact⟨by rw[ae.out];rfl,rfl⟩
  · obtain rfl:n=k:=by omega
    have aa:o=false:=by
     rw[←HO.out]
     have:=af.out
     rw[Zj (by rw[HN.out];exact Zb _)]at this
     exact Zu this
    have ae:=Za aa
    clear aa hlt
    go_wp2_with fail
    go_ret
    exact⟨by rw[ae.out];rfl,rfl⟩
theorem Md.find_take {T:List Rw.Row} {k:Nat} {r:Rw.Row} {c:Int} (hr:T[k]?=some r) (aa:∀q∈T.take k,q.1≠c) (he:r.1=c):Md.find T c=some r:=by
 obtain⟨h1,h2⟩:=List.getElem?_eq_some_iff.1 hr
 rw[←ZH k T,ZS h1,h2]
 unfold Md.find
 rw[List.find?_append,List.find?_eq_none.2 (fun q hq=>by simpa using aa q hq)]
 simp[he]
theorem Md.find_no {T:List Rw.Row} {k:Nat} {c:Int} (hk:T.length≤k) (aa:∀q∈T.take k,q.1≠c):Md.find T c=none:=by
 rw[Zj hk]at aa
 exact Md.find_none aa
theorem Md.no_succ {T:List Rw.Row} {k:Nat} {r:Rw.Row} {c:Int} (hr:T[k]?=some r) (aa:∀q∈T.take k,q.1≠c) (he:¬r.1=c):∀q∈T.take (k+1),q.1≠c:=by
 rw[Zr,hr]
 intro q hq
 rcases List.mem_append.1 hq with hq|hq
 · exact aa q hq
 · simp at hq
   subst hq
   exact he
set_option maxRecDepth 100000 in
set_option maxHeartbeats 2000000 in
theorem Md.rcls_any (v:Value) (T:List Rw.Row) (E:List Int) (d:Int) (w:World) (ay:T.length≤1000000) (h:Md.Doc w v T E) :
 Calls Tryz.prog 36 #[v,.int .i64 d] w fun e w'=>e=.returned (.int .i64 (Md.cls T d))∧Below w.heap.size w w':=by
 obtain⟨A,c,XA,xc,rfl,h2,hX⟩:=h
 obtain⟨n,hn⟩:∃k,T.length=k:=⟨_,rfl⟩
 obtain⟨xn,hxn⟩:∃k,E.length=k:=⟨_,rfl⟩
 rw[hn]at ay ⊢
 rw[hxn]
 obtain⟨res,ae⟩:∃k,Md.cls T d=k:=⟨_,rfl⟩
 rw[ae]
 have aj:Below w.heap.size w (w.alloc (.cells #[.slice A n c,.slice XA xn xc] 31)):=(Zd _ _).alloc (Zb _) _
 have ar:Rw.At (w.alloc (.cells #[.slice A n c,.slice XA xn xc] 31)) w.heap.size 31 [.slice A n c,.slice XA xn xc]:=Rw.At.new w 31 [.slice A n c,.slice XA xn xc]
 obtain⟨wa,aq⟩:∃wa,w.alloc (.cells #[.slice A n c,.slice XA xn xc] 31)=wa:=⟨_,rfl⟩
 rw[aq]at aj ar
 have z0:=ar.cell 0 rfl
 have az:=Za aq
 have ai:=Za aj
 have ak:=Za (h2.below aj)
 have HN:=Za hn
 have ah:=Za ae
 clear aq aj ar hn hxn ae h2 hX
 unfold Md.tv
 go_enter Tryz.func36,Tryz.ntmps36
 go_upto_region 1 with (fail)
 rw[az.out]
 go_wp2_with fail
 go_loopw [10] (fun i wr=>∃k:Nat,k≤n∧i=.int .i64 k∧(∀q∈T.take k,q.1≠d)∧Below wa.heap.size wa wr) (fun i _=>n-(intOf i).toNat)
 case atStart=>exact⟨0,Zz _,rfl,by simp,Zd _ _⟩
 case round =>
  obtain⟨k,hk,rfl,aw,aa⟩:=hrel
  have ao:=Za aw
  have au:=Za aa
  clear aw
  by_cases hlt:k<n
  · obtain⟨r,hr⟩:∃r,T[k]?=some r:=⟨_,Zc (by rw[HN.out];exact hlt)⟩
    obtain⟨b,o,a,a1,hb,c0,c1,c2,a6⟩:=(ak.out.below aa).row hr
    have a7:(k:Int)<n:=by omega
    have ag:=Rw.At.new wr 43 [.int .i64 r.1,.int .i64 r.2.1,.slice a.1 r.2.2.length a.2]
    obtain⟨x0,x1,x2,_,_,_⟩:=ag.three
    have av:=Za (aa.alloc aa.size (.cells #[.int .i64 r.1,.int .i64 r.2.1,.slice a.1 r.2.2.length a.2] 43))
    have HR:=Za hr
    subst a1
    clear hr a6 aa ag
    rcases hxd:(r.1 == d) with _|_
    · have ax:=Lib.hid (Md.no_succ HR.out ao.out (by simpa using hxd))
      go_wp2_with fail
      exact⟨⟨k+1,by omega,by go_num,ax.out,av.out⟩,by simp[intOf];omega⟩
    · have af:res=r.2.1:=by
       rw[←ah.out]
       unfold Md.cls
       rw[Md.find_take HR.out ao.out (beq_iff_eq.1 hxd)]
       rfl
      have ap:=Za af
      clear af
      go_wp2_with fail
      go_ret
      exact⟨by rw[ap.out];rfl,ai.out.trans (av.out.mono ai.out.size)⟩
  · obtain rfl:n=k:=by omega
    have af:res=0:=by
     rw[←ah.out]
     unfold Md.cls
     rw[Md.find_no (by rw[HN.out];exact Zb _) ao.out]
     rfl
    have ap:=Za af
    clear af hlt
    go_wp2_with fail
    go_ret
    exact⟨by rw[ap.out];rfl,ai.out.trans (au.out.mono ai.out.size)⟩
theorem step_quiet {P:Program} {ops:Array Oper} {o:Oper} {a:Act} {K:Act→World→Prop} {Q:Exit→Act→World→Prop} {E:Prop} (w:World) (ae:o.guard=none) (f:FuncId) (x:Operand) (ts:Array TypeId)
 (ho:o.op=.call { callee:=.value (.func f),args := #[x],argTypes:=ts }) (entry:∀args w,(callFunc f args).run P w=.ok (.enter f args) w) (u:Value) (hv:a.eval x=u)
 (v:Value) (hC:Calls P f #[u] w fun e w'=>e=.returned v∧w=w') (h:K (a.put o.dst v) w) :
 if Region.wanted o (yielded ops a.tmps)=true then Oper.wp P o a w K Q else E:=by
 have hw:Region.wanted o (yielded ops a.tmps)=true:=by simp[Region.wanted,ae]
 rw[Zv hw]
 have aa:(execOp a.eval o).run P w=.ok (.enter f #[u]) w:=by
  have hf:a.eval (.func f)=.func (.func f) #[] #[]:=rfl
  unfold execOp
  subst hv
  simp[ho,resolve,invoke,go_sem,entry,hf]
 unfold Oper.wp
 rw[aa,Oper.upon_enter]
 refine hC.mono ?_
 rintro e w' ⟨rfl,rfl⟩
 exact h
theorem infoRow:(Tryz.prog.info? 103).map (fun i=>(i.zero,i.size,i.bytes))=some (some (.agg #[.int .i32 0,.int .i64 0,.slice none 0 0]),3,40):=by kernel_rfl
end Go.Proofs.YtbeakahjbkdeiaaGreatDoor
