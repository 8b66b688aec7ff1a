/- The sort at rune, walked (a text of the kit at int, turned): Walk7a. -/
import Derived.Test.YtikiplbhlohmdaaGreatDoorSoWalkC4
import Derived.Sort.LotD5
import Derived.Sort.WalkA6
set_option linter.unusedVariables false
set_option linter.unusedSimpArgs false
namespace Go.Proofs.YtikiplbhlohmdaaGreatDoor
open Go.RowKit Go.Sort
theorem setCell_setCell (w:World) (blk off:Nat) (v v':Value):(w.setCell ⟨blk,off,none⟩ v).setCell ⟨blk,off,none⟩ v'=w.setCell ⟨blk,off,none⟩ v':=by
 rw[setCell_eq,setCell_eq,mapBlock_mapBlock,setCell_eq]
 congr 1
 funext c
 simp
theorem So.xorshift_Next (rb ro X:Nat) (hX:X<18446744073709551616) (w:World) (hc:w.cell? ⟨rb,ro,none⟩=some (.int .u64 X)) (hf:w.frozen? ⟨rb,ro,none⟩=false) :
 Calls Tryz.prog 203 #[.pointer (some ⟨rb,ro,none⟩)] w fun e w'=>e=.returned (.int .u64 (xorNextN X:Nat))∧w'=(w.setCell ⟨rb,ro,none⟩ (.int .u64 (xorNextN X:Nat))).drewN 3:=by
 obtain⟨A,hA⟩:∃A:Nat,A=X ^^^ (X*8192%18446744073709551616):=⟨_,rfl⟩
 obtain⟨B,hB⟩:∃B:Nat,B=A ^^^ (A/128):=⟨_,rfl⟩
 obtain⟨C,hC⟩:∃C:Nat,C=B ^^^ (B*131072%18446744073709551616):=⟨_,rfl⟩
 have lA:A<18446744073709551616:=by rw[hA];exact Nat.xor_lt_two_pow (n:=64) (by omega) (by omega)
 have lB:B<18446744073709551616:=by rw[hB];exact Nat.xor_lt_two_pow (n:=64) (by omega) (by omega)
 have e1:bits .xor .u64 (X:Int) (IntKind.u64.wrap ((X:Int)*8192))=(A:Int):=by
  rw[IntKind.wrap_u64,show ((X:Int)*8192%18446744073709551616)=((X*8192%18446744073709551616:Nat):Int) by omega,bits_xor_u64_nat _ _ hX (by omega),hA]
 have e2:bits .xor .u64 (A:Int) ((A:Int)/128)=(B:Int):=by
  rw[show ((A:Int)/128)=((A/128:Nat):Int) by omega,bits_xor_u64_nat _ _ lA (by omega),hB]
 have e3:bits .xor .u64 (B:Int) (IntKind.u64.wrap ((B:Int)*131072))=(C:Int):=by
  rw[IntKind.wrap_u64,show ((B:Int)*131072%18446744073709551616)=((B*131072%18446744073709551616:Nat):Int) by omega,bits_xor_u64_nat _ _ lB (by omega),hC]
 have hv:xorNextN X=C:=by unfold xorNextN;simp only[];rw[←hA,←hB,←hC]
 rw[hv]
 clear hA hB hC hv
 have aa:∀v v',(w.setCell ⟨rb,ro,none⟩ v).setCell ⟨rb,ro,none⟩ v'=w.setCell ⟨rb,ro,none⟩ v':=setCell_setCell w rb ro
 go_enter Tryz.func203,Tryz.ntmps203
 go_wp2
 go_region
 all_goals go_wp2
 all_goals go_region
 all_goals go_wp2
 all_goals go_region
 all_goals go_wp2
 go_ret
 exact⟨rfl,rfl⟩
theorem wrap_two_pow (k:Nat) (hk:k≤62):IntKind.u64.wrap ((2:Int) ^ k)=((1 <<< k:Nat):Int):=by
 have h:(2:Nat) ^ k≤2 ^ 62:=Y5 (by decide) hk
 rw[IntKind.wrap_u64,Nat.one_shiftLeft,show ((2:Int) ^ k)=((2 ^ k:Nat):Int) by push_cast;rfl]
 generalize (2:Nat) ^ k=p at h
 omega
theorem So.nextPowerOfTwo (n:Nat) (hn:n<4611686018427387904) (w:World) :
 Calls Tryz.prog 202 #[.int .i64 n] w fun e w'=>e=.returned (.int .u64 ((1 <<< bitsLen n:Nat):Int))∧w'=w:=by
 have aa:∀w,Calls Tryz.prog 131 #[.int .u64 (n:Int)] w fun e w'=>e=.returned (.int .i64 (bitsLen n:Nat))∧w'=w:=fun w=>by
  have h:=So.bits_Len (n:Int) w (by omega) (by omega)
  rwa [YX,bitLen_eq _ (by omega)]at h
 have hk:bitsLen n≤62:=(bitsLen_le_iff n 62).2 (by omega)
 have hp:=wrap_two_pow (bitsLen n) hk
 go_enter Tryz.func202,Tryz.ntmps202
 go_wp2_with (first|(go_at_call 131;refine (aa _).mono ?_;rintro e w' ⟨rfl,rfl⟩))
 go_ret
 exact⟨rfl,rfl⟩
section
variable {α:Type} [Inhabited α] (lt:α→α→Bool)
theorem scanSorted_go (d:Array α) (b i:Nat) (h:i<b) (hl:lt d[i]! d[i-1]! = false):scanSorted lt d b i=scanSorted lt d b (i+1):=by
 rw[scanSorted];simp[h,hl]
theorem scanSorted_stop (d:Array α) (b i:Nat) (h:¬i<b∨lt d[i]! d[i-1]! = true):scanSorted lt d b i=i:=by
 rw[scanSorted]
 rcases h with h|h
 · simp[h]
 · simp[h]
theorem shiftDown_go (j:Nat) (d:Array α) (hj:1≤j) (hl:lt d[j]! d[j-1]! = true):shiftDown lt j d=shiftDown lt (j-1) (swp d j (j-1)):=by
 obtain⟨k,rfl⟩:∃k,j=k+1:=⟨j-1,by omega⟩
 rw[shiftDown]
 simp only[Xj]at hl ⊢
 simp[hl]
theorem shiftDown_stop (j:Nat) (d:Array α) (h:j=0∨lt d[j]! d[j-1]! = false):shiftDown lt j d=d:=by
 cases j with
 | zero=>rw[shiftDown]
 | succ k =>
   rw[shiftDown]
   simp only[Xj]at h
   rcases h with h|h
   · omega
   · simp[h]
theorem shiftUp_go (b j:Nat) (d:Array α) (hj:j<b) (hl:lt d[j]! d[j-1]! = true):shiftUp lt b j d=shiftUp lt b (j+1) (swp d j (j-1)):=by
 rw[shiftUp];simp[hj,hl]
theorem shiftUp_stop (b j:Nat) (d:Array α) (h:¬j<b∨lt d[j]! d[j-1]! = false):shiftUp lt b j d=d:=by
 rw[shiftUp]
 rcases h with h|h
 · simp[h]
 · by_cases hj:j<b <;> simp[hj,h]
end
section
variable {α:Type} [Inhabited α] (lt:α→α→Bool)
theorem pi_true (a b s i:Nat) (d:Array α) (hs:s<5) (hK:scanSorted lt d b i=b):partialIns lt a b (5-s) i d=(d,true):=by
 rw[show 5-s=(4-s)+1 by omega,partialIns_succ,Zp hK]
theorem pi_short (a b s i:Nat) (d:Array α) (hs:s<5) (hK:scanSorted lt d b i≠b) (aa:b-a<50):partialIns lt a b (5-s) i d=(d,false):=by
 rw[show 5-s=(4-s)+1 by omega,partialIns_succ,Zl hK,Zp aa]
theorem pi_go (a b s i k:Nat) (d:Array α) (hs:s<5) (hK:scanSorted lt d b i=k) (aa:k≠b) (ae:¬b-a<50) :
 partialIns lt a b (5-s) i d=partialIns lt a b (5-(s+1)) k (fixUp lt b k (fixDown lt a k (swp d k (k-1)))):=by
 rw[show 5-s=(4-s)+1 by omega,partialIns_succ,hK,Zl aa,Zl ae,show 5-(s+1)=4-s by omega]
theorem pi_end (a b i:Nat) (d:Array α):partialIns lt a b (5-5) i d=(d,false):=rfl
end
set_option maxHeartbeats 1600000 in
set_option maxRecDepth 100000 in
theorem So.partialInsertionSort_int (blk off cap a b:Nat) (d:Array Int) (w:World) (hH:Holds (Value.int .i32) w blk off d) (a8:a<b) (hb:b≤d.size) (ba:d.size<4611686018427387904) :
 Calls Tryz.prog 170 #[.slice (some ⟨blk,off,none⟩) d.size cap,.int .i64 a,.int .i64 b] w fun e w' =>
  e=.returned (.bool (Sort.partialInsertionSort ltInt d a b).2)∧∃n,w'=putRow (Value.int .i32) (Sort.ahead w n) blk off (Sort.partialInsertionSort ltInt d a b).1:=by
 have HH:Hid (Holds (Value.int .i32) w blk off d):=hH
 have ay:Hid (w=putRow (Value.int .i32) (Sort.ahead w 0) blk off d):=(putRow_self _ _ _ _ _ hH).symm
 clear hH
 go_enter Tryz.func170,Tryz.ntmps170
 go_wp2
 go_loopw [7,8] (fun vi vs wr=>∃(i s n:Nat) (dk:Array Int),vi=.int .i64 i∧vs=.int .i64 s∧s≤5∧a<i∧i≤b∧dk.size=d.size∧wr=putRow (Value.int .i32) (Sort.ahead w n) blk off dk ∧
  partialIns ltInt a b (5-s) i dk=partialIns ltInt a b 5 (a+1) d) (fun _ vs _=>5-(intOf vs).toNat)
 case atStart=>exact⟨a+1,0,0,d,by go_num,rfl,by omega,by omega,by omega,rfl,ay.out,rfl⟩
 case round =>
  obtain⟨i,s,n,dk,rfl,rfl,az,bc,aw,au,a7,hO⟩:=hrel
  have HO:Hid (partialIns ltInt a b (5-s) i dk=partialIns ltInt a b 5 (a+1) d):=hO
  clear hO
  go_wp2
  ·
   have hs:s<5:=by omega
   go_loopw [7] (fun vi ag=>∃(k m:Nat),vi=.int .i64 k∧i≤k∧k≤b∧ag=putRow (Value.int .i32) (Sort.ahead w m) blk off dk∧scanSorted ltInt dk b k=scanSorted ltInt dk b i) (fun vi _=>b-(intOf vi).toNat)
   case atStart=>exact⟨i,n,rfl,Zb _,aw,rfl,rfl⟩
   case round =>
    obtain⟨k,m,rfl,bb,a1,af,hS⟩:=hrel
    obtain⟨G,hG⟩:∃G:Nat→Int,∀t,G t=dk[t]! := ⟨fun t=>dk[t]!,fun _=>rfl⟩
    have ai:∀t,t<d.size→wr.cell? ⟨blk,off+t,none⟩=some (.int .i32 (G t)):=fun t ht=>by
     rw[af,hG];exact cell?_putRow _ _ _ _ d dk (holds_ahead _ _ _ _ _ _ HH.out) au t (by omega)
    have aj:∀t,t<d.size→wr.frozen? ⟨blk,off+t,none⟩=false:=fun t ht=>by
     rw[af,frozen?_putRow];exact ((holds_ahead _ _ m _ _ _ HH.out) t ht).2
    have HW:Hid (wr=putRow (Value.int .i32) (Sort.ahead w m) blk off dk):=af
    have HG:Hid (∀t,G t=dk[t]!):=hG
    have HS:Hid (scanSorted ltInt dk b k=scanSorted ltInt dk b i):=hS
    clear af hG hS
    go_wp2
    by_cases hkb':k<b
    · go_quiet (
       first|(go_at_call 171;refine Calls.quiet_of_same (So.cmp_Less_int _ _ _)))
      go_wp2
      all_goals first
       | (at_end
          have hl:ltInt (G k) (G (k-1))=false:=by
           have h:(!ltInt (G k) (G (k-1)))=true:=by assumption
           simpa using h
          go_roundw
          case rel=>exact⟨k+1,m+nq,by go_num,by omega,by omega,by rw[HW.out];exact putRow_drewN _ _ _ _ _ _ _,by rw[←HS.out,scanSorted_go ltInt dk b k hkb' (by rw[←HG.out,←HG.out];exact hl)]⟩
          case measure=>simp[intOf];omega)
       | (have hl:ltInt (
           G k) (G (k-1))=true:=by
           have h:(!ltInt (G k) (G (k-1)))=false:=by assumption
           simpa using h
          have HK:Hid (scanSorted ltInt dk b i=k):=by
           show scanSorted ltInt dk b i=k
           rw[←HS.out,scanSorted_stop ltInt dk b k (Or.inr (by rw[←HG.out,←HG.out];exact hl))]
          first
           | (at_ret
              have hv:Sort.partialInsertionSort ltInt d a b=(dk,false):=by
               unfold Sort.partialInsertionSort
               rw[←HO.out,pi_short ltInt a b s i dk hs (by rw[HK.out];omega) (by omega)]
              rw[hv]
              go_ret
              exact⟨rfl,m+nq,by rw[HW.out];exact putRow_drewN _ _ _ _ _ _ _⟩)
           | (at_region 11
              have a6:¬b-a<50:=by omega
              go_region
              have ax:((wr.drewN (nq+1)).setCell ⟨blk,off+k,none⟩ (.int .i32 (G (k-1)))).setCell ⟨blk,off+(k-1),none⟩ (.int .i32 (G k))=putRow (Value.int .i32) (Sort.ahead w (m+(nq+1))) blk off (swp dk k (k-1)):=by
               rw[HW.out,HG.out,HG.out]
               exact swap_worldA _ w m (nq+1) blk off dk k (k-1) (by omega) (by omega)
              have ak:(swp dk k (k-1)).size=d.size:=by rw[size_swp];exact au
              go_wp2
              all_goals first
               | (at_loop
                  have ar:k-a≥2:=by omega
                  go_loopw [9] (fun vj ag=>∃(j m2:Nat) (dj:Array Int),vj=.int .i64 j∧j≤k-1∧dj.size=d.size∧ag=putRow (Value.int .i32) (Sort.ahead w m2) blk off dj ∧
                   shiftDown ltInt j dj=shiftDown ltInt (k-1) (swp dk k (k-1))) (fun vj _=>(intOf vj).toNat)
                  case atStart=>exact⟨k-1,_,(swp dk k (k-1)),by congr 1;omega,Zb _,ak,rfl,rfl⟩
                  case round =>
                   obtain⟨j,m2,dj,rfl,bf,ah,af,av⟩:=hrel
                   obtain⟨G,hG⟩:∃G:Nat→Int,∀t,G t=dj[t]! := ⟨fun t=>dj[t]!,fun _=>rfl⟩
                   have ai:∀t,t<d.size→wr.cell? ⟨blk,off+t,none⟩=some (.int .i32 (G t)):=fun t ht=>by
                    rw[af,hG];exact cell?_putRow _ _ _ _ d dj (holds_ahead _ _ _ _ _ _ HH.out) ah t (by omega)
                   have aj:∀t,t<d.size→wr.frozen? ⟨blk,off+t,none⟩=false:=fun t ht=>by
                    rw[af,frozen?_putRow];exact ((holds_ahead _ _ m2 _ _ _ HH.out) t ht).2
                   have HW:Hid (wr=putRow (Value.int .i32) (Sort.ahead w m2) blk off dj):=af
                   have HG:Hid (∀t,G t=dj[t]!):=hG
                   have ao:Hid (shiftDown ltInt j dj=shiftDown ltInt (k-1) (swp dk k (k-1))):=av
                   clear af hG av ax
                   go_wp2
                   all_goals first
                    | (at_region 16
                       go_quiet (first|(go_at_call 171;refine Calls.quiet_of_same (So.cmp_Less_int _ _ _)))
                       go_wp2
                       all_goals first
                        | (at_region 17
                           have hl:ltInt (G j) (G (j-1))=true:=by
                            have h:(!ltInt (G j) (G (j-1)))=false:=by assumption
                            simpa using h
                           go_region
                           all_goals go_wp2
                           go_roundw
                           case rel =>
                            refine⟨j-1,m2+(nq+1),swp dj j (j-1),by congr 1;omega,by omega,by rw[size_swp];exact ah,?_,?_⟩
                            · rw[HW.out,HG.out,HG.out]
                              exact swap_worldA _ w m2 (nq+1) blk off dj j (j-1) (by omega) (by omega)
                            · rw[←ao.out,shiftDown_go ltInt j dj (by omega) (by rw[←HG.out,←HG.out];exact hl)]
                           case measure=>simp[intOf];omega)
                        | (
                           have hl:ltInt (G j) (G (j-1))=false:=by
                            have h:(!ltInt (G j) (G (j-1)))=true:=by assumption
                            simpa using h
                           have HD:Hid (fixDown ltInt a k (swp dk k (k-1))=dj):=by
                            show fixDown ltInt a k (swp dk k (k-1))=dj
                            unfold fixDown;rw[if_pos ar,←ao.out,shiftDown_stop ltInt j dj (Or.inr (by rw[←HG.out,←HG.out];exact hl))]
                           first
                            | (at_end
                               go_roundw
                               case rel =>
                                refine⟨k,s+1,_,dj,rfl,by go_num,by omega,by omega,by omega,ah,(by first|rfl|exact HW.out|(rw[HW.out];exact putRow_drewN _ _ _ _ _ _ _)),?_⟩
                                rw[←HO.out,pi_go ltInt a b s i k dk hs HK.out (by omega) (by omega),HD.out,show fixUp ltInt b k dj=dj from by unfold fixUp;rw[if_neg (by omega)]]
                               case measure=>simp[intOf];omega)
                            | (at_loop
                               go_loopw [10] (fun vj ag=>∃(j m3:Nat) (du:Array Int),vj=.int .i64 j∧k+1≤j∧j≤b∧du.size=d.size∧ag=putRow (Value.int .i32) (Sort.ahead w m3) blk off du ∧
                                shiftUp ltInt b j du=shiftUp ltInt b (k+1) dj) (fun vj _=>b-(intOf vj).toNat)
                               case atStart=>exact⟨k+1,_,dj,by go_num,Zb _,by omega,ah,(by first|rfl|exact HW.out|(rw[HW.out];exact putRow_drewN _ _ _ _ _ _ _)),rfl⟩
                               case round =>
                                obtain⟨j,m3,du,rfl,ap,aq,ae,aa,hU⟩:=hrel
                                obtain⟨G,hG⟩:∃G:Nat→Int,∀t,G t=du[t]! := ⟨fun t=>du[t]!,fun _=>rfl⟩
                                have ai:∀t,t<d.size→wr.cell? ⟨blk,off+t,none⟩=some (.int .i32 (G t)):=fun t ht=>by
                                 rw[aa,hG];exact cell?_putRow _ _ _ _ d du (holds_ahead _ _ _ _ _ _ HH.out) ae t (by omega)
                                have aj:∀t,t<d.size→wr.frozen? ⟨blk,off+t,none⟩=false:=fun t ht=>by
                                 rw[aa,frozen?_putRow];exact ((holds_ahead _ _ m3 _ _ _ HH.out) t ht).2
                                have HW:Hid (wr=putRow (Value.int .i32) (Sort.ahead w m3) blk off du):=aa
                                have HG:Hid (∀t,G t=du[t]!):=hG
                                have HU:Hid (shiftUp ltInt b j du=shiftUp ltInt b (k+1) dj):=hU
                                clear aa hG hU
                                go_wp2
                                all_goals first
                                 | (at_region 22
                                    go_quiet (first|(go_at_call 171;refine Calls.quiet_of_same (So.cmp_Less_int _ _ _)))
                                    go_wp2
                                    all_goals first
                                     | (at_region 23
                                        have hl:ltInt (G j) (G (j-1))=true:=by
                                         have h:(!ltInt (G j) (G (j-1)))=false:=by assumption
                                         simpa using h
                                        go_region
                                        all_goals go_wp2
                                        go_roundw
                                        case rel =>
                                         refine⟨j+1,m3+(nq+1),swp du j (j-1),by go_num,by omega,by omega,by rw[size_swp];exact ae,?_,?_⟩
                                         · rw[HW.out,HG.out,HG.out]
                                           exact swap_worldA _ w m3 (nq+1) blk off du j (j-1) (by omega) (by omega)
                                         · rw[←HU.out,shiftUp_go ltInt b j du (by omega) (by rw[←HG.out,←HG.out];exact hl)]
                                        case measure=>simp[intOf];omega)
                                     | (at_end
                                        have hl:ltInt (G j) (G (j-1))=false:=by
                                         have h:(!ltInt (G j) (G (j-1)))=true:=by assumption
                                         simpa using h
                                        go_roundw
                                        case rel =>
                                         refine⟨k,s+1,_,du,rfl,by go_num,by omega,by omega,by omega,ae,(by first|rfl|exact HW.out|(rw[HW.out];exact putRow_drewN _ _ _ _ _ _ _)),?_⟩
                                         rw[←HO.out,pi_go ltInt a b s i k dk hs HK.out (by omega) (by omega),HD.out,show fixUp ltInt b k dj=du from by unfold fixUp;rw[if_pos (by omega),←HU.out,shiftUp_stop ltInt b j du (Or.inr (by rw[←HG.out,←HG.out];exact hl))]]
                                        case measure=>simp[intOf];omega))
                                 | (at_end
                                    go_roundw
                                    case rel =>
                                     refine⟨k,s+1,_,du,rfl,by go_num,by omega,by omega,by omega,ae,(by first|rfl|exact HW.out|(rw[HW.out];exact putRow_drewN _ _ _ _ _ _ _)),?_⟩
                                     rw[←HO.out,pi_go ltInt a b s i k dk hs HK.out (by omega) (by omega),HD.out,show fixUp ltInt b k dj=du from by unfold fixUp;rw[if_pos (by omega),←HU.out,shiftUp_stop ltInt b j du (Or.inl (by omega))]]
                                    case measure=>simp[intOf];omega))))
                    | (
                       have HD:Hid (fixDown ltInt a k (swp dk k (k-1))=dj):=by
                        show fixDown ltInt a k (swp dk k (k-1))=dj
                        unfold fixDown;rw[if_pos ar,←ao.out,shiftDown_stop ltInt j dj (Or.inl (by omega))]
                       first
                        | (at_end
                           go_roundw
                           case rel =>
                            refine⟨k,s+1,_,dj,rfl,by go_num,by omega,by omega,by omega,ah,(by first|rfl|exact HW.out|(rw[HW.out];exact putRow_drewN _ _ _ _ _ _ _)),?_⟩
                            rw[←HO.out,pi_go ltInt a b s i k dk hs HK.out (by omega) (by omega),HD.out,show fixUp ltInt b k dj=dj from by unfold fixUp;rw[if_neg (by omega)]]
                           case measure=>simp[intOf];omega)
                        | (at_loop
                           go_loopw [10] (fun vj ag=>∃(j m3:Nat) (du:Array Int),vj=.int .i64 j∧k+1≤j∧j≤b∧du.size=d.size∧ag=putRow (Value.int .i32) (Sort.ahead w m3) blk off du ∧
                            shiftUp ltInt b j du=shiftUp ltInt b (k+1) dj) (fun vj _=>b-(intOf vj).toNat)
                           case atStart=>exact⟨k+1,_,dj,by go_num,Zb _,by omega,ah,(by first|rfl|exact HW.out|(rw[HW.out];exact putRow_drewN _ _ _ _ _ _ _)),rfl⟩
                           case round =>
                            obtain⟨j,m3,du,rfl,ap,aq,ae,aa,hU⟩:=hrel
                            obtain⟨G,hG⟩:∃G:Nat→Int,∀t,G t=du[t]! := ⟨fun t=>du[t]!,fun _=>rfl⟩
                            have ai:∀t,t<d.size→wr.cell? ⟨blk,off+t,none⟩=some (.int .i32 (G t)):=fun t ht=>by
                             rw[aa,hG];exact cell?_putRow _ _ _ _ d du (holds_ahead _ _ _ _ _ _ HH.out) ae t (by omega)
                            have aj:∀t,t<d.size→wr.frozen? ⟨blk,off+t,none⟩=false:=fun t ht=>by
                             rw[aa,frozen?_putRow];exact ((holds_ahead _ _ m3 _ _ _ HH.out) t ht).2
                            have HW:Hid (wr=putRow (Value.int .i32) (Sort.ahead w m3) blk off du):=aa
                            have HG:Hid (∀t,G t=du[t]!):=hG
                            have HU:Hid (shiftUp ltInt b j du=shiftUp ltInt b (k+1) dj):=hU
                            clear aa hG hU
                            go_wp2
                            all_goals first
                             | (at_region 22
                                go_quiet (first|(go_at_call 171;refine Calls.quiet_of_same (So.cmp_Less_int _ _ _)))
                                go_wp2
                                all_goals first
                                 | (at_region 23
                                    have hl:ltInt (G j) (G (j-1))=true:=by
                                     have h:(!ltInt (G j) (G (j-1)))=false:=by assumption
                                     simpa using h
                                    go_region
                                    all_goals go_wp2
                                    go_roundw
                                    case rel =>
                                     refine⟨j+1,m3+(nq+1),swp du j (j-1),by go_num,by omega,by omega,by rw[size_swp];exact ae,?_,?_⟩
                                     · rw[HW.out,HG.out,HG.out]
                                       exact swap_worldA _ w m3 (nq+1) blk off du j (j-1) (by omega) (by omega)
                                     · rw[←HU.out,shiftUp_go ltInt b j du (by omega) (by rw[←HG.out,←HG.out];exact hl)]
                                    case measure=>simp[intOf];omega)
                                 | (at_end
                                    have hl:ltInt (G j) (G (j-1))=false:=by
                                     have h:(!ltInt (G j) (G (j-1)))=true:=by assumption
                                     simpa using h
                                    go_roundw
                                    case rel =>
                                     refine⟨k,s+1,_,du,rfl,by go_num,by omega,by omega,by omega,ae,(by first|rfl|exact HW.out|(rw[HW.out];exact putRow_drewN _ _ _ _ _ _ _)),?_⟩
                                     rw[←HO.out,pi_go ltInt a b s i k dk hs HK.out (by omega) (by omega),HD.out,show fixUp ltInt b k dj=du from by unfold fixUp;rw[if_pos (by omega),←HU.out,shiftUp_stop ltInt b j du (Or.inr (by rw[←HG.out,←HG.out];exact hl))]]
                                    case measure=>simp[intOf];omega))
                             | (at_end
                                go_roundw
                                case rel =>
                                 refine⟨k,s+1,_,du,rfl,by go_num,by omega,by omega,by omega,ae,(by first|rfl|exact HW.out|(rw[HW.out];exact putRow_drewN _ _ _ _ _ _ _)),?_⟩
                                 rw[←HO.out,pi_go ltInt a b s i k dk hs HK.out (by omega) (by omega),HD.out,show fixUp ltInt b k dj=du from by unfold fixUp;rw[if_pos (by omega),←HU.out,shiftUp_stop ltInt b j du (Or.inl (by omega))]]
                                case measure=>simp[intOf];omega))))
               | (
                  have HD:Hid (fixDown ltInt a k (swp dk k (k-1))=(swp dk k (k-1))):=by
                   show fixDown ltInt a k (swp dk k (k-1))=(swp dk k (k-1))
                   unfold fixDown;rw[if_neg (by omega)]
                  first
                   | (at_end
                      go_roundw
                      case rel =>
                       refine⟨k,s+1,_,(swp dk k (k-1)),rfl,by go_num,by omega,by omega,by omega,ak,(by first|rfl|exact HW.out|(rw[HW.out];exact putRow_drewN _ _ _ _ _ _ _)),?_⟩
                       rw[←HO.out,pi_go ltInt a b s i k dk hs HK.out (by omega) (by omega),HD.out,show fixUp ltInt b k (swp dk k (k-1))=(swp dk k (k-1)) from by unfold fixUp;rw[if_neg (by omega)]]
                      case measure=>simp[intOf];omega)
                   | (at_loop
                      go_loopw [10] (fun vj ag=>∃(j m3:Nat) (du:Array Int),vj=.int .i64 j∧k+1≤j∧j≤b∧du.size=d.size∧ag=putRow (Value.int .i32) (Sort.ahead w m3) blk off du ∧
                       shiftUp ltInt b j du=shiftUp ltInt b (k+1) (swp dk k (k-1))) (fun vj _=>b-(intOf vj).toNat)
                      case atStart=>exact⟨k+1,_,(swp dk k (k-1)),by go_num,Zb _,by omega,ak,(by first|rfl|exact HW.out|(rw[HW.out];exact putRow_drewN _ _ _ _ _ _ _)),rfl⟩
                      case round =>
                       obtain⟨j,m3,du,rfl,ap,aq,ae,aa,hU⟩:=hrel
                       obtain⟨G,hG⟩:∃G:Nat→Int,∀t,G t=du[t]! := ⟨fun t=>du[t]!,fun _=>rfl⟩
                       have ai:∀t,t<d.size→wr.cell? ⟨blk,off+t,none⟩=some (.int .i32 (G t)):=fun t ht=>by
                        rw[aa,hG];exact cell?_putRow _ _ _ _ d du (holds_ahead _ _ _ _ _ _ HH.out) ae t (by omega)
                       have aj:∀t,t<d.size→wr.frozen? ⟨blk,off+t,none⟩=false:=fun t ht=>by
                        rw[aa,frozen?_putRow];exact ((holds_ahead _ _ m3 _ _ _ HH.out) t ht).2
                       have HW:Hid (wr=putRow (Value.int .i32) (Sort.ahead w m3) blk off du):=aa
                       have HG:Hid (∀t,G t=du[t]!):=hG
                       have HU:Hid (shiftUp ltInt b j du=shiftUp ltInt b (k+1) (swp dk k (k-1))):=hU
                       clear aa hG hU
                       go_wp2
                       all_goals first
                        | (at_region 22
                           go_quiet (first|(go_at_call 171;refine Calls.quiet_of_same (So.cmp_Less_int _ _ _)))
                           go_wp2
                           all_goals first
                            | (at_region 23
                               have hl:ltInt (G j) (G (j-1))=true:=by
                                have h:(!ltInt (G j) (G (j-1)))=false:=by assumption
                                simpa using h
                               go_region
                               all_goals go_wp2
                               go_roundw
                               case rel =>
                                refine⟨j+1,m3+(nq+1),swp du j (j-1),by go_num,by omega,by omega,by rw[size_swp];exact ae,?_,?_⟩
                                · rw[HW.out,HG.out,HG.out]
                                  exact swap_worldA _ w m3 (nq+1) blk off du j (j-1) (by omega) (by omega)
                                · rw[←HU.out,shiftUp_go ltInt b j du (by omega) (by rw[←HG.out,←HG.out];exact hl)]
                               case measure=>simp[intOf];omega)
                            | (at_end
                               have hl:ltInt (G j) (G (j-1))=false:=by
                                have h:(!ltInt (G j) (G (j-1)))=true:=by assumption
                                simpa using h
                               go_roundw
                               case rel =>
                                refine⟨k,s+1,_,du,rfl,by go_num,by omega,by omega,by omega,ae,(by first|rfl|exact HW.out|(rw[HW.out];exact putRow_drewN _ _ _ _ _ _ _)),?_⟩
                                rw[←HO.out,pi_go ltInt a b s i k dk hs HK.out (by omega) (by omega),HD.out,show fixUp ltInt b k (swp dk k (k-1))=du from by unfold fixUp;rw[if_pos (by omega),←HU.out,shiftUp_stop ltInt b j du (Or.inr (by rw[←HG.out,←HG.out];exact hl))]]
                               case measure=>simp[intOf];omega))
                        | (at_end
                           go_roundw
                           case rel =>
                            refine⟨k,s+1,_,du,rfl,by go_num,by omega,by omega,by omega,ae,(by first|rfl|exact HW.out|(rw[HW.out];exact putRow_drewN _ _ _ _ _ _ _)),?_⟩
                            rw[←HO.out,pi_go ltInt a b s i k dk hs HK.out (by omega) (by omega),HD.out,show fixUp ltInt b k (swp dk k (k-1))=du from by unfold fixUp;rw[if_pos (by omega),←HU.out,shiftUp_stop ltInt b j du (Or.inl (by omega))]]
                           case measure=>simp[intOf];omega)))))
    ·
     go_quiet (first|(go_at_call 171;refine Calls.quiet_of_same (So.cmp_Less_int _ _ _)))
     go_wp2
     obtain rfl:k=b:=by omega
     have hv:Sort.partialInsertionSort ltInt d a k=(dk,true):=by
      unfold Sort.partialInsertionSort
      rw[←HO.out,pi_true ltInt a k s i dk hs (by rw[←HS.out,scanSorted_stop ltInt dk k k (Or.inl (by omega))])]
     rw[hv]
     go_ret
     exact⟨rfl,m+nq,by rw[HW.out];exact putRow_drewN _ _ _ _ _ _ _⟩
  ·
   obtain rfl:s=5:=by omega
   have hv:Sort.partialInsertionSort ltInt d a b=(dk,false):=by
    unfold Sort.partialInsertionSort
    rw[←HO.out,pi_end]
   rw[hv]
   go_ret
   exact⟨rfl,n,rfl⟩
end Go.Proofs.YtikiplbhlohmdaaGreatDoor
