/- The sort at rune, walked (a text of the kit at int, turned): Walk7. -/
import Derived.Test.YtikiplbhlohmdaaGreatDoorSoWalkA6
import Derived.Sort.AtCall
import Derived.Sort.AssemblyPlain
set_option linter.unusedVariables false
set_option linter.unusedSimpArgs false
namespace Go.Proofs.YtikiplbhlohmdaaGreatDoor
open Go.RowKit Go.Sort
section
variable {α:Type} [Inhabited α]
def bpRest (a L M i0:Nat):Nat→Nat→UInt64 × Array α→Array α
 | 0,_,st=>st.2
 | k+1,t,st=>bpRest a L M i0 k (t+1) (breakStep a L M st (i0+t))
theorem breakPatterns_eq (d:Array α) (a L:Nat) (h8:8≤L):breakPatterns d a (a+L)=bpRest a L (1 <<< bitsLen L) (a+L/4*2-1) 3 0 (UInt64.ofNat L,d):=by
 unfold breakPatterns
 simp only[Nat.add_sub_cancel_left]
 rw[Zp h8]
 rfl
theorem bp_step (a L M i0 t:Nat) (r:UInt64) (d:Array α) (o:Nat) (ht:t<3) (ho:(if (xorNext r).toNat &&& (M-1)≥L then ((xorNext r).toNat &&& (M-1))-L else (xorNext r).toNat &&& (M-1))=o) :
 bpRest a L M i0 (3-t) t (r,d)=bpRest a L M i0 (3-(t+1)) (t+1) (xorNext r,swp d (i0+t) (a+o)):=by
 rw[show 3-t=(3-(t+1))+1 by omega,bpRest]
 unfold breakStep
 simp only[ho]
theorem grow_one_cell (X:World) (v:Value) (T:TypeId):(grow X #[Obj.cells #[v] T]).cell? ⟨X.heap.size,0,none⟩=some v:=by
 rw[←alloc_eq_grow,World.cell?_alloc_at _ _ _ _ rfl];rfl
theorem grow_one_frozen (X:World) (v:Value) (T:TypeId):(grow X #[Obj.cells #[v] T]).frozen? ⟨X.heap.size,0,none⟩=false:=by
 rw[←alloc_eq_grow,World.frozen?_alloc_at _ _ _ _ rfl]
theorem setCell_grow (X:World) (os:Array Obj) (blk off:Nat) (v:Value) (h:blk<X.heap.size):(grow X os).setCell ⟨blk,off,none⟩ v=grow (X.setCell ⟨blk,off,none⟩ v) os:=by
 rw[setCell_eq,setCell_eq,mapBlock_grow _ _ _ _ h]
theorem setCell_grow_one (X:World) (u v:Value) (T:TypeId):(grow X #[Obj.cells #[u] T]).setCell ⟨X.heap.size,0,none⟩ v=grow X #[Obj.cells #[v] T]:=by
 rw[setCell_eq,mapBlock_grow_new _ _ _ _ (Zb _)]
 simp[onCells]
theorem step_world (enc:α→Value) (w:World) (n q blk off:Nat) (d:Array α) (j k:Nat) (aa:blk<w.heap.size) (hj:j<d.size) (hk:k<d.size) (u v:Value) (T:TypeId) :
 ((((grow (putRow enc (Sort.ahead w n) blk off d) #[Obj.cells #[u] T]).setCell ⟨w.heap.size,0,none⟩ v).drewN q).setCell ⟨blk,off+j,none⟩ (enc d[k]!)).setCell ⟨blk,off+k,none⟩ (enc d[j]!) =
   grow (putRow enc (Sort.ahead w (n+q)) blk off (swp d j k)) #[Obj.cells #[v] T]:=by
 have hz:(putRow enc (Sort.ahead w n) blk off d).heap.size=w.heap.size:=by simp
 rw[←hz,setCell_grow_one,show (grow (putRow enc (Sort.ahead w n) blk off d) #[Obj.cells #[v] T]).drewN q=grow ((putRow enc (Sort.ahead w n) blk off d).drewN q) #[Obj.cells #[v] T] from rfl,putRow_drewN,
  setCell_grow _ _ _ _ _ (by simpa using aa),setCell_grow _ _ _ _ _ (by simpa using aa),putRow_swp enc _ blk off d j k hj hk]
end
set_option maxHeartbeats 1000000 in
set_option maxRecDepth 100000 in
theorem So.breakPatterns_int_go (blk off cap a L:Nat) (d:Array Int) (w:World) (hH:Holds (Value.int .i32) w blk off d) (aa:blk<w.heap.size) (hb:a+L≤d.size) (ax:d.size<4611686018427387904) (h8:8≤L) :
 Calls Tryz.prog 167 #[.slice (some ⟨blk,off,none⟩) d.size cap,.int .i64 a,.int .i64 ((a+L:Nat):Int)] w fun e w' =>
  e=.returned (.tuple #[])∧∃n os,w'=grow (putRow (Value.int .i32) (Sort.ahead w n) blk off (breakPatterns d a (a+L))) os:=by
 rw[breakPatterns_eq d a L h8]
 obtain⟨M,hM⟩:∃M:Nat,M=1 <<< bitsLen L:=⟨_,rfl⟩
 have av:1≤M:=by rw[hM,Nat.one_shiftLeft];exact Nat.two_pow_pos _
 have ay:M≤2*L:=by rw[hM,Nat.one_shiftLeft];exact two_pow_bitsLen_le (by omega)
 have aj:∀w,Calls Tryz.prog 202 #[.int .i64 (L:Int)] w fun e w'=>e=.returned (.int .u64 (M:Int))∧w'=w:=by rw[hM];exact fun w=>So.nextPowerOfTwo L (by omega) w
 rw[←hM]
 clear hM
 have HH:Hid (Holds (Value.int .i32) w blk off d):=hH
 have ao:Hid (w.alloc (Obj.cells #[.int .u64 (L:Int)] 289)=grow (putRow (Value.int .i32) (Sort.ahead w 0) blk off d) #[Obj.cells #[.int .u64 ((UInt64.ofNat L).toNat:Int)] 289]):=by
  show _=_
  rw[show Sort.ahead w 0=w from rfl,putRow_self _ _ _ _ _ hH,alloc_eq_grow,show (UInt64.ofNat L).toNat=L from by simp;omega]
 clear hH
 go_enter Tryz.func167,Tryz.ntmps167
 go_wp2_with (first|(go_at_call 202;rw[show ((a:Int)+(L:Int)-(a:Int))=(L:Int) by omega];refine (aj _).mono ?_;rintro e w' ⟨rfl,rfl⟩))
 go_loopw [9] (fun vi wr=>∃(t n:Nat) (r:UInt64) (dk:Array Int),vi=.int .i64 ((a+L/4*2-1+t:Nat):Int)∧t≤3∧dk.size=d.size ∧
  wr=grow (putRow (Value.int .i32) (Sort.ahead w n) blk off dk) #[Obj.cells #[.int .u64 (r.toNat:Int)] 289] ∧
  bpRest a L M (a+L/4*2-1) (3-t) t (r,dk)=bpRest a L M (a+L/4*2-1) 3 0 (UInt64.ofNat L,d)) (fun vi _=>a+L/4*2+3-(intOf vi).toNat)
 case atStart=>exact⟨0,0,UInt64.ofNat L,d,by congr 1;omega,by omega,rfl,ao.out,rfl⟩
 case round =>
  obtain⟨t,n,r,dk,rfl,ht,ah,hw,hR⟩:=hrel
  obtain⟨R,ag⟩:∃R:Nat,R=r.toNat:=⟨_,rfl⟩
  have lR:R<18446744073709551616:=by rw[ag];exact r.toNat_lt
  obtain⟨R',af⟩:∃R':Nat,R'=xorNextN R:=⟨_,rfl⟩
  have ar:R'<18446744073709551616:=by rw[af];exact xorNextN_lt R lR
  obtain⟨O,hO⟩:∃O:Nat,O=R' &&& (M-1):=⟨_,rfl⟩
  have lO:O≤M-1:=by rw[hO];exact Nat.and_le_right
  have ai:bits .and .u64 (R':Int) ((M:Int)-1)=(O:Int):=by
   rw[show ((M:Int)-1)=((M-1:Nat):Int) by omega,bits_and_u64_nat _ _ ar (by omega),hO]
  obtain⟨G,hG⟩:∃G:Nat→Int,∀x,G x=dk[x]! := ⟨fun x=>dk[x]!,fun _=>rfl⟩
  have hz:(putRow (Value.int .i32) (Sort.ahead w n) blk off dk).heap.size=w.heap.size:=by simp
  have au:∀x,x<d.size→wr.cell? ⟨blk,off+x,none⟩=some (.int .i32 (G x)):=fun x hx=>by
   rw[hw,cell?_grow _ _ _ (by rw[hz];exact aa),hG];exact cell?_putRow _ _ _ _ d dk (holds_ahead _ _ _ _ _ _ HH.out) ah x (by omega)
  have aw:∀x,x<d.size→wr.frozen? ⟨blk,off+x,none⟩=false:=fun x hx=>by
   rw[hw,frozen?_grow _ _ _ (by rw[hz];exact aa),frozen?_putRow];exact ((holds_ahead _ _ n _ _ _ HH.out) x hx).2
  have ap:wr.cell? ⟨w.heap.size,0,none⟩=some (.int .u64 (R:Int)):=by rw[hw,ag,←hz];exact grow_one_cell _ _ _
  have ak:wr.frozen? ⟨w.heap.size,0,none⟩=false:=by rw[hw,←hz];exact grow_one_frozen _ _ _
  have ae:Calls Tryz.prog 203 #[.pointer (some ⟨w.heap.size,0,none⟩)] wr fun e w'=>e=.returned (.int .u64 (R':Int))∧w'=(wr.setCell ⟨w.heap.size,0,none⟩ (.int .u64 (R':Int))).drewN 3:=by
   rw[af];exact So.xorshift_Next _ _ R lR wr ap ak
  have HW:Hid (wr=grow (putRow (Value.int .i32) (Sort.ahead w n) blk off dk) #[Obj.cells #[.int .u64 (r.toNat:Int)] 289]):=hw
  have HG:Hid (∀x,G x=dk[x]!):=hG
  have HR:Hid (bpRest a L M (a+L/4*2-1) (3-t) t (r,dk)=bpRest a L M (a+L/4*2-1) 3 0 (UInt64.ofNat L,d)):=hR
  have HN:Hid (R'=(xorNext r).toNat∧O=(xorNext r).toNat &&& (M-1)):=by
   have e:R'=(xorNext r).toNat:=by rw[af,ag,xorNext_toNat]
   exact⟨e,by rw[hO,e]⟩
  clear hw hG hR ag af hO
  go_wp2_with (first|(go_at_call 203;refine ae.mono ?_;rintro e w' ⟨rfl,rfl⟩))
  ·
   have aq:L≤O:=by omega
   by_cases hEq:a+L/4*2-1+t=a+(O-L)
   all_goals
    go_region
    all_goals go_wp2
    go_roundw
    case rel =>
     refine⟨t+1,n+4,xorNext r,swp dk (a+L/4*2-1+t) (a+(O-L)),by first|rfl|(congr 1 <;> omega),by omega,by rw[size_swp];exact ah,?_,?_⟩
     · (try rw[hEq])
       rw[HW.out,HN.out.1]
       simp only[HG.out]
       exact step_world (Value.int .i32) w n 4 blk off dk _ _ aa (by omega) (by omega) _ _ _
     · rw[←HR.out,bp_step a L M _ t r dk (O-L) (by omega) (by rw[←HN.out.2,Zp (by omega)])]
    case measure=>simp[intOf];omega
  · have aq:¬L≤O:=by omega
    by_cases hEq:a+L/4*2-1+t=a+O
    all_goals
     go_region
     all_goals go_wp2
     go_roundw
     case rel =>
      refine⟨t+1,n+4,xorNext r,swp dk (a+L/4*2-1+t) (a+O),by first|rfl|(congr 1 <;> omega),by omega,by rw[size_swp];exact ah,?_,?_⟩
      · (try rw[hEq])
        rw[HW.out,HN.out.1]
        simp only[HG.out]
        exact step_world (Value.int .i32) w n 4 blk off dk _ _ aa (by omega) (by omega) _ _ _
      · rw[←HR.out,bp_step a L M _ t r dk O (by omega) (by rw[←HN.out.2,Zl (by omega)])]
     case measure=>simp[intOf];omega
  ·
   obtain rfl:t=3:=by omega
   go_end0
   exact⟨rfl,n,_,by rw[←HR.out,HW.out];rfl⟩
theorem So.breakPatterns_int (blk off cap a b:Nat) (d:Array Int) (w:World) (hH:Holds (Value.int .i32) w blk off d) (aa:blk<w.heap.size) (ag:a≤b) (hb:b≤d.size) (af:d.size<4611686018427387904) :
 Calls Tryz.prog 167 #[.slice (some ⟨blk,off,none⟩) d.size cap,.int .i64 a,.int .i64 b] w fun e w' =>
  e=.returned (.tuple #[])∧∃n os,w'=grow (putRow (Value.int .i32) (Sort.ahead w n) blk off (breakPatterns d a b)) os:=by
 obtain⟨L,rfl⟩:∃L,b=a+L:=⟨b-a,by omega⟩
 by_cases h8:8≤L
 · exact So.breakPatterns_int_go blk off cap a L d w hH aa hb af h8
 · have hv:breakPatterns d a (a+L)=d:=by unfold breakPatterns;simp only[Nat.add_sub_cancel_left];rw[if_neg h8]
   rw[hv]
   have ae:Hid (w=grow (putRow (Value.int .i32) (Sort.ahead w 0) blk off d) #[]):=by
    show _=_
    rw[grow_empty,show Sort.ahead w 0=w from rfl,putRow_self _ _ _ _ _ hH]
   clear hH
   go_enter Tryz.func167,Tryz.ntmps167
   go_wp2
   go_end0
   exact⟨rfl,0,#[],ae.out⟩
end Go.Proofs.YtikiplbhlohmdaaGreatDoor
namespace Go.Proofs.YtikiplbhlohmdaaGreatDoor
open Go.Sort Go.RowKit
abbrev one (s:Nat):Array Int := #[(s:Int)]
theorem one_cell {w:World} {sb so s:Nat} (h:Holds (Value.int .i64) w sb so (one s)):w.cell? ⟨sb,so,none⟩=some (.int .i64 s)∧w.frozen? ⟨sb,so,none⟩=false:=by simpa using h 0 (by simp)
theorem one_set {w:World} {sb so s:Nat} (h:Holds (Value.int .i64) w sb so (one s)) (t:Nat):w.setCell ⟨sb,so,none⟩ (.int .i64 t)=putRow (Value.int .i64) w sb so (one t):=by
 have:=putRow_set (Value.int .i64) w sb so (one s) 0 (t:Int) (by simp)
 rw[putRow_self _ _ _ _ _ h]at this
 simpa using this
theorem holds_aside {w:World} {blk off sb so n t:Nat} {d:Array Int} (h:Holds (Value.int .i32) w blk off d) (hne:sb≠blk):Holds (Value.int .i32) (putRow (Value.int .i64) (Sort.ahead w n) sb so (one t)) blk off d:=fun j hj =>
 ⟨by rw[cell?_putRow_other _ _ _ _ _ _ (Or.inl (Z8 hne))];exact (h j hj).1,by rw[frozen?_putRow];exact (h j hj).2⟩
theorem one_one (w:World) (n m sb so s t:Nat):putRow (Value.int .i64) (Sort.ahead (putRow (Value.int .i64) (Sort.ahead w n) sb so (one s)) m) sb so (one t)=putRow (Value.int .i64) (Sort.ahead w (n+m)) sb so (one t) :=
 putRow_ahead_putRow _ _ _ _ _ _ _ _ rfl
set_option maxHeartbeats 1000000 in
theorem So.order2_int (d:Array Int) (len:Nat) (hlen:d.size=len) (blk off cap a b sb so s:Nat) (w:World) (hH:Holds (Value.int .i32) w blk off d) (ha:a<d.size) (hb:b<d.size)
 (hS:Holds (Value.int .i64) w sb so (one s)) (hs:s<2 ^ 62) :
 Calls Tryz.prog 228 #[.slice (some ⟨blk,off,none⟩) len cap,.int .i64 a,.int .i64 b,.pointer (some ⟨sb,so,none⟩)] w fun e w' =>
  e=.returned (.tuple #[.int .i64 (order2 ltInt d a b s).1,.int .i64 (order2 ltInt d a b s).2.1])∧∃n,w'=putRow (Value.int .i64) (Sort.ahead w n) sb so (one (order2 ltInt d a b s).2.2):=by
 subst hlen
 replace hs:s<4611686018427387904:=by omega
 have ca:=(hH a ha).1
 have cb:=(hH b hb).1
 obtain⟨cs,fs⟩:=one_cell hS
 have ea:d[a]! = d[a]:=getElem!_pos d a ha
 have eb:d[b]! = d[b]:=getElem!_pos d b hb
 go_enter Tryz.func228,Tryz.ntmps228
 go_wp2
 go_region_with (go_at_call 171;refine (So.cmp_Less_int _ _ _).mono ?_;rintro e w' ⟨rfl,rfl⟩)
 all_goals (try go_wp2)
 all_goals first
  | (have aa:ltInt d[b] d[a]=true:=by assumption
     have e2:order2 ltInt d a b s=(b,a,s+1):=by simp[order2,ea,eb,aa]
     go_ret2
     rw[e2]
     refine⟨rfl,1,?_⟩
     rw[putRow_ahead,←one_set hS (s+1)]
     simp[drew_eq_ahead])
  | (have aa:ltInt d[b] d[a]=false:=by assumption
     have e2:order2 ltInt d a b s=(a,b,s):=by simp[order2,ea,eb,aa]
     go_ret2
     rw[e2]
     refine⟨rfl,1,?_⟩
     rw[putRow_ahead,putRow_self _ _ _ _ _ hS]
     rfl)
theorem order2_lt (d:Array Int) {a b n:Nat} (s:Nat) (ha:a<n) (hb:b<n):(order2 ltInt d a b s).1<n∧(order2 ltInt d a b s).2.1<n:=by
 have:=order2_mem ltInt d a b s
 omega
theorem order2_swaps (d:Array Int) (a b s:Nat):(order2 ltInt d a b s).2.2≤s+1:=by
 unfold order2
 split <;> simp
theorem holds_one {w:World} {sb so s n t:Nat} (h:Holds (Value.int .i64) w sb so (one s)):Holds (Value.int .i64) (putRow (Value.int .i64) (Sort.ahead w n) sb so (one t)) sb so (one t) :=
 holds_putRow _ _ _ _ (one s) (one t) (holds_ahead _ _ _ _ _ _ h) rfl
section
set_option maxHeartbeats 1000000
set_option maxRecDepth 100000
theorem So.median_int (d:Array Int) (len:Nat) (hlen:d.size=len) (blk off cap a b c sb so s:Nat) (w:World) (hH:Holds (Value.int .i32) w blk off d) (ha:a<d.size) (hb:b<d.size) (hc:c<d.size) (hne:sb≠blk)
 (hS:Holds (Value.int .i64) w sb so (one s)) (hs:s+3<2 ^ 62) :
 Calls Tryz.prog 205 #[.slice (some ⟨blk,off,none⟩) len cap,.int .i64 a,.int .i64 b,.int .i64 c,.pointer (some ⟨sb,so,none⟩)] w fun e w' =>
  e=.returned (.int .i64 (median ltInt d a b c s).1)∧∃n,w'=putRow (Value.int .i64) (Sort.ahead w n) sb so (one (median ltInt d a b c s).2):=by
 subst hlen
 have l1:=order2_lt d s ha hb
 have s1:=order2_swaps d a b s
 have l2:=order2_lt d (order2 ltInt d a b s).2.2 l1.2 hc
 have s2:=order2_swaps d (order2 ltInt d a b s).2.1 c (order2 ltInt d a b s).2.2
 go_enter Tryz.func205,Tryz.ntmps205
 go_wp2_with (go_at_call_of 228 (Value.int .i64 (b:Int));refine (So.order2_int d _ rfl blk off cap a b sb so s w hH ha hb hS (by omega)).mono ?_;rintro e w' ⟨rfl,n1,rfl⟩)
 go_wp2_with (go_at_call_of 228 (Value.int .i64 (c:Int));refine (So.order2_int d _ rfl blk off cap (order2 ltInt d a b s).2.1 c sb so (order2 ltInt d a b s).2.2 _ (holds_aside hH hne) l1.2 hc (holds_one hS) (by omega)).mono ?_;rintro e w' ⟨rfl,n2,rfl⟩)
 go_wp2_with (go_at_call_of 228 (Value.int .i64 ((order2 ltInt d a b s).1:Int));refine (So.order2_int d _ rfl blk off cap (order2 ltInt d a b s).1 (order2 ltInt d (order2 ltInt d a b s).2.1 c (order2 ltInt d a b s).2.2).1 sb so (order2 ltInt d (order2 ltInt d a b s).2.1 c (order2 ltInt d a b s).2.2).2.2 _
  (holds_aside (holds_aside hH hne) hne) l1.1 l2.1 (holds_one (holds_one hS)) (by omega)).mono ?_;rintro e w' ⟨rfl,n3,rfl⟩)
 go_ret
 refine⟨rfl,n1+(n2+n3),?_⟩
 rw[one_one,one_one]
 rfl
theorem So.medianAdjacent_int (d:Array Int) (len:Nat) (hlen:d.size=len) (blk off cap a sb so s:Nat) (w:World) (hH:Holds (Value.int .i32) w blk off d) (ha0:1≤a) (ha:a+1<d.size) (aa:d.size<2 ^ 62) (hne:sb≠blk)
 (hS:Holds (Value.int .i64) w sb so (one s)) (hs:s+3<2 ^ 62) :
 Calls Tryz.prog 204 #[.slice (some ⟨blk,off,none⟩) len cap,.int .i64 a,.pointer (some ⟨sb,so,none⟩)] w fun e w' =>
  e=.returned (.int .i64 (medianAdjacent ltInt d a s).1)∧∃n,w'=putRow (Value.int .i64) (Sort.ahead w n) sb so (one (medianAdjacent ltInt d a s).2):=by
 subst hlen
 replace aa:d.size<4611686018427387904:=by omega
 go_enter Tryz.func204,Tryz.ntmps204
 go_wp2_with (go_at_call 205;rw[show ((a:Int)-1)=((a-1:Nat):Int) by omega,show ((a:Int)+1)=((a+1:Nat):Int) by omega];refine (So.median_int d _ rfl blk off cap (a-1) a (a+1) sb so s w hH (by omega) (by omega) ha hne hS hs).mono ?_;rintro e w' ⟨rfl,n1,rfl⟩)
 go_ret
 exact⟨rfl,n1,rfl⟩
end
theorem of_beq_int {x y:Int} (h:(x == y)=true):x=y:=by simpa using h
theorem of_bne_int {x y:Int} (h:(x == y)=false):x≠y:=by simpa using h
theorem counter_grow (w:World) (N S:Nat):∃os,putRow (Value.int .i64) (Sort.ahead (w.alloc (.cells #[.int .i64 0] 3)) N) w.heap.size 0 (one S)=grow (Sort.ahead w N) os:=by
 rw[alloc_eq_grow,ahead_grow]
 obtain⟨os,_,h⟩:=putRow_grow_new (Value.int .i64) (Sort.ahead w N) #[.cells #[.int .i64 0] 3] w.heap.size 0 (one S) (Zb _)
 exact⟨os,h⟩
theorem pivot_world_int (blk off cap:Nat) (d:Array Int) (w:World) (hH:Holds (Value.int .i32) w blk off d) (ae:blk<w.heap.size) (ag:d.size<4611686018427387904) :
 ∃Wc:Nat→Nat→World,
  w.alloc (.cells #[.int .i64 0] 3)=Wc 0 0 ∧
  (∀N S:Nat,(Wc N S).cell? ⟨w.heap.size,0,none⟩=some (.int .i64 (S:Int))) ∧
  (∀N S:Nat,∃os,Wc N S=grow (Sort.ahead w N) os) ∧
  (∀x s N:Nat,1≤x→x+1<d.size→s+3<4611686018427387904→Calls Tryz.prog 204 #[.slice (some ⟨blk,off,none⟩) d.size cap,.int .i64 (x:Int),.pointer (some ⟨w.heap.size,0,none⟩)] (Wc N s) fun e w' =>
    e=.returned (.int .i64 ((medianAdjacent ltInt d x s).1:Int))∧∃N',w'=Wc N' (medianAdjacent ltInt d x s).2) ∧
  (∀x y z s N:Nat,x<d.size→y<d.size→z<d.size→s+3<4611686018427387904→Calls Tryz.prog 205 #[.slice (some ⟨blk,off,none⟩) d.size cap,.int .i64 (x:Int),.int .i64 (y:Int),.int .i64 (z:Int),.pointer (some ⟨w.heap.size,0,none⟩)] (Wc N s) fun e w' =>
    e=.returned (.int .i64 ((median ltInt d x y z s).1:Int))∧∃N',w'=Wc N' (median ltInt d x y z s).2):=by
 have hne:w.heap.size≠blk:=by omega
 have af:Holds (Value.int .i32) (w.alloc (.cells #[.int .i64 0] 3)) blk off d:=by rw[alloc_eq_grow];exact holds_grow _ _ _ _ _ _ ae hH
 have aa:Holds (Value.int .i64) (w.alloc (.cells #[.int .i64 0] 3)) w.heap.size 0 (one 0):=fun j hj=>by
  obtain rfl:j=0:=by simpa using hj
  simp
 refine⟨fun N S=>putRow (Value.int .i64) (Sort.ahead (w.alloc (.cells #[.int .i64 0] 3)) N) w.heap.size 0 (one S),(putRow_self _ _ _ _ _ aa).symm,fun N S=>(one_cell (holds_one (n:=N) (t:=S) aa)).1,fun N S=>counter_grow w N S,?_,?_⟩
 · intro x s N h1 h2 hs
   refine (So.medianAdjacent_int d _ rfl blk off cap x w.heap.size 0 s _ (holds_aside af hne) h1 h2 (by omega) hne (holds_one aa) (by omega)).mono ?_
   rintro e w' ⟨he,n,hw⟩
   exact⟨he,N+n,by rw[hw,one_one]⟩
 · intro x y z s N h1 h2 h3 hs
   refine (So.median_int d _ rfl blk off cap x y z w.heap.size 0 s _ (holds_aside af hne) h1 h2 h3 hne (holds_one aa) (by omega)).mono ?_
   rintro e w' ⟨he,n,hw⟩
   exact⟨he,N+n,by rw[hw,one_one]⟩
set_option maxRecDepth 100000 in
theorem So.choosePivot_int (blk off cap a b:Nat) (d:Array Int) (w:World) (hH:Holds (Value.int .i32) w blk off d) (ai:blk<w.heap.size) (ap:a<b) (hb:b≤d.size) (ak:d.size<4611686018427387904) :
 Calls Tryz.prog 168 #[.slice (some ⟨blk,off,none⟩) d.size cap,.int .i64 a,.int .i64 b] w fun e w' =>
  e=.returned (.tuple #[.int .i64 (choosePivot ltInt d a b).1,.int .i64 (hintCode (choosePivot ltInt d a b).2)])∧∃n os,w'=grow (Sort.ahead w n) os:=by
 obtain⟨Wc,aj,cS,hG,MA,MD⟩:=pivot_world_int blk off cap d w hH ai ak
 clear hH
 rw[choosePivot_eq]
 obtain⟨I,hI⟩:∃I:Nat,I=a+(b-a)/4*1:=⟨_,rfl⟩
 obtain⟨J,hJ⟩:∃J:Nat,J=a+(b-a)/4*2:=⟨_,rfl⟩
 obtain⟨K,hK⟩:∃K:Nat,K=a+(b-a)/4*3:=⟨_,rfl⟩
 have eI:((a:Int)+((b:Int)-(a:Int))/4)=(I:Int):=by omega
 have eJ:((a:Int)+((b:Int)-(a:Int))/4*2)=(J:Int):=by omega
 have eK:((a:Int)+((b:Int)-(a:Int))/4*3)=(K:Int):=by omega
 by_cases h8:b-a≥8
 · by_cases h50:b-a≥50
   ·
    obtain⟨i1,s1,h1⟩:∃i1 s1,medianAdjacent ltInt d I 0=(i1,s1):=⟨_,_,rfl⟩
    obtain⟨j1,s2,h2⟩:∃j1 s2,medianAdjacent ltInt d J s1=(j1,s2):=⟨_,_,rfl⟩
    obtain⟨k1,s3,h3⟩:∃k1 s3,medianAdjacent ltInt d K s2=(k1,s3):=⟨_,_,rfl⟩
    obtain⟨p,s,h4⟩:∃p s,median ltInt d i1 j1 k1 s3=(p,s):=⟨_,_,rfl⟩
    have aa:rawPivot ltInt d a b=(p,s):=by simp only[rawPivot,Zp h8,Zp h50,←hI,←hJ,←hK,h1,h2,h3,h4]
    have m1:=medianAdjacent_mem ltInt d I 0;rw[h1]at m1
    have m2:=medianAdjacent_mem ltInt d J s1;rw[h2]at m2
    have m3:=medianAdjacent_mem ltInt d K s2;rw[h3]at m3
    have n1:=medianAdjacent_count ltInt d I 0;rw[h1]at n1
    have n2:=medianAdjacent_count ltInt d J s1;rw[h2]at n2
    have n3:=medianAdjacent_count ltInt d K s2;rw[h3]at n3
    simp only[]at m1 m2 m3 n1 n2 n3
    have c1:Calls Tryz.prog 204 #[.slice (some ⟨blk,off,none⟩) d.size cap,.int .i64 (I:Int),.pointer (some ⟨w.heap.size,0,none⟩)] (Wc 0 0) fun e w'=>e=.returned (.int .i64 (i1:Int))∧∃N',w'=Wc N' s1:=by
     have h:=MA I 0 0 (by omega) (by omega) (by omega);rw[h1]at h;exact h
    have c2:∀N,Calls Tryz.prog 204 #[.slice (some ⟨blk,off,none⟩) d.size cap,.int .i64 (J:Int),.pointer (some ⟨w.heap.size,0,none⟩)] (Wc N s1) fun e w'=>e=.returned (.int .i64 (j1:Int))∧∃N',w'=Wc N' s2:=fun N=>by
     have h:=MA J s1 N (by omega) (by omega) (by omega);rw[h2]at h;exact h
    have c3:∀N,Calls Tryz.prog 204 #[.slice (some ⟨blk,off,none⟩) d.size cap,.int .i64 (K:Int),.pointer (some ⟨w.heap.size,0,none⟩)] (Wc N s2) fun e w'=>e=.returned (.int .i64 (k1:Int))∧∃N',w'=Wc N' s3:=fun N=>by
     have h:=MA K s2 N (by omega) (by omega) (by omega);rw[h3]at h;exact h
    have c4:∀N,Calls Tryz.prog 205 #[.slice (some ⟨blk,off,none⟩) d.size cap,.int .i64 (i1:Int),.int .i64 (j1:Int),.int .i64 (k1:Int),.pointer (some ⟨w.heap.size,0,none⟩)] (Wc N s3) fun e w'=>e=.returned (.int .i64 (p:Int))∧∃N',w'=Wc N' s:=fun N=>by
     have h:=MD i1 j1 k1 s3 N (by omega) (by omega) (by omega) (by omega);rw[h4]at h;exact h
    rw[aa]
    obtain⟨Hc,ae⟩:∃Hc:Int,Hc=hintCode (hintOf s):=⟨_,rfl⟩
    have ag:s=0→Hc=1:=fun h=>by rw[ae,h];rfl
    have af:s=12→Hc=2:=fun h=>by rw[ae,h];rfl
    have ah:s≠0→s≠12→Hc=0:=fun h1 h2=>by rw[ae];unfold hintOf;rw[if_neg h1,if_neg h2];rfl
    show Calls Tryz.prog 168 _ w fun e w'=>e=.returned (.tuple #[.int .i64 (p:Int),.int .i64 (hintCode (hintOf s))])∧∃n os,w'=grow (Sort.ahead w n) os
    rw[←ae]
    clear ae aa
    clear h1 h2 h3 h4 MA MD hI hJ hK m1 m2 m3
    go_enter Tryz.func168,Tryz.ntmps168
    go_wp2_with (first
     | (go_at_call_has 204 (Value.int .i64 (I:Int));refine c1.mono ?_;rintro e w' ⟨rfl,N1,rfl⟩)
     | (go_at_call_has 204 (Value.int .i64 (J:Int));refine (c2 _).mono ?_;rintro e w' ⟨rfl,N2,rfl⟩)
     | (go_at_call_has 204 (Value.int .i64 (K:Int));refine (c3 _).mono ?_;rintro e w' ⟨rfl,N3,rfl⟩)
     | (go_at_call 205;refine (c4 _).mono ?_;rintro e w' ⟨rfl,N4,rfl⟩))
    all_goals
     go_ret2
     refine⟨?_,_,hG _ _⟩
     first
      | (have e0:(s:Int)=0:=of_beq_int (by assumption)
         rw[ag (by omega)];rfl)
      | (have e1:(s:Int)=12:=of_beq_int (by assumption)
         rw[af (by omega)];rfl)
      | (have e0:(s:Int)≠0:=of_bne_int (by assumption)
         have e1:(s:Int)≠12:=of_bne_int (by assumption)
         rw[ah (by omega) (by omega)];rfl)
      | (rw[ag (by omega)];rfl)
   ·
    obtain⟨p,s,h4⟩:∃p s,median ltInt d I J K 0=(p,s):=⟨_,_,rfl⟩
    have aa:rawPivot ltInt d a b=(p,s):=by simp only[rawPivot,Zp h8,Zl h50,←hI,←hJ,←hK,h4]
    have c4:Calls Tryz.prog 205 #[.slice (some ⟨blk,off,none⟩) d.size cap,.int .i64 (I:Int),.int .i64 (J:Int),.int .i64 (K:Int),.pointer (some ⟨w.heap.size,0,none⟩)] (Wc 0 0) fun e w'=>e=.returned (.int .i64 (p:Int))∧∃N',w'=Wc N' s:=by
     have h:=MD I J K 0 0 (by omega) (by omega) (by omega) (by omega);rw[h4]at h;exact h
    rw[aa]
    obtain⟨Hc,ae⟩:∃Hc:Int,Hc=hintCode (hintOf s):=⟨_,rfl⟩
    have ag:s=0→Hc=1:=fun h=>by rw[ae,h];rfl
    have af:s=12→Hc=2:=fun h=>by rw[ae,h];rfl
    have ah:s≠0→s≠12→Hc=0:=fun h1 h2=>by rw[ae];unfold hintOf;rw[if_neg h1,if_neg h2];rfl
    show Calls Tryz.prog 168 _ w fun e w'=>e=.returned (.tuple #[.int .i64 (p:Int),.int .i64 (hintCode (hintOf s))])∧∃n os,w'=grow (Sort.ahead w n) os
    rw[←ae]
    clear ae aa
    clear h4 MA MD hI hJ hK
    go_enter Tryz.func168,Tryz.ntmps168
    go_wp2_with (first|(go_at_call 205;refine c4.mono ?_;rintro e w' ⟨rfl,N4,rfl⟩))
    all_goals
     go_ret2
     refine⟨?_,_,hG _ _⟩
     first
      | (have e0:(s:Int)=0:=of_beq_int (by assumption)
         rw[ag (by omega)];rfl)
      | (have e1:(s:Int)=12:=of_beq_int (by assumption)
         rw[af (by omega)];rfl)
      | (have e0:(s:Int)≠0:=of_bne_int (by assumption)
         have e1:(s:Int)≠12:=of_bne_int (by assumption)
         rw[ah (by omega) (by omega)];rfl)
      | (rw[ag (by omega)];rfl)
 ·
  obtain⟨p,hp⟩:∃p:Nat,p=J:=⟨_,rfl⟩
  obtain⟨s,hs⟩:∃s:Nat,s=0:=⟨_,rfl⟩
  have aa:rawPivot ltInt d a b=(p,s):=by simp only[rawPivot,Zl h8,←hJ,hp,hs]
  rw[aa]
  obtain⟨Hc,ae⟩:∃Hc:Int,Hc=hintCode (hintOf s):=⟨_,rfl⟩
  have ag:s=0→Hc=1:=fun h=>by rw[ae,h];rfl
  have af:s=12→Hc=2:=fun h=>by rw[ae,h];rfl
  have ah:s≠0→s≠12→Hc=0:=fun h1 h2=>by rw[ae];unfold hintOf;rw[if_neg h1,if_neg h2];rfl
  show Calls Tryz.prog 168 _ w fun e w'=>e=.returned (.tuple #[.int .i64 (p:Int),.int .i64 (hintCode (hintOf s))])∧∃n os,w'=grow (Sort.ahead w n) os
  rw[←ae]
  clear ae aa
  subst hp
  clear MA MD hI hJ hK
  have ao:w.alloc (.cells #[.int .i64 0] 3)=Wc 0 s:=by rw[hs];exact aj
  clear aj
  go_enter Tryz.func168,Tryz.ntmps168
  go_wp2
  all_goals
   go_ret2
   refine⟨?_,_,hG _ _⟩
   first
    | (have e0:(s:Int)=0:=of_beq_int (by assumption)
       rw[ag (by omega)];rfl)
    | (have e1:(s:Int)=12:=of_beq_int (by assumption)
       rw[af (by omega)];rfl)
    | (have e0:(s:Int)≠0:=of_bne_int (by assumption)
       have e1:(s:Int)≠12:=of_bne_int (by assumption)
       rw[ah (by omega) (by omega)];rfl)
    | (rw[ag (by omega)];rfl)
end Go.Proofs.YtikiplbhlohmdaaGreatDoor
namespace Go.Proofs.YtikiplbhlohmdaaGreatDoor
open Go.Sort
theorem callees13:Callees13 where
 ins:=So.insertionSort_int
 brk:=So.breakPatterns_int
 piv:=So.choosePivot_int
 par:=So.partialInsertionSort_int
 peq:=So.partitionEqualOrdered_int
 prt:=So.partitionOrdered_int
theorem plain13:Plain13 where
 swo:=swo_ltInt
 ins:=insertionSort_holds
 par:=partialInsertionSort_holds
 prt:=partition_holds _
 peq:=partitionEqual_holds _
 pdq:=pdq_sorts _
theorem pdqWalkInt:pdqWalk_int:=fun blk off cap a b limit d w hH hb aa hbd ae hl hB =>
 So.pdqsort_int callees13 plain13 (b-a+1) blk off cap a b limit d w (by omega) hH hb aa hbd ae hl hB
theorem sort_int_eq (zs:List Int):Sort.sort ltInt zs.toArray=(zs.mergeSort fun x y=>decide (x≤y)).toArray:=by
 rw[←sortInt zs]
theorem So.slices_Sort_int (blk off cap:Nat) (zs:List Int) (w:World) (hH:Holds (Value.int .i32) w blk off zs.toArray) (aa:blk<w.heap.size) (ae:zs.length<4611686018427387904) :
 Calls Tryz.prog 98 #[.slice (some ⟨blk,off,none⟩) zs.length cap] w fun e w' =>
  e=.returned (.tuple #[])∧∃n os,w'=grow (putRow (Value.int .i32) (Sort.ahead w n) blk off (zs.mergeSort fun x y=>decide (x≤y)).toArray) os:=by
 have h:=So.Sort_int pdqWalkInt blk off cap zs.toArray w hH aa (by simpa using ae)
 rw[sort_int_eq]at h
 simpa using h
end Go.Proofs.YtikiplbhlohmdaaGreatDoor
namespace Go.Proofs.YtikiplbhlohmdaaGreatDoor
open Go.RowKit Go.Sort
theorem R.holds {w:World} {g:Nat} {aa:Array Value} {e:TypeId} {l:List Int} (hb:w.heap[g]?=some (.cells aa e (0,0))) (ht:aa.toList.take l.length=l.map (Value.int .i32)):Holds (Value.int .i32) w g 0 l.toArray:=by
 intro j hj
 have ae:j<l.length:=by simpa using hj
 refine⟨?_,by simp[World.frozen?,hb]⟩
 have h1:(aa.toList.take l.length)[j]?=(l.map (Value.int .i32))[j]?:=by rw[ht]
 rw[List.getElem?_take_of_lt ae]at h1
 simp only[World.cell?,hb,Z1]
 simp only[Option.isSome_none,ZJ,Ye]
 rw[←Array.getElem?_toList,h1]
 simp[ae]
theorem R.heap {w:World} {g n:Nat} {os:Array Obj} {aa:Array Value} {e:TypeId} {fr:Nat × Nat} (d:Array Int) (hb:w.heap[g]?=some (.cells aa e fr)) :
 (grow (putRow (Value.int .i32) (Sort.ahead w n) g 0 d) os).heap[g]?=some (.cells (putCells (Value.int .i32) 0 d aa) e fr):=by
 have hg:g<w.heap.size:=(Array.getElem?_eq_some_iff.1 hb).1
 rw[heap_grow_old _ _ (by simpa using hg)]
 simp[putRow,mapBlock,Sort.ahead,YN,hb,onCells]
theorem R.below {w:World} {g n base:Nat} {os:Array Obj} (d:Array Int) (hg:base≤g) (hb:base≤w.heap.size):Go.RowKit.Below base w (grow (putRow (Value.int .i32) (Sort.ahead w n) g 0 d) os):=by
 refine⟨rfl,rfl,rfl,by simp,fun k hk=>?_⟩
 rw[heap_grow_old _ _ (by simp;omega)]
 have:g≠k:=by omega
 simp[putRow,mapBlock,Sort.ahead,YN,this]
theorem R.take (aa:Array Value) (ts:List Int) (h:ts.length≤aa.size):(putCells (Value.int .i32) 0 ts.toArray aa).toList.take ts.length=ts.map (Value.int .i32):=by
 apply XG
 intro j
 by_cases hj:j<ts.length
 · rw[List.getElem?_take_of_lt hj,Array.getElem?_toList]
   simp[putCells,hj,show j<aa.size by omega]
 · rw[List.getElem?_take_eq_none (by omega),Yn (by simp;omega)]
theorem R.sort_any (v:Value) (base e n:Nat) (l:List Int) (w:World) (hn:l.length=n) (ah:n≤1000000) (ae:w.ownsRow base e 1 v n (l.map (Value.int .i32))) (aa:base≤w.heap.size) :
 Calls Tryz.prog 98 #[v] w fun r w'=>r=.returned (.tuple #[])∧w'.ownsRow base e 1 v n ((l.mergeSort fun x y=>decide (x≤y)).map (Value.int .i32))∧Go.RowKit.Below base w w':=by
 subst hn
 rcases ae.2 with ⟨rfl,h0⟩|⟨g,cap,ag,rfl,hg,hb,h1,h2,h3,h4⟩
 · have hl:l=[]:=Zy h0
   subst hl
   refine (So.Sort_int_nil none 0 w).mono fun r w' ⟨hr,hw⟩=>?_
   subst hw
   exact⟨hr,by simpa using ae,Go.RowKit.Below.refl _ _⟩
 · rw[Xe]at h4
   have af:g<w.heap.size:=(Array.getElem?_eq_some_iff.1 hb).1
   refine (So.slices_Sort_int g 0 cap l w (R.holds hb h4) af (by omega)).mono fun r w' ⟨hr,n,os,hw⟩=>?_
   subst hw
   have hl:(l.mergeSort fun x y=>decide (x≤y)).length=l.length:=by simp
   refine⟨hr,⟨by simp,.inr ⟨g,cap,_,rfl,hg,R.heap _ hb,h1,h2,by simp[putCells,h3],?_⟩⟩,R.below _ hg aa⟩
   rw[Xe]
   have h:=R.take ag (l.mergeSort fun x y=>decide (x≤y)) (by rw[hl];omega)
   rw[hl]at h
   exact h
end Go.Proofs.YtikiplbhlohmdaaGreatDoor
