/- The two maps of a loaded table: what is found in them, and what a store makes of them. -/
import Derived.Test.YtbeakahjbkdeiaaGreatDoorMdExp
import Derived.Test.YtbeakahjbkdeiaaGreatDoorPgRaw
import Derived.DeepKeys4
import Derived.Test.YtbeakahjbkdeiaaGreatDoorMdFull
import Derived.Test.YtbeakahjbkdeiaaGreatDoorMap
import Derived.Test.YtbeakahjbkdeiaaGreatDoorUdIs
import Derived.Test.YtbeakahjbkdeiaaGreatDoorSlt
import Derived.Lib.AppendZerosOnto
import Derived.Lib.SliceRun
import Derived.Test.YtbeakahjbkdeiaaGreatDoorRows
import Derived.Lib.Walk
import Derived.Sort.Row
import Derived.Lib.Strings
import Derived.WalkKit
import Derived.Deep.LoopGhost
import Derived.BigQuiet
import Derived.CellFam
import Derived.BigCall
import Derived.BigGuard
import Derived.Sort.Walk13a
import Derived.Sort.LotD4
import Derived.Sort.LotB
import Derived.Deep.Cut
import Derived.Sort.LotA
import Derived.Deep.Draws
import Derived.Deep.QuietTactic
namespace Go.Proofs.YtbeakahjbkdeiaaGreatDoor
open Go.RowKit
set_option linter.unusedSimpArgs false
set_option linter.unusedVariables false
theorem Ud.key32 {c:Int} (h : -2147483648≤c∧c≤2147483647):keyOf Tryz.prog 21 (.int .i32 c)=some (.int .i32 c):=Go.Maps.keyOf_int_mk Tryz.underlying21 (Md.wf32 h.1 h.2)
theorem Ud.look32 {w:World} {b:Nat} {F:Value→Option Value} (h:Mp.Is Tryz.prog 21 w b F) {c:Int} (hc : -2147483648≤c∧c≤2147483647) {v:Value} (hv:(F (.int .i32 c)).getD (.slice none 0 0)=v) :
 (Instr.lookup 125 (.map (some b)) (.int .i32 c) false).run Tryz.prog w=.ok v w:=by
 have hz:(zeroValue 25).run Tryz.prog w=.ok (.slice none 0 0) w:=by kernel_rfl
 have:=h.look Pg.keyed32 Tryz.underlying125 hz (Ud.key32 hc) false
 rw[if_neg (by simp),hv]at this
 exact this
theorem Ud.put32 {w:World} {b:Nat} {F:Value→Option Value} (h:Mp.Is Tryz.prog 21 w b F) {c:Int} (hc : -2147483648≤c∧c≤2147483647) (v:Value) :
 ∃w' F',(Instr.mapUpdate 125 (.map (some b)) (.int .i32 c) v).run Tryz.prog w=.ok () w'∧Mp.Is Tryz.prog 21 w' b F'∧F' (.int .i32 c)=some v∧(∀y,y≠.int .i32 c→F' y=F y)∧w.grownBy w' (some b):=by
 obtain⟨F',h1,h2⟩:∃F':Value→Option Value,F' (.int .i32 c)=some v∧∀z,z≠.int .i32 c→F' z=F z:=by
  classical
  exact⟨fun z=>if z=.int .i32 c then some v else F z,by simp,fun z hz=>by simp[hz]⟩
 obtain⟨w',g1,g2,g3⟩:=h.put Pg.keyed32 Tryz.underlying125 (Ud.key32 hc) F' h1 h2
 exact⟨w',F',g1,g2,h1,h2,g3⟩
theorem Ud.keyedP:Go.Maps.Keyed Tryz.prog 180:=Go.Maps.Keyed.of_law (Go.deep_law_laid (m:=3) (by kernel_rfl) (by decide) (of_decide_eq_true (by kernel_rfl)) (by kernel_rfl) (by rw[Tryz.underlying180]))
theorem Ud.pk_key {x y:Int} (hx : -2147483648≤x∧x≤2147483647) (hy : -2147483648≤y∧y≤2147483647):∃l,keyOf Tryz.prog 180 (Md.pk x y)=some l:=by
 have h0:∀(m:Nat) (z:Int),-2147483648≤z∧z≤2147483647→Tryz.prog.keyLits (m+1) 21 [.int .i32 z]=some [.int .i32 z]:=fun m z hz=>by
  unfold Program.keyLits
  rw[Tryz.underlying21]
  simp[Md.wf32 hz.1 hz.2]
 have h1:∀z:Int,-2147483648≤z∧z≤2147483647→Tryz.prog.keyLits 375 21 [.int .i32 z]=some [.int .i32 z]:=fun z hz=>by
  have:=h0 (375-1) z hz
  rwa [show 375-1+1=375 by decide]at this
 have ht:Tryz.prog.types.size=375:=by kernel_rfl
 have hc:Tryz.prog.cellsOf 21=1:=by kernel_rfl
 have aa:Tryz.prog.cellsOf 180=2:=by kernel_rfl
 have hl:Tryz.prog.keyLits (Tryz.prog.types.size+1) 180 [.int .i32 x,.int .i32 y]=some [.int .i32 x,.int .i32 y]:=by
  unfold Program.keyLits
  rw[Tryz.underlying180,ht]
  simp[hc,aa,h1 x hx,h1 y hy]
 have hk:Tryz.prog.keyType 180=true:=by kernel_rfl
 have hf:(Md.pk x y).formed Tryz.prog 180=true:=by
  unfold Value.formed Md.pk
  rw[Tryz.underlying180]
  simp[aa]
 unfold keyOf
 rw[Tryz.underlying180]
 simp only[hk,hf,Bool.and_self,if_true]
 unfold Md.pk
 simp only[Value.cells]
 rw[hl]
 exact⟨_,rfl⟩
theorem Ud.putP {w:World} {b:Nat} {F:Value→Option Value} (h:Mp.Is Tryz.prog 180 w b F) {x y:Int} (hx : -2147483648≤x∧x≤2147483647) (hy : -2147483648≤y∧y≤2147483647) (v:Value) :
 ∃w' F',(Instr.mapUpdate 126 (.map (some b)) (.agg #[.int .i32 x,.int .i32 y]) v).run Tryz.prog w=.ok () w'∧Mp.Is Tryz.prog 180 w' b F'∧F' (.agg #[.int .i32 x,.int .i32 y])=some v∧(∀z,z≠.agg #[.int .i32 x,.int .i32 y]→F' z=F z)∧w.grownBy w' (some b):=by
 obtain⟨l,hl⟩:=Ud.pk_key hx hy
 obtain⟨F',h1,h2⟩:∃F':Value→Option Value,F' (Md.pk x y)=some v∧∀z,z≠Md.pk x y→F' z=F z:=by
  classical
  exact⟨fun z=>if z=Md.pk x y then some v else F z,by simp,fun z hz=>by simp[hz]⟩
 obtain⟨w',g1,g2,g3⟩:=h.put Ud.keyedP Tryz.underlying126 hl F' h1 h2
 exact⟨w',F',g1,g2,h1,h2,g3⟩
set_option maxRecDepth 100000 in
set_option maxHeartbeats 1000000 in
theorem Ud.class_any (v:Value) (T:List Rw.Row) (S:List Int) (c:Int) (w:World) (ok:Ud.Ok T S) (h:Ud.Is w v T S) :
 Calls Tryz.prog 26 #[v,.int .i32 c] w fun e w'=>e=.returned (.int .i64 (Md.cls T c))∧Below w.heap.size w w':=by
 obtain⟨b,A0,c0,XA,xc,pc,pp,A3,c3,mb,jb,A4,c4,A5,c5,A6,c6,es,rfl,ae,_,_,af,ai,aa,_⟩:=h.is
 have z2:=ae.cell 2 rfl
 have aj:=ae.lt
 have hG:=Pg.get_any pc _ c _ af
 rw[Ud.get_cls ok]at hG
 have ag:=Ud.cls_bd ok c
 obtain⟨k,hk⟩:∃k,Md.cls T c=k:=⟨_,rfl⟩
 rw[hk]at ag hG ⊢
 have hw:IntKind.i64.wrap k=k:=by rw[IntKind.wrap_i64];omega
 clear aa ai af ae h hk ok
 go_enter Tryz.func26,Tryz.ntmps26
 go_wp2_with fail
 refine hG.mono ?_
 rintro e w1 ⟨rfl,ah⟩
 clear hG z2
 go_wp2_with fail
 go_ret
 exact⟨rfl,ah⟩
end Go.Proofs.YtbeakahjbkdeiaaGreatDoor
namespace Go.Proofs.YtbeakahjbkdeiaaGreatDoor
set_option linter.unusedSimpArgs false
set_option linter.unusedVariables false
section
set_option maxHeartbeats 1000000
theorem So.cmp_isNaN_int (x:Int) (w:World):Calls Tryz.prog 233 #[.int .i32 x] w fun e w'=>e=.returned (.bool false)∧w'=w:=by
 go_enter Tryz.func233,Tryz.ntmps233
 go_wp2
 go_ret
 exact⟨by simp,rfl⟩
theorem So.cmp_Less_int (x y:Int) (w:World):Calls Tryz.prog 188 #[.int .i32 x,.int .i32 y] w fun e w'=>e=.returned (.bool (Sort.ltInt x y))∧w'=w:=by
 go_enter Tryz.func188,Tryz.ntmps188
 go_wp2_with (go_at_call 233;refine (So.cmp_isNaN_int _ _).mono ?_;rintro e w' ⟨rfl,rfl⟩)
 go_ret
 exact⟨rfl,rfl⟩
end
end Go.Proofs.YtbeakahjbkdeiaaGreatDoor
namespace Go.Proofs.YtbeakahjbkdeiaaGreatDoor
set_option linter.unusedSimpArgs false
set_option linter.unusedVariables false
open Go.Sort Go.RowKit
abbrev encI:Int→Value:=fun x=>Value.int .i32 x
theorem swap_world {α:Type} [Inhabited α] (enc:α→Value) {w wr:World} {n blk off:Nat} {dk:Array α} {i j:Nat} (hi:i<dk.size) (hj:j<dk.size) (aa:wr=putRow enc (Sort.ahead w n) blk off dk)
 {x y:Value} (hx:x=enc dk[j]!) (hy:y=enc dk[i]!):((wr.setCell ⟨blk,off+i,none⟩ x).setCell ⟨blk,off+j,none⟩ y).drew=putRow enc (Sort.ahead w (n+1)) blk off (swp dk i j):=by
 subst aa;subst hx;subst hy
 rw[putRow_swp enc _ blk off dk i j hi hj,←ahead_drew]
 rfl
set_option maxHeartbeats 1600000 in
set_option maxRecDepth 1000000 in
theorem So.reverseRange_int (blk off cap:Nat) (d:Array Int) (a b:Nat) (w:World) (hH:Holds encI w blk off d) (aj:a≤b) (hb:b≤d.size) (ak:d.size<4611686018427387904) :
 Calls Tryz.prog 186 #[.slice (some ⟨blk,off,none⟩) d.size cap,.int .i64 a,.int .i64 b] w fun e w'=>e=.returned (.tuple #[])∧∃n,w'=putRow encI (Sort.ahead w n) blk off (reverseRange d a b):=by
 go_enter Tryz.func186,Tryz.ntmps186
 go_wp2
 go_loopg [6,7] (b-a) (fun k s6 s7 wr=>∃(i jn:Nat) (jz:Int) (dk:Array Int) (n:Nat),s6=.int .i64 i∧s7=.int .i64 jz∧((i:Int)<jz→jz=jn∧jn<d.size)∧(¬(i:Int)<jz→¬i<jn)∧jn-i≤k ∧
  dk.size=d.size∧wr=putRow encI (Sort.ahead w n) blk off dk∧reverseLoop i jn dk=reverseLoop a (b-1) d)
 case atStart=>exact⟨a,b-1,(b:Int)-1,d,0,rfl,rfl,fun h=>⟨by omega,by omega⟩,fun h=>by omega,by omega,rfl,(putRow_self encI w blk off d hH).symm,rfl⟩
 case round =>
  obtain⟨i,jn,jz,dk,n,rfl,rfl,h1,h2,hk,ah,af,aa⟩:=hrel
  by_cases hlt:(i:Int)<jz
  · obtain⟨rfl,ai⟩:=h1 hlt
    have hij:i<jn:=by omega
    have ag:Holds encI wr blk off dk:=by rw[af];exact holds_putRow encI _ blk off d dk (holds_ahead encI w n blk off d hH) ah
    obtain⟨ci,fi⟩:=ag i (by omega)
    obtain⟨cj,fj⟩:=ag jn (by omega)
    have A:Aside (wr=putRow encI (Sort.ahead w n) blk off dk):=af
    clear af ag hH h1 h2
    go_wp2_with fail
    go_region
    go_wp2
    go_roundg (jn-1-(i+1))
    case measure=>omega
    case rel =>
     rw[reverseLoop,if_pos hij]at aa
     exact⟨i+1,jn-1,(jn:Int)-1,swp dk i jn,n+1,by simp,rfl,fun h=>⟨by omega,by omega⟩,fun h=>by omega,Nat.le_refl _,by rw[size_swp];exact ah,
      swap_world encI (by omega) (by omega) A.out (by simp[encI,getElem!_pos,show jn<dk.size by omega]) rfl,aa⟩
  · have ae:=h2 hlt
    go_wp2
    go_end0
    refine⟨rfl,n,?_⟩
    rw[reverseLoop,if_neg ae]at aa
    rw[reverseRange,←aa]
end Go.Proofs.YtbeakahjbkdeiaaGreatDoor
namespace Go.Sort
variable {α:Type} [Inhabited α] (lt:α→α→Bool)
theorem sd_end {hi F root:Nat} (d:Array α) (h:hi≤2*root+1):siftDown lt hi F root d=d:=by rw[siftDown,dif_pos h]
theorem sd_right_stop {hi F root:Nat} (d:Array α) (h1:2*root+2<hi) (h2:lt d[F+(2*root+1)]! d[F+(2*root+2)]! = true) (h3:lt d[F+root]! d[F+(2*root+2)]! = false):siftDown lt hi F root d=d:=by
 rw[siftDown,dif_neg (by omega),show F+(2*root+1)+1=F+(2*root+2) by omega,h2,h3]
 simp[show 2*root+1+1<hi by omega]
theorem sd_right_go {hi F root:Nat} (d:Array α) (h1:2*root+2<hi) (h2:lt d[F+(2*root+1)]! d[F+(2*root+2)]! = true) (h3:lt d[F+root]! d[F+(2*root+2)]! = true) :
 siftDown lt hi F root d=siftDown lt hi F (2*root+2) (swp d (F+root) (F+(2*root+2))):=by
 rw[siftDown,dif_neg (by omega),show F+(2*root+1)+1=F+(2*root+2) by omega,h2,h3]
 simp[show 2*root+1+1<hi by omega]
theorem sd_left_stop {hi F root:Nat} (d:Array α) (h0:2*root+1<hi) (h1:2*root+2<hi→lt d[F+(2*root+1)]! d[F+(2*root+2)]! = false) (h3:lt d[F+root]! d[F+(2*root+1)]! = false):siftDown lt hi F root d=d:=by
 rw[siftDown,dif_neg (by omega),show F+(2*root+1)+1=F+(2*root+2) by omega,h3]
 by_cases h:2*root+2<hi
 · simp[h1 h]
 · simp[show ¬2*root+1+1<hi by omega]
theorem sd_left_go {hi F root:Nat} (d:Array α) (h0:2*root+1<hi) (h1:2*root+2<hi→lt d[F+(2*root+1)]! d[F+(2*root+2)]! = false) (h3:lt d[F+root]! d[F+(2*root+1)]! = true) :
 siftDown lt hi F root d=siftDown lt hi F (2*root+1) (swp d (F+root) (F+(2*root+1))):=by
 rw[siftDown,dif_neg (by omega),show F+(2*root+1)+1=F+(2*root+2) by omega,h3]
 by_cases h:2*root+2<hi
 · simp[h1 h]
 · simp[show ¬2*root+1+1<hi by omega]
end Go.Sort
namespace Go.Proofs.YtbeakahjbkdeiaaGreatDoor
set_option linter.unusedSimpArgs false
set_option linter.unusedVariables false
open Go.Sort Go.RowKit
theorem drewN_world {α:Type} [Inhabited α] (enc:α→Value) {w wr:World} {n blk off:Nat} {dk:Array α} (aa:wr=putRow enc (Sort.ahead w n) blk off dk) (m:Nat):wr.drewN m=putRow enc (Sort.ahead w (n+m)) blk off dk:=by
 subst aa
 rw[←ahead_ahead]
 rfl
set_option maxHeartbeats 3200000 in
set_option maxRecDepth 1000000 in
theorem So.siftDown_int (blk off len cap:Nat) (d:Array Int) (hlen:d.size=len) (lo hi first:Nat) (w:World) (hH:Holds encI w blk off d) (au:lo≤hi) (hb:first+hi≤d.size) (aw:d.size<4611686018427387904) :
 Calls Tryz.prog 228 #[.slice (some ⟨blk,off,none⟩) len cap,.int .i64 lo,.int .i64 hi,.int .i64 first] w fun e w'=>e=.returned (.tuple #[])∧∃n,w'=putRow encI (Sort.ahead w n) blk off (siftDown ltInt hi first lo d):=by
 subst hlen
 go_enter Tryz.func228,Tryz.ntmps228
 go_wp2
 go_loopg [8] (hi-lo) (fun k s8 wr=>∃(root:Nat) (dk:Array Int) (n:Nat),s8=.int .i64 root∧root≤hi∧hi-root≤k∧dk.size=d.size∧wr=putRow encI (Sort.ahead w n) blk off dk∧siftDown ltInt hi first root dk=siftDown ltInt hi first lo d)
 case atStart=>exact⟨lo,d,0,rfl,au,Nat.le_refl _,rfl,(putRow_self encI w blk off d hH).symm,rfl⟩
 case round =>
  obtain⟨root,dk,n,rfl,hr,hk,ao,ap,ai⟩:=hrel
  have aq:Holds encI wr blk off dk:=by rw[ap];exact holds_putRow encI _ blk off d dk (holds_ahead encI w n blk off d hH) ao
  have aj:∀t,t<d.size→wr.cell? ⟨blk,off+t,none⟩=some (.int .i32 dk[t]!):=fun t ht=>(aq t (by omega)).1
  have ak:∀t,t<d.size→wr.frozen? ⟨blk,off+t,none⟩=false:=fun t ht=>(aq t (by omega)).2
  have A:Aside (wr=putRow encI (Sort.ahead w n) blk off dk):=ap
  clear ap hH aq
  by_cases h0:hi≤2*root+1
  ·
   have ar:(hi:Int)≤2*(root:Int)+1:=by omega
   go_wp2
   go_end0
   refine⟨rfl,n,?_⟩
   rw[A.out,←ai,sd_end ltInt dk h0]
  ·
   have ar:¬((hi:Int)≤2*(root:Int)+1):=by omega
   by_cases h1:2*root+2<hi
   · have av:2*(root:Int)+1+1<(hi:Int):=by omega
     go_wp2_with fail
     go_big_quiet (first|(go_at_call 188;refine Calls.quiet_of_same (So.cmp_Less_int _ _ _)))
     go_wp2_with fail
     ·
      have hL:ltInt dk[first+2*root+1]! dk[first+2*root+2]! = true:=by assumption
      revert nq;intro aa
      have ae:∀t,t<d.size→(wr.drewN aa).cell? ⟨blk,off+t,none⟩=some (.int .i32 dk[t]!):=aj
      have af:∀t,t<d.size→(wr.drewN aa).frozen? ⟨blk,off+t,none⟩=false:=ak
      have A2:Aside (wr.drewN aa=putRow encI (Sort.ahead w (n+aa)) blk off dk):=drewN_world encI A.out aa
      clear aj ak A
      generalize wr.drewN aa=wr2 at ae af A2 ⊢
      go_big_quiet (first|(go_at_call 188;refine Calls.quiet_of_same (So.cmp_Less_int _ _ _)))
      go_wp2_with fail
      ·
       have hS:ltInt dk[first+root]! dk[first+2*root+2]! = false:=by
        have:(!ltInt dk[first+root]! dk[first+2*root+2]!)=true:=by assumption
        simpa using this
       (try simp only[Exit.inBlock,Exit.then]);refine bodyPost_ret (results_none rfl _ _ _) rfl ?_
       refine⟨rfl,n+aa+nq,?_⟩
       rw[drewN_world encI A2.out nq,←ai,sd_right_stop ltInt dk h1 hL hS]
      ·
       have hG:ltInt dk[first+root]! dk[first+2*root+2]! = true:=by
        have:(!ltInt dk[first+root]! dk[first+2*root+2]!)=false:=by assumption
        simpa using this
       have ag:∀t,t<d.size→(wr2.drewN nq).cell? ⟨blk,off+t,none⟩=some (.int .i32 dk[t]!):=ae
       have ah:∀t,t<d.size→(wr2.drewN nq).frozen? ⟨blk,off+t,none⟩=false:=af
       have A3:Aside (wr2.drewN nq=putRow encI (Sort.ahead w (n+aa+nq)) blk off dk):=drewN_world encI A2.out nq
       clear ae af A2
       generalize wr2.drewN nq=wr3 at ag ah A3 ⊢
       go_region
       go_wp2
       go_roundg (hi-(2*root+2))
       case measure=>omega
       case rel =>
        refine⟨2*root+2,swp dk (first+root) (first+(2*root+1+1)),n+aa+nq+1,by simp <;> omega,by omega,Nat.le_refl _,by rw[size_swp];exact ao,swap_world encI (by omega) (by omega) A3.out rfl rfl,?_⟩
        rw[←ai,sd_right_go ltInt dk h1 hL hG]
     ·
      have hL:ltInt dk[first+2*root+1]! dk[first+2*root+2]! = false:=by assumption
      revert nq;intro aa
      have ae:∀t,t<d.size→(wr.drewN aa).cell? ⟨blk,off+t,none⟩=some (.int .i32 dk[t]!):=aj
      have af:∀t,t<d.size→(wr.drewN aa).frozen? ⟨blk,off+t,none⟩=false:=ak
      have A2:Aside (wr.drewN aa=putRow encI (Sort.ahead w (n+aa)) blk off dk):=drewN_world encI A.out aa
      clear aj ak A
      generalize wr.drewN aa=wr2 at ae af A2 ⊢
      go_big_quiet (first|(go_at_call 188;refine Calls.quiet_of_same (So.cmp_Less_int _ _ _)))
      go_wp2_with fail
      ·
       have hS:ltInt dk[first+root]! dk[first+2*root+1]! = false:=by
        have:(!ltInt dk[first+root]! dk[first+2*root+1]!)=true:=by assumption
        simpa using this
       (try simp only[Exit.inBlock,Exit.then]);refine bodyPost_ret (results_none rfl _ _ _) rfl ?_
       refine⟨rfl,n+aa+nq,?_⟩
       rw[drewN_world encI A2.out nq,←ai,sd_left_stop ltInt dk (by omega) (fun _=>hL) hS]
      ·
       have hG:ltInt dk[first+root]! dk[first+2*root+1]! = true:=by
        have:(!ltInt dk[first+root]! dk[first+2*root+1]!)=false:=by assumption
        simpa using this
       have ag:∀t,t<d.size→(wr2.drewN nq).cell? ⟨blk,off+t,none⟩=some (.int .i32 dk[t]!):=ae
       have ah:∀t,t<d.size→(wr2.drewN nq).frozen? ⟨blk,off+t,none⟩=false:=af
       have A3:Aside (wr2.drewN nq=putRow encI (Sort.ahead w (n+aa+nq)) blk off dk):=drewN_world encI A2.out nq
       clear ae af A2
       generalize wr2.drewN nq=wr3 at ag ah A3 ⊢
       go_region
       go_wp2
       go_roundg (hi-(2*root+1))
       case measure=>omega
       case rel =>
        refine⟨2*root+1,swp dk (first+root) (first+(2*root+1)),n+aa+nq+1,by simp <;> omega,by omega,Nat.le_refl _,by rw[size_swp];exact ao,swap_world encI (by omega) (by omega) A3.out rfl rfl,?_⟩
        rw[←ai,sd_left_go ltInt dk (by omega) (fun _=>hL) hG]
   ·
    have av:decide (2*(root:Int)+1+1<(hi:Int))=false:=decide_eq_false (by omega)
    go_wp2_with fail
    go_big_quiet (first|(go_at_call 188;refine Calls.quiet_of_same (So.cmp_Less_int _ _ _)))
    go_wp2_with fail
    revert nq;intro aa
    have ae:∀t,t<d.size→(wr.drewN aa).cell? ⟨blk,off+t,none⟩=some (.int .i32 dk[t]!):=aj
    have af:∀t,t<d.size→(wr.drewN aa).frozen? ⟨blk,off+t,none⟩=false:=ak
    have A2:Aside (wr.drewN aa=putRow encI (Sort.ahead w (n+aa)) blk off dk):=drewN_world encI A.out aa
    clear aj ak A
    generalize wr.drewN aa=wr2 at ae af A2 ⊢
    go_big_quiet (first|(go_at_call 188;refine Calls.quiet_of_same (So.cmp_Less_int _ _ _)))
    go_wp2_with fail
    ·
     have hS:ltInt dk[first+root]! dk[first+2*root+1]! = false:=by
      have:(!ltInt dk[first+root]! dk[first+2*root+1]!)=true:=by assumption
      simpa using this
     (try simp only[Exit.inBlock,Exit.then]);refine bodyPost_ret (results_none rfl _ _ _) rfl ?_
     refine⟨rfl,n+aa+nq,?_⟩
     rw[drewN_world encI A2.out nq,←ai,sd_left_stop ltInt dk (by omega) (fun h=>absurd h h1) hS]
    ·
     have hG:ltInt dk[first+root]! dk[first+2*root+1]! = true:=by
      have:(!ltInt dk[first+root]! dk[first+2*root+1]!)=false:=by assumption
      simpa using this
     have ag:∀t,t<d.size→(wr2.drewN nq).cell? ⟨blk,off+t,none⟩=some (.int .i32 dk[t]!):=ae
     have ah:∀t,t<d.size→(wr2.drewN nq).frozen? ⟨blk,off+t,none⟩=false:=af
     have A3:Aside (wr2.drewN nq=putRow encI (Sort.ahead w (n+aa+nq)) blk off dk):=drewN_world encI A2.out nq
     clear ae af A2
     generalize wr2.drewN nq=wr3 at ag ah A3 ⊢
     go_region
     go_wp2
     go_roundg (hi-(2*root+1))
     case measure=>omega
     case rel =>
      refine⟨2*root+1,swp dk (first+root) (first+(2*root+1)),n+aa+nq+1,by simp <;> omega,by omega,Nat.le_refl _,by rw[size_swp];exact ao,swap_world encI (by omega) (by omega) A3.out rfl rfl,?_⟩
      rw[←ai,sd_left_go ltInt dk (by omega) (fun h=>absurd h h1) hG]
end Go.Proofs.YtbeakahjbkdeiaaGreatDoor
namespace Go.Sort
variable {α:Type} [Inhabited α] (lt:α→α→Bool)
theorem size_siftDown (hi F:Nat):∀(n root:Nat) (d:Array α),hi-root≤n→(siftDown lt hi F root d).size=d.size:=by
 intro n
 induction n with
 | zero=>intro root d h;rw[siftDown,dif_pos (by omega)]
 | succ n ih =>
   intro root d h
   rw[siftDown]
   split
   · rfl
   · split
     · split
       · rfl
       · split
         · rw[ih _ _ (by omega),size_swp]
         · rfl
     · split
       · rfl
       · rw[ih _ _ (by omega),size_swp]
end Go.Sort
namespace Go.Proofs.YtbeakahjbkdeiaaGreatDoor
set_option linter.unusedSimpArgs false
set_option linter.unusedVariables false
open Go.Sort Go.RowKit
theorem half_start {a b:Nat} (aa:a≤b):((b:Int)-(a:Int)-1).tdiv 2=(((b-a-1)/2+1:Nat):Int)-1:=by
 by_cases h:a=b
 · subst h
   have:((a:Int)-(a:Int)-1) = -1:=by omega
   rw[this]
   simp
 · rw[Int.tdiv_eq_ediv_of_nonneg (by omega)]
   omega
set_option maxHeartbeats 3200000 in
set_option maxRecDepth 1000000 in
theorem So.heapSort_int (blk off len cap:Nat) (d:Array Int) (hlen:d.size=len) (a b:Nat) (w:World) (hH:Holds encI w blk off d) (av:a≤b) (hb:b≤d.size) (ay:d.size<4611686018427387904) :
 Calls Tryz.prog 183 #[.slice (some ⟨blk,off,none⟩) len cap,.int .i64 a,.int .i64 b] w fun e w'=>e=.returned (.tuple #[])∧∃n,w'=putRow encI (Sort.ahead w n) blk off (heapSort ltInt d a b):=by
 subst hlen
 have ae:((b-a:Nat):Int)=(b:Int)-(a:Int):=by omega
 go_enter Tryz.func183,Tryz.ntmps183
 go_wp2
 go_loopg [9] ((b-a-1)/2+1) (fun k s9 wr=>s9=.int .i64 ((k:Int)-1)∧k≤(b-a-1)/2+1∧∃(dk:Array Int) (n:Nat),dk.size=d.size∧wr=putRow encI (Sort.ahead w n) blk off dk ∧
  heapBuild ltInt (b-a) a k dk=heapBuild ltInt (b-a) a ((b-a-1)/2+1) d)
 case atStart=>exact⟨by rw[half_start av],Nat.le_refl _,d,0,rfl,(putRow_self encI w blk off d hH).symm,rfl⟩
 case round =>
  obtain⟨rfl,aq,dk,n,aj,ak,ap⟩:=hrel
  have ar:Holds encI wr blk off dk:=by rw[ak];exact holds_putRow encI _ blk off d dk (holds_ahead encI w n blk off d hH) aj
  have A:Aside (wr=putRow encI (Sort.ahead w n) blk off dk):=ak
  clear ak
  cases gk with
  | zero =>
    have hB:dk=heapBuild ltInt (b-a) a ((b-a-1)/2+1) d:=ap
    clear ap ar aq
    go_wp2
    go_loopg [10] (b-a) (fun k au ax=>au=.int .i64 ((k:Int)-1)∧k≤b-a∧∃(dj:Array Int) (n2:Nat),dj.size=d.size∧ax=putRow encI (Sort.ahead w n2) blk off dj∧heapPop ltInt a k dj=heapPop ltInt a (b-a) dk)
    case atStart=>exact⟨by rw[ae],Nat.le_refl _,dk,n,aj,A.out,rfl⟩
    case round =>
     obtain⟨rfl,aq,dj,n2,ah,af,ag⟩:=hrel
     cases gk with
     | zero =>
       go_wp2
       go_end0
       refine⟨rfl,n2,?_⟩
       have e:dj=heapSort ltInt d a b:=by rw[heapSort,←hB,←ag];rfl
       rw[←e]
     | succ k =>
       have ao:Holds encI wr blk off dj:=by rw[af];exact holds_putRow encI _ blk off d dj (holds_ahead encI w n2 blk off d hH) ah
       have az:∀t,t<d.size→wr.cell? ⟨blk,off+t,none⟩=some (.int .i32 dj[t]!):=fun t ht=>(ao t (by omega)).1
       have a1:∀t,t<d.size→wr.frozen? ⟨blk,off+t,none⟩=false:=fun t ht=>(ao t (by omega)).2
       have A2:Aside (wr=putRow encI (Sort.ahead w n2) blk off dj):=af
       clear af ao
       rcases Nat.eq_zero_or_pos k with aw|hkp
       · subst aw
         go_wp2_with fail
         go_region
         go_wp2_with fail
         rw[swap_world encI (i:=a) (j:=a) (by omega) (by omega) A2.out rfl rfl]
         refine (So.siftDown_int blk off d.size cap (swp dj a (a)) (by rw[size_swp];exact ah) 0 0 a _ (holds_putRow encI _ blk off d _ (holds_ahead encI w (n2+1) blk off d hH) (by rw[size_swp];exact ah)) (Nat.zero_le _) (by rw[size_swp];omega) (by rw[size_swp];omega)).mono ?_
         rintro e w1 ⟨rfl,m,ai⟩
         go_wp2
         go_roundg 0
         case measure=>omega
         case rel =>
          refine⟨by simp,by omega,siftDown ltInt 0 a 0 (swp dj a (a)),n2+1+m,by rw[size_siftDown ltInt _ _ _ _ _ (Nat.le_refl _),size_swp];exact ah,?_,ag⟩
          first
           | rw[ai,putRow_ahead_putRow encI w (n2+1) m blk off _ _ (size_siftDown ltInt _ _ _ _ _ (Nat.le_refl _))]
           | rw[putRow_ahead_putRow encI w (n2+1) m blk off _ _ (size_siftDown ltInt _ _ _ _ _ (Nat.le_refl _))]
       · skip
         go_wp2_with fail
         go_region
         go_wp2_with fail
         rw[swap_world encI (i:=a) (j:=a+k) (by omega) (by omega) A2.out rfl rfl]
         refine (So.siftDown_int blk off d.size cap (swp dj a (a+k)) (by rw[size_swp];exact ah) 0 k a _ (holds_putRow encI _ blk off d _ (holds_ahead encI w (n2+1) blk off d hH) (by rw[size_swp];exact ah)) (Nat.zero_le _) (by rw[size_swp];omega) (by rw[size_swp];omega)).mono ?_
         rintro e w1 ⟨rfl,m,ai⟩
         go_wp2
         go_roundg k
         case measure=>omega
         case rel =>
          refine⟨by simp,by omega,siftDown ltInt k a 0 (swp dj a (a+k)),n2+1+m,by rw[size_siftDown ltInt _ _ _ _ _ (Nat.le_refl _),size_swp];exact ah,?_,ag⟩
          first
           | rw[ai,putRow_ahead_putRow encI w (n2+1) m blk off _ _ (size_siftDown ltInt _ _ _ _ _ (Nat.le_refl _))]
           | rw[putRow_ahead_putRow encI w (n2+1) m blk off _ _ (size_siftDown ltInt _ _ _ _ _ (Nat.le_refl _))]
  | succ k =>
    have aa:=So.siftDown_int blk off d.size cap dk aj k (b-a) a wr ar (by omega) (by omega) (by omega)
    rw[ae]at aa
    go_wp2_with (go_at_call 228;refine aa.mono ?_;rintro e w1 ⟨rfl,m,ai⟩)
    go_roundg k
    case measure=>omega
    case rel =>
     refine⟨by simp,by omega,siftDown ltInt (b-a) a k dk,n+m,by rw[size_siftDown ltInt _ _ _ _ _ (Nat.le_refl _)];exact aj,?_,ap⟩
     rw[A.out,putRow_ahead_putRow encI w n m blk off dk _ (size_siftDown ltInt _ _ _ _ _ (Nat.le_refl _))]
structure Callees13:Prop where
 ins:∀(blk off cap a b:Nat) (d:Array Int) (w:World),Holds encI w blk off d→a≤b→b≤d.size→d.size<4611686018427387904 →
  Calls Tryz.prog 182 #[.slice (some ⟨blk,off,none⟩) d.size cap,.int .i64 a,.int .i64 b] w fun e w'=>e=.returned (.tuple #[])∧∃n,w'=putRow encI (Sort.ahead w n) blk off (insertionSort ltInt d a b)
 brk:∀(blk off cap a b:Nat) (d:Array Int) (w:World),Holds encI w blk off d→blk<w.heap.size→a≤b→b≤d.size→d.size<4611686018427387904 →
  Calls Tryz.prog 184 #[.slice (some ⟨blk,off,none⟩) d.size cap,.int .i64 a,.int .i64 b] w fun e w'=>e=.returned (.tuple #[])∧∃n os,w'=grow (putRow encI (Sort.ahead w n) blk off (breakPatterns d a b)) os
 piv:∀(blk off cap a b:Nat) (d:Array Int) (w:World),Holds encI w blk off d→blk<w.heap.size→a<b→b≤d.size→d.size<4611686018427387904 →
  Calls Tryz.prog 185 #[.slice (some ⟨blk,off,none⟩) d.size cap,.int .i64 a,.int .i64 b] w fun e w'=>e=.returned (.tuple #[.int .i64 (choosePivot ltInt d a b).1,.int .i64 (hintCode (choosePivot ltInt d a b).2)])∧∃n os,w'=grow (Sort.ahead w n) os
 par:∀(blk off cap a b:Nat) (d:Array Int) (w:World),Holds encI w blk off d→a<b→b≤d.size→d.size<4611686018427387904 →
  Calls Tryz.prog 187 #[.slice (some ⟨blk,off,none⟩) d.size cap,.int .i64 a,.int .i64 b] w fun e w'=>e=.returned (.bool (partialInsertionSort ltInt d a b).2)∧∃n,w'=putRow encI (Sort.ahead w n) blk off (partialInsertionSort ltInt d a b).1
 peq:∀(blk off cap a b pivot:Nat) (d:Array Int) (w:World),Holds encI w blk off d→a≤pivot→pivot<b→b≤d.size→d.size<4611686018427387904 →
  Calls Tryz.prog 189 #[.slice (some ⟨blk,off,none⟩) d.size cap,.int .i64 a,.int .i64 b,.int .i64 pivot] w fun e w'=>e=.returned (.int .i64 (partitionEqual ltInt d a b pivot).1)∧∃n,w'=putRow encI (Sort.ahead w n) blk off (partitionEqual ltInt d a b pivot).2
 prt:∀(blk off cap a b pivot:Nat) (d:Array Int) (w:World),Holds encI w blk off d→a≤pivot→pivot<b→b≤d.size→d.size<4611686018427387904 →
  Calls Tryz.prog 190 #[.slice (some ⟨blk,off,none⟩) d.size cap,.int .i64 a,.int .i64 b,.int .i64 pivot] w fun e w'=>e=.returned (.tuple #[.int .i64 (partition ltInt d a b pivot).1,.bool (partition ltInt d a b pivot).2.1])∧∃n,w'=putRow encI (Sort.ahead w n) blk off (partition ltInt d a b pivot).2.2
structure Plain13:Prop where
 swo:SWO ltInt
 ins:insertionSort_stmt ltInt
 par:partialInsertionSort_stmt ltInt
 prt:partition_stmt ltInt
 peq:partitionEqual_stmt ltInt
 pdq:pdq_stmt ltInt
theorem hintCode_two {h:Hint} (e:hintCode h=2):h=.decreasing:=by cases h <;> simp[hintCode]at e ⊢
theorem eighth {x y p q:Nat} (h1:q≤p) (h2:y≤x):decide (((x:Int)-(y:Int))/8≤(p:Int)-(q:Int))=decide (p-q≥(x-y)/8) :=
 decide_eq_decide.2 ⟨fun h=>by omega,fun h=>by omega⟩
set_option maxHeartbeats 6400000 in
set_option maxRecDepth 1000000 in
theorem So.pdqsort_int (C:Callees13) (S:Plain13):∀(N blk off cap a b limit:Nat) (d:Array Int) (w:World),b-a<N→Holds encI w blk off d→blk<w.heap.size→a≤b→b≤d.size→d.size<4611686018427387904→limit<4611686018427387904→Below ltInt a b d →
 Calls Tryz.prog 149 #[.slice (some ⟨blk,off,none⟩) d.size cap,.int .i64 a,.int .i64 b,.int .i64 limit] w fun e w'=>e=.returned (.tuple #[])∧At encI w blk off (pdq ltInt d a b limit true true) w':=by
 intro N
 induction N with
 | zero=>intro _ _ _ _ _ _ _ _ h;exact absurd h (Nat.not_lt_zero _)
 | succ N ih =>
   intro blk off cap a b limit d w hN hH aa b5 hb cp ah bg
   go_enter Tryz.func149,Tryz.ntmps149
   go_wp2
   go_loopg [1,2,3,8,9] (b-a) (fun k s1 s2 s3 s8 s9 wr=>∃(a' b' lim:Nat) (wb wp:Bool) (dk:Array Int),s1=.int .i64 a'∧s2=.int .i64 b'∧s3=.int .i64 lim∧s8=.bool wb∧s9=.bool wp ∧
    a'≤b'∧b'≤d.size∧b'-a'≤k∧k≤b-a∧lim≤limit∧dk.size=d.size∧Below ltInt a' b' dk∧At encI w blk off dk wr∧pdq ltInt dk a' b' lim wb wp=pdq ltInt d a b limit true true)
   case atStart=>exact⟨a,b,limit,true,true,d,rfl,rfl,rfl,rfl,rfl,b5,hb,Nat.le_refl _,Nat.le_refl _,Nat.le_refl _,rfl,bg,At.refl hH,rfl⟩
   case round =>
    obtain⟨a',b',lim,wb,wp,dk,rfl,rfl,rfl,rfl,rfl,af,cd,hk,cq,ag,ae,bs,a6,b4⟩:=hrel
    obtain⟨bp,bc⟩:=a6.holds hH ae aa
    have A:Aside (pdq ltInt dk a' b' lim wb wp=pdq ltInt d a b limit true true):=b4
    clear b4
    by_cases h12:b'-a'≤12
    ·
     have bn:(b':Int)-(a':Int)≤12:=by omega
     have hc:=C.ins blk off cap a' b' dk wr bp af (by omega) (by omega)
     rw[ae]at hc
     go_wp2_with (go_at_call 182;refine hc.mono ?_;rintro e w1 ⟨rfl,a7⟩)
     (try simp only[Exit.inBlock,Exit.then]);refine bodyPost_ret (results_none rfl _ _ _) rfl ?_
     refine⟨rfl,?_⟩
     rw[←A.out,pdq_small h12]
     exact a6.step aa (S.ins S.swo dk a' b' af (by omega)).1.1 a7
    · have bn:¬((b':Int)-(a':Int)≤12):=by omega
      by_cases hl0:lim=0
      ·
       subst hl0
       have hc:=So.heapSort_int blk off d.size cap dk ae a' b' wr bp af (by omega) (by omega)
       go_wp2_with (go_at_call 183;refine hc.mono ?_;rintro e w1 ⟨rfl,a7⟩)
       (try simp only[Exit.inBlock,Exit.then]);refine bodyPost_ret (results_none rfl _ _ _) rfl ?_
       refine⟨rfl,?_⟩
       rw[←A.out,pdq_heap h12 rfl]
       exact a6.step aa (heapSort_holds S.swo dk a' b' af (by omega)).1.1 a7
      · have cj:¬((lim:Int)=0):=by omega
        obtain⟨s1,B1,cn,s2,B2,ak,s3,B3⟩:=rd_facts (limit:=lim) (wb:=wb) (wp:=wp) S.swo S.par reverseRange_holds (show a'<b' by omega) (show b'≤dk.size by omega) bs
        go_upto_if 35 with fail
        go_cut [3] from 19 (fun s3 wc=>s3=.int .i64 (rd ltInt dk a' b' lim wb wp).lim∧At encI w blk off (rd ltInt dk a' b' lim wb wp).d1 wc)
        case first =>
         cases wb
         · have hc:=C.brk blk off cap a' b' dk wr bp bc af (by omega) (by omega)
           rw[ae]at hc
           go_wp2_with (go_at_call 184;refine hc.mono ?_;rintro e w1 ⟨rfl,a7⟩)
           go_meet
           case rel =>
            refine⟨?_,a6.stepG aa s1 a7⟩
            show Value.int .i64 ((lim:Int)-1)=Value.int .i64 ((lim-1:Nat):Int)
            congr 1
            omega
         · go_wp2_with fail
           go_meet
           case rel=>exact⟨rfl,a6⟩
        case rest =>
         obtain⟨rfl,a8⟩:=hcut
         obtain⟨b8,a1⟩:=a8.holds hH (s1.trans ae) aa
         have br:Calls Tryz.prog 185 #[.slice (some ⟨blk,off,none⟩) d.size cap,.int .i64 a',.int .i64 b'] wc fun e w'=>e=.returned (.tuple #[.int .i64 (rd ltInt dk a' b' lim wb wp).c.1,.int .i64 (hintCode (rd ltInt dk a' b' lim wb wp).c.2)])∧∃n os,w'=grow (Sort.ahead wc n) os:=by
          have:=C.piv blk off cap a' b' (rd ltInt dk a' b' lim wb wp).d1 wc b8 a1 (by omega) (by omega) (by omega)
          rw[s1,ae]at this
          exact this
         go_upto_if 50 with (go_at_call 185;refine br.mono ?_;rintro e w2 ⟨rfl,b9⟩)
         have av:At encI w blk off (rd ltInt dk a' b' lim wb wp).d1 w2:=a8.same hH (s1.trans ae) aa b9
         obtain⟨cf,b2⟩:=av.holds hH (s1.trans ae) aa
         go_cut [11,12] from 19 (fun ck bm wc=>ck=.int .i64 (rd ltInt dk a' b' lim wb wp).pivot∧bm=.int .i64 (hintCode (rd ltInt dk a' b' lim wb wp).hint)∧At encI w blk off (rd ltInt dk a' b' lim wb wp).d2 wc)
         case first =>
          by_cases hh:(rd ltInt dk a' b' lim wb wp).c.2=.decreasing
          · have bf:hintCode (rd ltInt dk a' b' lim wb wp).c.2=2:=by rw[hh];rfl
            obtain⟨e2,bk,bj⟩:=rd_dec hh
            have bi:=So.reverseRange_int blk off cap (rd ltInt dk a' b' lim wb wp).d1 a' b' w2 cf af (by omega) (by omega)
            rw[s1,ae]at bi
            go_wp2_with (go_at_call 186;refine bi.mono ?_;rintro e w3 ⟨rfl,cm⟩)
            go_meet
            case rel =>
             refine⟨?_,by rw[bj];rfl,by rw[e2];exact av.step aa (by rw[←e2,s2,s1]) cm⟩
             rw[bk]
             congr 1
             omega
          · have bf:¬(hintCode (rd ltInt dk a' b' lim wb wp).c.2=2):=fun h=>hh (hintCode_two h)
            obtain⟨e2,bk,bj⟩:=rd_not hh
            go_wp2_with fail
            go_meet
            case rel=>exact⟨by rw[bk],by rw[bj],by rw[e2];exact av⟩
         case rest =>
          obtain⟨rfl,rfl,ai⟩:=hcut
          obtain⟨ch,bt⟩:=ai.holds hH (s2.trans ae) aa
          go_upto_region 15 with fail
          go_cut [12,68] from 19 (fun bm cg wx=>bm=.int .i64 (hintCode (rd ltInt dk a' b' lim wb wp).hint)∧cg=.bool (wb&&wp&&decide ((rd ltInt dk a' b' lim wb wp).hint=.increasing))∧wx=wc)
          case first =>
           cases wb <;> cases wp <;> cases hh3:(rd ltInt dk a' b' lim _ _).hint <;>
            (have ar:=congrArg hintCode hh3
             simp only[hintCode]at ar
             go_wp2_with fail
             go_meet
             exact⟨by simp[hh3,hintCode],by simp[hh3,hintCode],rfl⟩)
          case rest =>
           obtain⟨rfl,rfl,rfl⟩:=hcut
           go_upto_if 68 with fail
           go_cut [] from 19 (fun wx=>(rd ltInt dk a' b' lim wb wp).pi.2=false∧At encI w blk off (rd ltInt dk a' b' lim wb wp).pi.1 wx)
           case first =>
            cases h68:(wb&&wp&&decide ((rd ltInt dk a' b' lim wb wp).hint=.increasing))
            · have ay:=rd_pi_no h68
              go_wp2_with fail
              go_meet
              case rel=>exact⟨by rw[ay],by rw[ay];exact ai⟩
            · have ay:=rd_pi_yes h68
              have az:=C.par blk off cap a' b' (rd ltInt dk a' b' lim wb wp).d2 wc ch (by omega) (by omega) (by omega)
              rw[s2,ae,←ay]at az
              go_wp2_with (go_at_call 187;refine az.mono ?_;rintro e w4 ⟨rfl,b1⟩)
              all_goals first
               | (have au:(rd ltInt dk a' b' lim wb wp).pi.2=false:=by rw[ay];assumption
                  go_meet
                  exact⟨au,ai.step aa (by rw[s3,s2]) b1⟩)
               | (have au:(rd ltInt dk a' b' lim wb wp).pi.2=true:=by rw[ay];assumption
                  (try simp only[Exit.inBlock,Exit.then]);refine bodyPost_ret (results_none rfl _ _ _) rfl ?_
                  refine⟨rfl,?_⟩
                  rw[←A.out,pdq_done h12 hl0 au]
                  exact ai.step aa (by rw[s3,s2]) b1)
           case rest =>
            obtain⟨au,ax⟩:=hcut
            obtain⟨bw,bu⟩:=ax.holds hH (s3.trans ae) aa
            have b7:∀t,t<d.size→wc.cell? ⟨blk,off+t,none⟩=some (.int .i32 (rd ltInt dk a' b' lim wb wp).pi.1[t]!):=fun t ht=>(bw t (by omega)).1
            have cb:∀t,t<d.size→wc.frozen? ⟨blk,off+t,none⟩=false:=fun t ht=>(bw t (by omega)).2
            go_upto_region 17 with fail
            go_cut [87] from 19 (fun b6 wx=>b6=.bool (decide (a' > 0)&&!ltInt (rd ltInt dk a' b' lim wb wp).pi.1[a'-1]! (rd ltInt dk a' b' lim wb wp).pi.1[(rd ltInt dk a' b' lim wb wp).pivot]!)∧At encI w blk off (rd ltInt dk a' b' lim wb wp).pi.1 wx)
            case first =>
             rcases Nat.eq_zero_or_pos a' with ha0|ha0
             · have bo:decide ((a':Int) > 0)=false:=decide_eq_false (by omega)
               go_big_quiet (first|(go_at_call 188;refine Calls.quiet_of_same (So.cmp_Less_int _ _ _)))
               go_wp2_with fail
               go_meet
               case rel=>exact⟨by simp[ha0],ax.ahead nq⟩
             · have bo:(a':Int) > 0:=by omega
               go_big_quiet (first|(go_at_call 188;refine Calls.quiet_of_same (So.cmp_Less_int _ _ _)))
               go_wp2_with fail
               go_meet
               case rel=>exact⟨by simp[ha0],ax.ahead nq⟩
            case rest =>
             obtain⟨rfl,aq⟩:=hcut
             obtain⟨bz,b3⟩:=aq.holds hH (s3.trans ae) aa
             clear b7 cb
             cases h87:(decide (a' > 0)&&!ltInt (rd ltInt dk a' b' lim wb wp).pi.1[a'-1]! (rd ltInt dk a' b' lim wb wp).pi.1[(rd ltInt dk a' b' lim wb wp).pivot]!)
             ·
              obtain⟨mid,ap,d4,hx⟩:∃mid ap d4,partition ltInt (rd ltInt dk a' b' lim wb wp).pi.1 a' b' (rd ltInt dk a' b' lim wb wp).pivot=(mid,ap,d4):=⟨(partition ltInt (rd ltInt dk a' b' lim wb wp).pi.1 a' b' (rd ltInt dk a' b' lim wb wp).pivot).1,(partition ltInt (rd ltInt dk a' b' lim wb wp).pi.1 a' b' (rd ltInt dk a' b' lim wb wp).pivot).2.1,(partition ltInt (rd ltInt dk a' b' lim wb wp).pi.1 a' b' (rd ltInt dk a' b' lim wb wp).pivot).2.2,rfl⟩
              obtain⟨r1,r2,r3,r4,r5,r6,r7⟩:=round_part S.swo S.prt ak.1 ak.2 (show b'≤(rd ltInt dk a' b' lim wb wp).pi.1.size by omega) B3 hx
              have ba:=C.prt blk off cap a' b' (rd ltInt dk a' b' lim wb wp).pivot (rd ltInt dk a' b' lim wb wp).pi.1 wc bz ak.1 ak.2 (by omega) (by omega)
              rw[s3,ae,hx]at ba
              have X:Aside (partition ltInt (rd ltInt dk a' b' lim wb wp).pi.1 a' b' (rd ltInt dk a' b' lim wb wp).pivot=(mid,ap,d4)):=hx
              clear hx
              go_upto_if 113 with (go_at_call 190;refine ba.mono ?_;rintro e w7 ⟨rfl,bq⟩)
              have hx:=X.out
              have aw:At encI w blk off d4 w7:=aq.step aa r3 bq
              obtain⟨bx,aj⟩:=aw.holds hH (r3.trans (s3.trans ae)) aa
              by_cases h4:mid-a'<b'-mid
              · have cc:(mid:Int)-(a':Int)<(b':Int)-(mid:Int):=by omega
                have bh:=ih blk off cap a' mid (rd ltInt dk a' b' lim wb wp).lim d4 w7 (by omega) bx aj (by omega) (by omega) (by omega) (Nat.lt_of_le_of_lt (Nat.le_trans rd_lim_le ag) ah) r4
                rw[r3,s3,ae]at bh
                obtain⟨pL,sL⟩:=S.pdq S.swo d4 a' mid (rd ltInt dk a' b' lim wb wp).lim true true (by omega) (by omega) r4
                go_wp2_with (go_at_call 149;refine bh.mono ?_;rintro e w8 ⟨rfl,bl⟩)
                go_roundg (b'-(mid+1))
                case measure=>omega
                case rel =>
                 refine⟨mid+1,b',(rd ltInt dk a' b' lim wb wp).lim,decide (mid-a'≥(b'-a')/8),ap,pdq ltInt d4 a' mid (rd ltInt dk a' b' lim wb wp).lim true true,by simp,rfl,rfl,?_,rfl,by omega,by omega,Nat.le_refl _,by omega,Nat.le_trans rd_lim_le ag,by rw[pL.1,r3,s3,ae],(r6 _ pL sL).1,aw.stepG aa pL.1 bl,?_⟩
                 · exact congrArg Value.bool (eighth (by omega) (by omega))
                 · rw[←A.out,pdq_left h12 hl0 au h87 (by rw[hx];exact⟨r1,r2⟩) (by rw[hx];exact h4),hx]
              · have cc:¬((mid:Int)-(a':Int)<(b':Int)-(mid:Int)):=by omega
                have bh:=ih blk off cap (mid+1) b' (rd ltInt dk a' b' lim wb wp).lim d4 w7 (by omega) bx aj (by omega) (by omega) (by omega) (Nat.lt_of_le_of_lt (Nat.le_trans rd_lim_le ag) ah) r5
                rw[r3,s3,ae]at bh
                obtain⟨pL,sL⟩:=S.pdq S.swo d4 (mid+1) b' (rd ltInt dk a' b' lim wb wp).lim true true (by omega) (by omega) r5
                go_wp2_with (go_at_call 149;refine bh.mono ?_;rintro e w8 ⟨rfl,bl⟩)
                go_roundg (mid-a')
                case measure=>omega
                case rel =>
                 refine⟨a',mid,(rd ltInt dk a' b' lim wb wp).lim,decide (b'-mid≥(b'-a')/8),ap,pdq ltInt d4 (mid+1) b' (rd ltInt dk a' b' lim wb wp).lim true true,rfl,rfl,rfl,?_,rfl,by omega,by omega,Nat.le_refl _,by omega,Nat.le_trans rd_lim_le ag,by rw[pL.1,r3,s3,ae],(r7 _ pL sL).1,aw.stepG aa pL.1 bl,?_⟩
                 · exact congrArg Value.bool (eighth (by omega) (by omega))
                 · rw[←A.out,pdq_right h12 hl0 au h87 (by rw[hx];exact⟨r1,r2⟩) (by rw[hx];exact h4),hx]
             ·
              have ao:=h87
              simp only[Bool.and_eq_true,decide_eq_true_eq,Bool.not_eq_true']at ao
              obtain⟨mid,d4,hx⟩:∃mid d4,partitionEqual ltInt (rd ltInt dk a' b' lim wb wp).pi.1 a' b' (rd ltInt dk a' b' lim wb wp).pivot=(mid,d4):=⟨(partitionEqual ltInt (rd ltInt dk a' b' lim wb wp).pi.1 a' b' (rd ltInt dk a' b' lim wb wp).pivot).1,(partitionEqual ltInt (rd ltInt dk a' b' lim wb wp).pi.1 a' b' (rd ltInt dk a' b' lim wb wp).pivot).2,rfl⟩
              obtain⟨r1,r2,r3,r4,_⟩:=round_eq S.swo S.peq ao.1 ak.1 ak.2 (show b'≤(rd ltInt dk a' b' lim wb wp).pi.1.size by omega) B3 ao.2 hx
              have bb:=C.peq blk off cap a' b' (rd ltInt dk a' b' lim wb wp).pivot (rd ltInt dk a' b' lim wb wp).pi.1 wc bz ak.1 ak.2 (by omega) (by omega)
              rw[s3,ae,hx]at bb
              have X:Aside (partitionEqual ltInt (rd ltInt dk a' b' lim wb wp).pi.1 a' b' (rd ltInt dk a' b' lim wb wp).pivot=(mid,d4)):=hx
              clear hx
              go_wp2_with (go_at_call 189;refine bb.mono ?_;rintro e w7 ⟨rfl,bq⟩)
              go_roundg (b'-mid)
              case measure=>omega
              case rel =>
               have hx:=X.out
               exact⟨mid,b',(rd ltInt dk a' b' lim wb wp).lim,wb,wp,d4,rfl,rfl,rfl,rfl,rfl,r2,cd,Nat.le_refl _,by omega,Nat.le_trans rd_lim_le ag,by rw[r3,s3,ae],r4,aq.step aa r3 bq,by rw[←A.out,pdq_eq h12 hl0 au h87 (by rw[hx];exact⟨r1,r2⟩),hx]⟩
end Go.Proofs.YtbeakahjbkdeiaaGreatDoor
namespace Go.Proofs.YtbeakahjbkdeiaaGreatDoor
set_option linter.unusedSimpArgs false
set_option linter.unusedVariables false
open Go.RowKit Go.Sort
def intOf:Value→Int | .int _ q=>q|_=>0
section
variable {α:Type} [Inhabited α] (lt:α→α→Bool)
theorem insInner_go (a j:Nat) (d:Array α) (hj:a<j) (hl:lt d[j]! d[j-1]! = true):insInner lt a j d=insInner lt a (j-1) (swp d j (j-1)):=by
 obtain⟨k,rfl⟩:∃k,j=k+1:=⟨j-1,by omega⟩
 rw[insInner]
 simp only[Nat.add_sub_cancel]at hl ⊢
 simp[hj,hl]
theorem insInner_stop (a j:Nat) (d:Array α) (h:j≤a∨lt d[j]! d[j-1]! = false):insInner lt a j d=d:=by
 cases j with
 | zero=>rw[insInner]
 | succ k =>
   rw[insInner]
   simp only[Nat.add_sub_cancel]at h
   rcases h with h|h
   · simp[show ¬k+1 > a by omega]
   · simp[h]
theorem insOuter_go (a b i:Nat) (d:Array α) (h:i<b):insOuter lt a b i d=insOuter lt a b (i+1) (insInner lt a i d):=by rw[insOuter,if_pos h]
theorem insOuter_stop (a b i:Nat) (d:Array α) (h:¬i<b):insOuter lt a b i d=d:=by rw[insOuter,if_neg h]
end
section
variable {α:Type} [Inhabited α] (enc:α→Value)
theorem putRow_drewN (w:World) (m q blk off:Nat) (d:Array α):(putRow enc (Sort.ahead w m) blk off d).drewN q=putRow enc (Sort.ahead w (m+q)) blk off d:=by
 show Sort.ahead (putRow enc (Sort.ahead w m) blk off d) q=_
 rw[putRow_ahead enc w m,ahead_ahead,←putRow_ahead]
theorem swap_worldA (w:World) (m q blk off:Nat) (d:Array α) (j k:Nat) (hj:j<d.size) (hk:k<d.size) :
 (((putRow enc (Sort.ahead w m) blk off d).drewN q).setCell ⟨blk,off+j,none⟩ (enc d[k]!)).setCell ⟨blk,off+k,none⟩ (enc d[j]!)=putRow enc (Sort.ahead w (m+q)) blk off (swp d j k):=by
 rw[putRow_drewN]
 exact putRow_swp enc _ blk off d j k hj hk
end
theorem So.insertionSort_int (blk off cap a b:Nat) (d:Array Int) (w:World) (hH:Holds (Value.int .i32) w blk off d) (ak:a≤b) (hb:b≤d.size) (ao:d.size<4611686018427387904) :
 Calls Tryz.prog 182 #[.slice (some ⟨blk,off,none⟩) d.size cap,.int .i64 a,.int .i64 b] w fun e w' =>
  e=.returned (.tuple #[])∧∃n,w'=putRow (Value.int .i32) (Sort.ahead w n) blk off (Sort.insertionSort ltInt d a b):=by
 go_enter Tryz.func182,Tryz.ntmps182
 go_wp2
 go_loopw [6] (fun vi wr=>∃(i n:Nat) (dk:Array Int),vi=.int .i64 i∧a<i∧i≤b+1∧dk.size=d.size∧wr=putRow (Value.int .i32) (Sort.ahead w n) blk off dk ∧
  insOuter ltInt a b i dk=insOuter ltInt a b (a+1) d) (fun vi _=>b+1-(intOf vi).toNat)
 case atStart=>exact⟨a+1,0,d,by go_num,by omega,by omega,rfl,(putRow_self _ _ _ _ _ hH).symm,rfl⟩
 case round =>
  obtain⟨i,n,dk,rfl,aw,aq,ah,aj,hO⟩:=hrel
  have HO:Hid (insOuter ltInt a b i dk=insOuter ltInt a b (a+1) d):=hO
  clear hO
  go_wp2
  ·
   go_loopw [7] (fun vj ai=>∃(j m:Nat) (dj:Array Int),vj=.int .i64 j∧a≤j∧j≤i∧dj.size=d.size∧ai=putRow (Value.int .i32) (Sort.ahead w m) blk off dj ∧
    insInner ltInt a j dj=insInner ltInt a i dk) (fun vj _=>(intOf vj).toNat)
   case atStart=>exact⟨i,n,dk,rfl,by omega,Nat.le_refl _,ah,rfl,rfl⟩
   case round =>
    obtain⟨j,m,dj,rfl,au,ar,ae,aa,hI⟩:=hrel
    have ag:i<b:=by assumption
    obtain⟨G,hG⟩:∃G:Nat→Int,∀t,G t=dj[t]! := ⟨fun t=>dj[t]!,fun _=>rfl⟩
    have ap:∀t,t<d.size→wr.cell? ⟨blk,off+t,none⟩=some (.int .i32 (G t)):=fun t ht=>by
     rw[aa,hG];exact cell?_putRow _ _ _ _ d dj (holds_ahead _ _ _ _ _ _ hH) ae t (by omega)
    have av:∀t,t<d.size→wr.frozen? ⟨blk,off+t,none⟩=false:=fun t ht=>by
     rw[aa,frozen?_putRow];exact ((holds_ahead _ _ m _ _ _ hH) t ht).2
    have HW:Hid (wr=putRow (Value.int .i32) (Sort.ahead w m) blk off dj):=aa
    have HG:Hid (∀t,G t=dj[t]!):=hG
    have HI:Hid (insInner ltInt a j dj=insInner ltInt a i dk):=hI
    clear aa hG hI hH
    have out:(j≤a∨ltInt dj[j]! dj[j-1]! = false)→∀q,∃i' n' af,Value.int .i64 ((i:Int)+1)=.int .i64 (i':Nat)∧a<i'∧i'≤b+1∧af.size=d.size ∧
     wr.drewN q=putRow (Value.int .i32) (Sort.ahead w n') blk off af∧insOuter ltInt a b i' af=insOuter ltInt a b (a+1) d:=fun hs q =>
     ⟨i+1,m+q,dj,by go_num,by omega,by omega,ae,by rw[HW.out];exact putRow_drewN _ _ _ _ _ _ _,
      by rw[←HO.out,insOuter_go _ _ _ _ _ ag,←HI.out,insInner_stop _ _ _ _ hs]⟩
    have OUT:Hid _:=out
    clear out
    go_wp2
    by_cases hja:a<j
    · go_quiet (first|(go_at_call 188;refine Calls.quiet_of_same (So.cmp_Less_int _ _ _)))
      go_wp2
      ·
       have hl:ltInt (G j) (G (j-1))=true:=by assumption
       go_region
       all_goals go_wp2
       go_roundw
       case rel =>
        refine⟨j-1,m+(nq+1),swp dj j (j-1),by congr 1;omega,by omega,by omega,by rw[size_swp];exact ae,?_,?_⟩
        · rw[HW.out,HG.out,HG.out]
          exact swap_worldA _ w m (nq+1) blk off dj j (j-1) (by omega) (by omega)
        · rw[←HI.out,insInner_go ltInt a j dj hja (by rw[←HG.out,←HG.out];exact hl)]
       case measure=>simp[intOf];omega
      ·
       have hl:ltInt (G j) (G (j-1))=false:=by assumption
       go_roundw
       case rel=>exact OUT.out (Or.inr (by rw[←HG.out,←HG.out];exact hl)) nq
       case measure=>simp[intOf];omega
    · go_quiet (first|(go_at_call 188;refine Calls.quiet_of_same (So.cmp_Less_int _ _ _)))
      go_wp2
      go_roundw
      case rel=>exact OUT.out (Or.inl (by omega)) nq
      case measure=>simp[intOf];omega
  ·
   have hge:¬i<b:=by assumption
   go_end0
   exact⟨rfl,n,by unfold Sort.insertionSort;rw[←HO.out,insOuter_stop _ _ _ _ _ hge]⟩
end Go.Proofs.YtbeakahjbkdeiaaGreatDoor
