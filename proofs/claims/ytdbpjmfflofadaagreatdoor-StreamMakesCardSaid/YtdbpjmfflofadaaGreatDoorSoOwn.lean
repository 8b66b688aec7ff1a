/- The sort at rune, walked (a text of the kit at int, turned): WalkA14. -/
import Derived.Test.YtdbpjmfflofadaaGreatDoorSoWalkA
import Derived.Sort.EncStr
import Derived.Test.YtdbpjmfflofadaaGreatDoorSoBits
import Derived.Sort.LotD5
import Derived.Sort.WalkA6
import Derived.Sort.AtCall
import Derived.Sort.AssemblyPlain
set_option maxRecDepth 100000
set_option maxHeartbeats 12800000
set_option linter.unusedVariables false
set_option linter.unusedSimpArgs false
namespace Go.Proofs.YtdbpjmfflofadaaGreatDoor
open Go.Proofs.Tryz
section
open Go.RowKit Go.Sort
theorem zMH (x:Nat) (h:x<2 ^ 64):Lib.bitLen x=bitsLen x:=by
 induction x using Nat.strongRecOn with
 | _ x ih =>
   by_cases h0:x=0
   · subst h0;rfl
   rw[Lib.bitLen_half x h0 h,ih (x/2) (by omega) (by omega)];unfold bitsLen;rw[Zk h0,Nat.log2_def x]
   by_cases h2:2≤x
   · rw[Zl h2,Zk (by omega)];omega
   obtain rfl:x=1:=by omega
   simp
def zJ9:Prop:=∀(blk off cap a b limit:Nat) (d:Array Int) (w:World),Holds (Value.int .i32) w blk off d→blk<w.heap.size→a≤b→b≤d.size→d.size<4611686018427387904→limit<4611686018427387904→Below ltInt a b d →
 Calls prog 135 #[.slice (some ⟨blk,off,none⟩) d.size cap,.int .i64 a,.int .i64 b,.int .i64 limit] w fun e w' =>
  e=.returned (.tuple #[])∧∃n os,w'=grow (putRow (Value.int .i32) (Sort.ahead w n) blk off (Sort.pdq ltInt d a b limit true true)) os
theorem zOc (af:zJ9) (blk off cap:Nat) (d:Array Int) (w:World) (hH:Holds (Value.int .i32) w blk off d) (ae:blk<w.heap.size) (ag:d.size<4611686018427387904) :
 Calls prog 94 #[.slice (some ⟨blk,off,none⟩) d.size cap] w fun e w'=>e=.returned (.tuple #[])∧∃n os,w'=grow (putRow (Value.int .i32) (Sort.ahead w n) blk off (Sort.sort ltInt d)) os:=by
 have HH:Hid (Holds (Value.int .i32) w blk off d):=hH;clear hH
 have aa:∀w,Calls prog 136 #[.int .u64 (d.size:Int)] w fun e w'=>e=.returned (.int .i64 (bitsLen d.size:Nat))∧w'=w:=fun w=>by
  have h:=zGc (d.size:Int) w (by omega) (by omega)
  rwa [Y5,zMH _ (by omega)]at h
 have hk:bitsLen d.size≤62:=(bitsLen_le_iff d.size 62).2 (by omega);go_enter func94,ntmps94
 go_wp2_with (first
  | (go_at_call 136;refine (aa _).mono ?_;rintro e w' ⟨rfl,rfl⟩)
  | (go_at_call 135;refine (af blk off cap 0 d.size (bitsLen d.size) d _ (by exact HH.out) (by exact ae) (Zq _) (Za _) ag (by omega) (Or.inl rfl)).mono ?_;rintro e w' ⟨rfl,n,os,rfl⟩))
 go_end0;exact⟨rfl,n,os,rfl⟩
theorem zE0 (p:Option Addr) (cap:Nat) (w:World) :
 Calls prog 172 #[.slice p 0 cap,.int .i64 0,.int .i64 0] w fun e w'=>e=.returned (.tuple #[])∧w'=w:=by
 go_enter func172,ntmps172;go_wp2;refine wp_loop_rounds 1 ?_;rw[rounds_succ];go_wp2;go_end0;exact⟨rfl,rfl⟩
theorem zGD (p:Option Addr) (cap:Nat) (w:World) :
 Calls prog 135 #[.slice p 0 cap,.int .i64 0,.int .i64 0,.int .i64 0] w fun e w'=>e=.returned (.tuple #[])∧w'=w:=by
 go_enter func135,ntmps135;go_wp2;refine wp_loop_rounds 1 ?_;rw[rounds_succ];go_wp2_with (first|(go_at_call 172;refine (zE0 p cap _).mono ?_;rintro e w' ⟨rfl,rfl⟩));refine YD (QG rfl _ _ _) rfl ?_;exact⟨rfl,rfl⟩
theorem zJa (p:Option Addr) (cap:Nat) (w:World) :
 Calls prog 94 #[.slice p 0 cap] w fun e w'=>e=.returned (.tuple #[])∧w'=w:=by
 have aa:∀w,Calls prog 136 #[.int .u64 0] w fun e w'=>e=.returned (.int .i64 0)∧w'=w:=fun w=>zGc 0 w (by omega) (by omega)
 go_enter func94,ntmps94
 go_wp2_with (first
  | (go_at_call 136;refine (aa _).mono ?_;rintro e w' ⟨rfl,rfl⟩)
  | (go_at_call 135;refine (zGD p cap _).mono ?_;rintro e w' ⟨rfl,rfl⟩))
 go_end0;exact⟨rfl,rfl⟩
theorem zBz {α:Type} [Inhabited α] (enc:α→Value) (w:World) (blk off:Nat) (dk:Array α) (n i j:Nat) (hi:i<dk.size) (hj:j<dk.size) :
 ((((putRow enc w blk off dk).drewN n).setCell ⟨blk,off+i,none⟩ (enc dk[j]!)).setCell ⟨blk,off+j,none⟩ (enc dk[i]!)).drew=(putRow enc w blk off (swp dk i j)).drewN (n+1):=by
 rw[←putRow_swp enc w blk off dk i j hi hj];rfl
section
variable {α:Type} [Inhabited α]
theorem zJb (p:α→Bool) (d:Array α) (j i:Nat) (h:i≤j) (hp:p d[i]! = true):scanUp p d j i=scanUp p d j (i+1):=by
 rw[scanUp,Zl (by simp[h,hp])]
theorem zCT (p:α→Bool) (d:Array α) (j i:Nat) (h:¬i≤j∨p d[i]! = false):scanUp p d j i=i:=by
 rw[scanUp,Zk (by rcases h with h|h <;> simp[h])]
theorem zGd (p:α→Bool) (d:Array α) (i j:Nat) (h:i≤j) (h0:0<j) (hp:p d[j]! = true):scanDown p d i j=scanDown p d i (j-1):=by
 obtain⟨k,rfl⟩:∃k,j=k+1:=⟨j-1,by omega⟩;rw[scanDown,Zl (by simp[h,hp])];rfl
theorem zBe (p:α→Bool) (d:Array α) (i j:Nat) (h:¬i≤j∨p d[j]! = false):scanDown p d i j=j:=by
 cases j with
 | zero=>rfl
 | succ k=>rw[scanDown,Zk (by rcases h with h|h <;> simp[h])]
variable (lt:α→α→Bool)
theorem zHQ (a i j:Nat) (dk:Array α) {i2 j2:Nat} (ae:i2=scanUp (fun x=>!lt dk[a]! x) dk j i) (aa:j2=scanDown (fun x=>lt dk[a]! x) dk i2 j) (h:j2<i2):partEqLoop lt a i j dk=(i2,dk):=by
 subst ae;subst aa;rw[partEqLoop_eq,Zl h]
theorem zRm (a i j:Nat) (dk:Array α) {i2 j2:Nat} (ae:i2=scanUp (fun x=>!lt dk[a]! x) dk j i) (aa:j2=scanDown (fun x=>lt dk[a]! x) dk i2 j) (h:¬i2 > j2):partEqLoop lt a i j dk=partEqLoop lt a (i2+1) (j2-1) (swp dk i2 j2):=by
 subst ae;subst aa;rw[partEqLoop_eq,Zk h]
theorem zSm (a i j:Nat) (dk:Array α) (h0:0<i) {i2 j2:Nat} (ae:i2=scanUp (fun x=>!lt dk[a]! x) dk j i) (aa:j2=scanDown (fun x=>lt dk[a]! x) dk i2 j) (h:i2≤j2):i2<j2:=by
 subst ae;subst aa;obtain⟨u1,_,_,u4⟩:=scanUp_spec (fun x=>!lt dk[a]! x) dk j _ i rfl;obtain⟨v1,_,_,v4⟩:=scanDown_spec (fun x=>lt dk[a]! x) dk (scanUp (fun x=>!lt dk[a]! x) dk j i) j;rcases Z3 (scanUp (fun x=>!lt dk[a]! x) dk j i) (scanDown (fun x=>lt dk[a]! x) dk (scanUp (fun x=>!lt dk[a]! x) dk j i) j) with h'|h'
 · exact h'
 have e:scanDown (fun x=>lt dk[a]! x) dk (scanUp (fun x=>!lt dk[a]! x) dk j i) j=scanUp (fun x=>!lt dk[a]! x) dk j i:=by omega
 have f1:=u4 (by omega);have f2:=v4 h (by omega);rw[e]at f2;simp only[f2]at f1;cases f1
end
theorem zEZ (blk off cap a b pivot:Nat) (d:Array Int) (w:World) (hH:Holds (Value.int .i32) w blk off d) (bb:a≤pivot) (hpb:pivot<b) (hb:b≤d.size) (bf:d.size<4611686018427387904) :
 Calls prog 179 #[.slice (some ⟨blk,off,none⟩) d.size cap,.int .i64 a,.int .i64 b,.int .i64 pivot] w fun e w' =>
  e=.returned (.int .i64 (Sort.partitionEqual Sort.ltInt d a b pivot).1)∧∃n,w'=(putRow (Value.int .i32) w blk off (Sort.partitionEqual Sort.ltInt d a b pivot).2).drewN n:=by
 have ar:a<d.size:=by omega
 have aw:pivot<d.size:=by omega
 obtain⟨G,hG⟩:∃G:Nat→Int,∀j,G j=d[j]! := ⟨fun j=>d[j]!,fun _=>rfl⟩;have ca:w.cell? ⟨blk,off+a,none⟩=some (.int .i32 (G a)):=by rw[hG];exact (hH a ar).1
 have fa:=(hH a ar).2;have cp:w.cell? ⟨blk,off+pivot,none⟩=some (.int .i32 (G pivot)):=by rw[hG];exact (hH pivot aw).1
 have fp:=(hH pivot aw).2;obtain⟨v',hy'⟩:=YN (w:=w) (p:=⟨blk,off+a,none⟩) (x:=.int .i32 (G pivot)) (q:=⟨blk,off+pivot,none⟩) cp;have AG:Hid (∀j,G j=d[j]!):=hG;have AH:Hid (Holds (Value.int .i32) w blk off d):=hH;clear hG hH;go_enter func179,ntmps179;go_wp2;go_region;go_wp2
 go_loopw [9,10] (fun vi vj wr=>∃(i j n:Nat) (dk:Array Int),vi=.int .i64 i∧vj=.int .i64 j∧a<i∧i≤j+1∧j<b∧dk.size=d.size∧wr=(putRow (Value.int .i32) w blk off dk).drewN n ∧
  Sort.partEqLoop Sort.ltInt a i j dk=Sort.partEqLoop Sort.ltInt a (a+1) (b-1) (Sort.swp d a pivot))
  (fun vi vj _=>(intOf vj).toNat+1-(intOf vi).toNat)
 case atStart =>
  refine⟨a+1,b-1,1,Sort.swp d a pivot,by go_num,by go_num,by omega,by omega,by omega,size_swp _ _ _,?_,rfl⟩;have e:=zBz (Value.int .i32) w blk off d 0 a pivot ar aw;rw[putRow_self _ w blk off d AH.out]at e;rw[AG.out a,AG.out pivot];exact e
 obtain⟨i,j,n,dk,rfl,rfl,a8,hij,bc,hs,hw,az⟩:=hrel;clear ca fa cp fp hy' v' AG
 rename World=>W1
 have aq:Holds (Value.int .i32) W1 blk off dk:=by
  rw[hw];exact holds_putRow (Value.int .i32) w blk off d dk AH.out hs
 obtain⟨Gk,hG⟩:∃Gk:Nat→Int,∀t,Gk t=dk[t]! := ⟨fun t=>dk[t]!,fun _=>rfl⟩;have hc:∀t,t<d.size→W1.cell? ⟨blk,off+t,none⟩=some (.int .i32 (Gk t)):=fun t ht=>by rw[hG];exact (aq t (by omega)).1
 have hf:∀t,t<d.size→W1.frozen? ⟨blk,off+t,none⟩=false:=fun t ht=>(aq t (by omega)).2
 have AG:Hid (∀t,Gk t=dk[t]!):=hG;have AW:Hid (W1=(putRow (Value.int .i32) w blk off dk).drewN n):=hw;have AE:Hid (Sort.partEqLoop Sort.ltInt a i j dk=Sort.partEqLoop Sort.ltInt a (a+1) (b-1) (Sort.swp d a pivot)):=az;clear hG hw az aq;go_wp2
 go_loopw [9] (fun vi w1=>∃(i' n1:Nat),vi=.int .i64 i'∧i≤i'∧i'≤j+1∧w1=W1.drewN n1 ∧
  Hid (Sort.scanUp (fun x=>!Sort.ltInt dk[a]! x) dk j i'=Sort.scanUp (fun x=>!Sort.ltInt dk[a]! x) dk j i))
  (fun vi _=>j+1-(intOf vi).toNat)
 case atStart=>exact⟨i,0,rfl,Za _,hij,rfl,rfl⟩
 obtain⟨i',n1,rfl,a7,aj,au,hsc⟩:=hrel;have ag:∀t,t<d.size→wr.cell? ⟨blk,off+t,none⟩=some (.int .i32 (Gk t)):=fun t ht=>by rw[au];exact hc t ht
 have ak:Hid (wr=W1.drewN n1):=au;clear au
 by_cases hle:i'≤j
 rotate_left
 · go_wp2_with fail;go_big_quiet (first|(go_at_call 178;refine Calls.quiet_of_same (So.cmp_Less_int _ _ _)));go_wp2;have ai:Hid (i'=Sort.scanUp (fun x=>!Sort.ltInt dk[a]! x) dk j i):=(zCT (fun x=>!Sort.ltInt dk[a]! x) dk j i' (Or.inl hle)).symm.trans hsc.out;have ae:wr.drewN nq=W1.drewN (n1+nq):=by rw[ak.out,ZQ]
   clear ag ak hsc
   go_loopw [10] (fun vj w2=>∃(j' n2:Nat),vj=.int .i64 j'∧j'≤j∧i'≤j'+1∧w2=W1.drewN n2 ∧
    Hid (Sort.scanDown (fun x=>Sort.ltInt dk[a]! x) dk i' j'=Sort.scanDown (fun x=>Sort.ltInt dk[a]! x) dk i' j))
    (fun vj _=>(intOf vj).toNat)
   case atStart=>exact⟨j,n1+nq,rfl,Za _,aj,ae,rfl⟩
   clear ae;obtain⟨j',n2,rfl,a6,av,ae,af⟩:=hrel;have ag:∀t,t<d.size→wr.cell? ⟨blk,off+t,none⟩=some (.int .i32 (Gk t)):=fun t ht=>by rw[ae];exact hc t ht
   have ap:Hid (wr=W1.drewN n2):=ae;clear ae
   by_cases hle2:i'≤j'
   · exfalso;omega
   go_wp2_with fail;go_big_quiet (first|(go_at_call 178;refine Calls.quiet_of_same (So.cmp_Less_int _ _ _)));have ah:Hid (j'=Sort.scanDown (fun x=>Sort.ltInt dk[a]! x) dk i' j):=(zBe (fun x=>Sort.ltInt dk[a]! x) dk i' j' (Or.inl hle2)).symm.trans af.out;clear ag af;have aa:wr.drewN nq=W1.drewN (n2+nq):=by rw[ap.out,ZQ]
   generalize wr.drewN nq=W3 at aa ⊢;have ax:∀t,t<d.size→W3.cell? ⟨blk,off+t,none⟩=some (.int .i32 (Gk t)):=fun t ht=>by rw[aa];exact hc t ht
   have ay:∀t,t<d.size→W3.frozen? ⟨blk,off+t,none⟩=false:=fun t ht=>by rw[aa];exact hf t ht
   have ao:Hid (W3=W1.drewN (n2+nq)):=aa;clear aa;go_wp2;go_ret;have e:=zHQ Sort.ltInt a i j dk ai.out ah.out (by omega);refine⟨?_,n+(n2+nq),?_⟩
   · unfold Sort.partitionEqual;rw[←AE.out,e];rfl
   unfold Sort.partitionEqual;rw[←AE.out,e,ao.out,AW.out,World.drewN_drewN]
 go_wp2_with fail;go_big_quiet (first|(go_at_call 178;refine Calls.quiet_of_same (So.cmp_Less_int _ _ _)));go_wp2
 ·
  have ht:(!Sort.ltInt (Gk a) (Gk i'))=true:=by assumption
  go_roundw
  case rel=>exact⟨i'+1,n1+nq,by go_num,by omega,by omega,by rw[ak.out,ZQ],(zJb (fun x=>!Sort.ltInt dk[a]! x) dk j i' hle (by rw[←AG.out a,←AG.out i'];exact ht)).symm.trans hsc.out⟩
  simp[intOf];omega
 ·
  have ht:(!Sort.ltInt (Gk a) (Gk i'))=false:=by assumption
  have ai:Hid (i'=Sort.scanUp (fun x=>!Sort.ltInt dk[a]! x) dk j i):=(zCT (fun x=>!Sort.ltInt dk[a]! x) dk j i' (Or.inr (by rw[←AG.out a,←AG.out i'];exact ht))).symm.trans hsc.out;clear ht;have ae:wr.drewN nq=W1.drewN (n1+nq):=by rw[ak.out,ZQ]
  clear ag ak hsc
  go_loopw [10] (fun vj w2=>∃(j' n2:Nat),vj=.int .i64 j'∧j'≤j∧i'≤j'+1∧w2=W1.drewN n2 ∧
   Hid (Sort.scanDown (fun x=>Sort.ltInt dk[a]! x) dk i' j'=Sort.scanDown (fun x=>Sort.ltInt dk[a]! x) dk i' j))
   (fun vj _=>(intOf vj).toNat)
  case atStart=>exact⟨j,n1+nq,rfl,Za _,aj,ae,rfl⟩
  clear ae;obtain⟨j',n2,rfl,a6,av,ae,af⟩:=hrel;have ag:∀t,t<d.size→wr.cell? ⟨blk,off+t,none⟩=some (.int .i32 (Gk t)):=fun t ht=>by rw[ae];exact hc t ht
  have ap:Hid (wr=W1.drewN n2):=ae;clear ae
  by_cases hle2:i'≤j'
  rotate_left
  · go_wp2_with fail;go_big_quiet (first|(go_at_call 178;refine Calls.quiet_of_same (So.cmp_Less_int _ _ _)));have ah:Hid (j'=Sort.scanDown (fun x=>Sort.ltInt dk[a]! x) dk i' j):=(zBe (fun x=>Sort.ltInt dk[a]! x) dk i' j' (Or.inl hle2)).symm.trans af.out;clear ag af;have aa:wr.drewN nq=W1.drewN (n2+nq):=by rw[ap.out,ZQ]
    generalize wr.drewN nq=W3 at aa ⊢;have ax:∀t,t<d.size→W3.cell? ⟨blk,off+t,none⟩=some (.int .i32 (Gk t)):=fun t ht=>by rw[aa];exact hc t ht
    have ay:∀t,t<d.size→W3.frozen? ⟨blk,off+t,none⟩=false:=fun t ht=>by rw[aa];exact hf t ht
    have ao:Hid (W3=W1.drewN (n2+nq)):=aa;clear aa;go_wp2;go_ret;have e:=zHQ Sort.ltInt a i j dk ai.out ah.out (by omega);refine⟨?_,n+(n2+nq),?_⟩
    · unfold Sort.partitionEqual;rw[←AE.out,e];rfl
    unfold Sort.partitionEqual;rw[←AE.out,e,ao.out,AW.out,World.drewN_drewN]
  go_wp2_with fail;go_big_quiet (first|(go_at_call 178;refine Calls.quiet_of_same (So.cmp_Less_int _ _ _)));go_wp2
  ·
   have ht:Sort.ltInt (Gk a) (Gk j')=true:=by assumption
   go_roundw
   case rel=>exact⟨j'-1,n2+nq,by go_num,by omega,by omega,by rw[ap.out,ZQ],(zGd (fun x=>Sort.ltInt dk[a]! x) dk i' j' hle2 (by omega) (by rw[←AG.out a,←AG.out j'];exact ht)).symm.trans af.out⟩
   simp[intOf];omega
  ·
   have ht:Sort.ltInt (Gk a) (Gk j')=false:=by assumption
   have ah:Hid (j'=Sort.scanDown (fun x=>Sort.ltInt dk[a]! x) dk i' j):=(zBe (fun x=>Sort.ltInt dk[a]! x) dk i' j' (Or.inr (by rw[←AG.out a,←AG.out j'];exact ht))).symm.trans af.out;clear ag af ht;have aa:wr.drewN nq=W1.drewN (n2+nq):=by rw[ap.out,ZQ]
   generalize wr.drewN nq=W3 at aa ⊢;have ax:∀t,t<d.size→W3.cell? ⟨blk,off+t,none⟩=some (.int .i32 (Gk t)):=fun t ht=>by rw[aa];exact hc t ht
   have ay:∀t,t<d.size→W3.frozen? ⟨blk,off+t,none⟩=false:=fun t ht=>by rw[aa];exact hf t ht
   have ao:Hid (W3=W1.drewN (n2+nq)):=aa;clear aa;obtain⟨v3,ba⟩:=YN (w:=W3) (p:=⟨blk,off+i',none⟩) (x:=.int .i32 (Gk j')) (q:=⟨blk,off+j',none⟩) (ax j' (by omega));have a1:=zSm Sort.ltInt a i j dk (by omega) ai.out ah.out hle2;go_wp2;go_region
   all_goals go_wp2
   all_goals go_roundw
   case measure=>simp[intOf];omega
   refine⟨i'+1,j'-1,n+(n2+nq)+1,Sort.swp dk i' j',by go_num,by go_num,by omega,by omega,by omega,by rw[size_swp];exact hs,?_,?_⟩
   · rw[ao.out,AW.out,ZQ,AG.out i',AG.out j'];exact zBz (Value.int .i32) w blk off dk _ i' j' (by omega) (by omega)
   rw[←AE.out];exact (zRm Sort.ltInt a i j dk ai.out ah.out (by omega)).symm
theorem zCL (blk off cap a b pivot:Nat) (d:Array Int) (w:World) (hH:Holds (Value.int .i32) w blk off d) (aa:a≤pivot) (hpb:pivot<b) (hb:b≤d.size) (ae:d.size<4611686018427387904) :
 Calls prog 179 #[.slice (some ⟨blk,off,none⟩) d.size cap,.int .i64 a,.int .i64 b,.int .i64 pivot] w fun e w' =>
  e=.returned (.int .i64 (Sort.partitionEqual Sort.ltInt d a b pivot).1)∧∃n,w'=putRow (Value.int .i32) (Sort.ahead w n) blk off (Sort.partitionEqual Sort.ltInt d a b pivot).2 :=
 (zEZ blk off cap a b pivot d w hH aa hpb hb ae).mono fun _ _ ⟨he,n,hw⟩=>⟨he,n,hw⟩
theorem Hid.mk' {p:Prop} (h:p):Hid p:=h
section
variable {α:Type} [Inhabited α] (lt:α→α→Bool)
theorem zKy (a i j:Nat) (dk:Array α) {i2 j2:Nat} (ae:i2=scanUp (fun x=>lt x dk[a]!) dk j i) (aa:j2=scanDown (fun x=>!lt x dk[a]!) dk i2 j) (h:j2<i2):partLoop lt a i j dk=(j2,dk):=by
 subst ae;subst aa;rw[partLoop_eq,Zl h]
theorem zSV (a i j:Nat) (dk:Array α) {i2 j2:Nat} (ae:i2=scanUp (fun x=>lt x dk[a]!) dk j i) (aa:j2=scanDown (fun x=>!lt x dk[a]!) dk i2 j) (h:¬i2 > j2):partLoop lt a i j dk=partLoop lt a (i2+1) (j2-1) (swp dk i2 j2):=by
 subst ae;subst aa;rw[partLoop_eq,Zk h]
theorem zGE (a i j:Nat) (dk:Array α) (h0:0<i) {i2 j2:Nat} (ae:i2=scanUp (fun x=>lt x dk[a]!) dk j i) (aa:j2=scanDown (fun x=>!lt x dk[a]!) dk i2 j) (h:i2≤j2):i2<j2:=by
 subst ae;subst aa;obtain⟨u1,_,_,u4⟩:=scanUp_spec (fun x=>lt x dk[a]!) dk j _ i rfl;obtain⟨v1,_,_,v4⟩:=scanDown_spec (fun x=>!lt x dk[a]!) dk (scanUp (fun x=>lt x dk[a]!) dk j i) j;rcases Z3 (scanUp (fun x=>lt x dk[a]!) dk j i) (scanDown (fun x=>!lt x dk[a]!) dk (scanUp (fun x=>lt x dk[a]!) dk j i) j) with h'|h'
 · exact h'
 have e:scanDown (fun x=>!lt x dk[a]!) dk (scanUp (fun x=>lt x dk[a]!) dk j i) j=scanUp (fun x=>lt x dk[a]!) dk j i:=by omega
 have f1:=u4 (by omega);have f2:=v4 h (by omega);rw[e]at f2;simp only[f1]at f2;cases f2
theorem zEM (d:Array α) (a b pivot:Nat) {i j:Nat} {dk:Array α} {i2 j2:Nat} (hi:i=a+1) (hj:j=b-1) (af:dk=swp d a pivot) (ae:i2=scanUp (fun x=>lt x dk[a]!) dk j i) (aa:j2=scanDown (fun x=>!lt x dk[a]!) dk i2 j) (h:j2<i2) :
 partition lt d a b pivot=(j2,true,swp dk j2 a):=by
 subst hi;subst hj;subst af;subst ae;subst aa;unfold partition;simp only[];rw[Zl h]
theorem zLl (d:Array α) (a b pivot:Nat) {i j:Nat} {dk:Array α} {i2 j2:Nat} (hi:i=a+1) (hj:j=b-1) (af:dk=swp d a pivot) (ae:i2=scanUp (fun x=>lt x dk[a]!) dk j i) (aa:j2=scanDown (fun x=>!lt x dk[a]!) dk i2 j) (h:¬i2 > j2) :
 partition lt d a b pivot=((partLoop lt a (i2+1) (j2-1) (swp dk i2 j2)).1,false,swp (partLoop lt a (i2+1) (j2-1) (swp dk i2 j2)).2 (partLoop lt a (i2+1) (j2-1) (swp dk i2 j2)).1 a):=by
 subst hi;subst hj;subst af;subst ae;subst aa;unfold partition;simp only[];rw[Zk h]
end
theorem zIp (blk off cap a b pivot:Nat) (d:Array Int) (w:World) (hH:Holds (Value.int .i32) w blk off d) (bj:a≤pivot) (hpb:pivot<b) (hb:b≤d.size) (bk:d.size<4611686018427387904) :
 Calls prog 180 #[.slice (some ⟨blk,off,none⟩) d.size cap,.int .i64 a,.int .i64 b,.int .i64 pivot] w fun e w' =>
  e=.returned (.tuple #[.int .i64 (Sort.partition Sort.ltInt d a b pivot).1,.bool (Sort.partition Sort.ltInt d a b pivot).2.1])∧∃n,w'=(putRow (Value.int .i32) w blk off (Sort.partition Sort.ltInt d a b pivot).2.2).drewN n:=by
 have az:a<d.size:=by omega
 have a8:pivot<d.size:=by omega
 obtain⟨G,hG⟩:∃G:Nat→Int,∀j,G j=d[j]! := ⟨fun j=>d[j]!,fun _=>rfl⟩;have ca:w.cell? ⟨blk,off+a,none⟩=some (.int .i32 (G a)):=by rw[hG];exact (hH a az).1
 have fa:=(hH a az).2;have cp:w.cell? ⟨blk,off+pivot,none⟩=some (.int .i32 (G pivot)):=by rw[hG];exact (hH pivot a8).1
 have fp:=(hH pivot a8).2;obtain⟨v',hy'⟩:=YN (w:=w) (p:=⟨blk,off+a,none⟩) (x:=.int .i32 (G pivot)) (q:=⟨blk,off+pivot,none⟩) cp
 have hw:((w.setCell ⟨blk,off+a,none⟩ (.int .i32 (G pivot))).setCell ⟨blk,off+pivot,none⟩ (.int .i32 (G a))).drew=(putRow (Value.int .i32) w blk off (Sort.swp d a pivot)).drewN 1:=by
  have e:=zBz (Value.int .i32) w blk off d 0 a pivot az a8;rw[putRow_self _ w blk off d hH]at e;rw[hG a,hG pivot];exact e
 have AH:Hid (Holds (Value.int .i32) w blk off d):=hH;have bb:=Hid.mk' hw;clear hG hH hw;go_enter func180,ntmps180;go_wp2;go_region;go_wp2;clear ca fa cp fp hy' v';have hw:=bb.out;clear bb;generalize ((w.setCell ⟨blk,off+a,none⟩ (.int .i32 (G pivot))).setCell ⟨blk,off+pivot,none⟩ (.int .i32 (G a))).drew=W1 at hw ⊢;obtain⟨dk,ay⟩:∃dk,dk=Sort.swp d a pivot:=⟨_,rfl⟩;obtain⟨n,hn⟩:∃n:Nat,n=1:=⟨_,rfl⟩;rw[←ay,←hn]at hw;clear hn;have hs:dk.size=d.size:=by rw[ay,size_swp]
 have e1:((a:Int)+1)=((a+1:Nat):Int):=by omega
 have e2:((b:Int)-1)=((b-1:Nat):Int):=by omega
 rw[e1,e2];clear e1 e2;obtain⟨i,hi⟩:∃i,i=a+1:=⟨_,rfl⟩;obtain⟨j,hj⟩:∃j,j=b-1:=⟨_,rfl⟩;rw[←hi,←hj];have bh:a<i:=by omega
 have hij:i≤j+1:=by omega
 have bi:j<b:=by omega
 have HI:=Hid.mk' hi;have HJ:=Hid.mk' hj;have a7:=Hid.mk' ay;clear hi hj ay
 have ar:Holds (Value.int .i32) W1 blk off dk:=by
  rw[hw];exact holds_putRow (Value.int .i32) w blk off d dk AH.out hs
 obtain⟨Gk,hG⟩:∃Gk:Nat→Int,∀t,Gk t=dk[t]! := ⟨fun t=>dk[t]!,fun _=>rfl⟩;have hc:∀t,t<d.size→W1.cell? ⟨blk,off+t,none⟩=some (.int .i32 (Gk t)):=fun t ht=>by rw[hG];exact (ar t (by omega)).1
 have hf:∀t,t<d.size→W1.frozen? ⟨blk,off+t,none⟩=false:=fun t ht=>(ar t (by omega)).2
 have AG:Hid (∀t,Gk t=dk[t]!):=hG;have AW:Hid (W1=(putRow (Value.int .i32) w blk off dk).drewN n):=hw;clear hG hw ar
 go_loopw [10] (fun vi w1=>∃(i' n1:Nat),vi=.int .i64 i'∧i≤i'∧i'≤j+1∧w1=W1.drewN n1 ∧
  Hid (Sort.scanUp (fun x=>Sort.ltInt x dk[a]!) dk j i'=Sort.scanUp (fun x=>Sort.ltInt x dk[a]!) dk j i))
  (fun vi _=>j+1-(intOf vi).toNat)
 case atStart=>exact⟨i,0,rfl,Za _,hij,rfl,rfl⟩
 obtain⟨i',n1,rfl,bg,ao,au,hsc⟩:=hrel;have ag:∀t,t<d.size→wr.cell? ⟨blk,off+t,none⟩=some (.int .i32 (Gk t)):=fun t ht=>by rw[au];exact hc t ht
 have ap:Hid (wr=W1.drewN n1):=au;clear au
 by_cases hle:i'≤j
 rotate_left
 · go_wp2_with fail;go_big_quiet (first|(go_at_call 178;refine Calls.quiet_of_same (So.cmp_Less_int _ _ _)));go_wp2;have ai:Hid (i'=Sort.scanUp (fun x=>Sort.ltInt x dk[a]!) dk j i):=(zCT (fun x=>Sort.ltInt x dk[a]!) dk j i' (Or.inl hle)).symm.trans hsc.out;have ae:wr.drewN nq=W1.drewN (n1+nq):=by rw[ap.out,ZQ]
   clear ag ap hsc
   go_loopw [11] (fun vj w2=>∃(j' n2:Nat),vj=.int .i64 j'∧j'≤j∧i'≤j'+1∧w2=W1.drewN n2 ∧
    Hid (Sort.scanDown (fun x=>!Sort.ltInt x dk[a]!) dk i' j'=Sort.scanDown (fun x=>!Sort.ltInt x dk[a]!) dk i' j))
    (fun vj _=>(intOf vj).toNat)
   case atStart=>exact⟨j,n1+nq,rfl,Za _,ao,ae,rfl⟩
   clear ae;obtain⟨j',n2,rfl,a6,av,ae,af⟩:=hrel;have ag:∀t,t<d.size→wr.cell? ⟨blk,off+t,none⟩=some (.int .i32 (Gk t)):=fun t ht=>by rw[ae];exact hc t ht
   have aq:Hid (wr=W1.drewN n2):=ae;clear ae
   by_cases hle2:i'≤j'
   · exfalso;omega
   go_wp2_with fail;go_big_quiet (first|(go_at_call 178;refine Calls.quiet_of_same (So.cmp_Less_int _ _ _)));have ah:Hid (j'=Sort.scanDown (fun x=>!Sort.ltInt x dk[a]!) dk i' j):=(zBe (fun x=>!Sort.ltInt x dk[a]!) dk i' j' (Or.inl hle2)).symm.trans af.out;clear ag af;have aa:wr.drewN nq=W1.drewN (n2+nq):=by rw[aq.out,ZQ]
   generalize wr.drewN nq=W3 at aa ⊢;have ak:∀t,t<d.size→W3.cell? ⟨blk,off+t,none⟩=some (.int .i32 (Gk t)):=fun t ht=>by rw[aa];exact hc t ht
   have ax:∀t,t<d.size→W3.frozen? ⟨blk,off+t,none⟩=false:=fun t ht=>by rw[aa];exact hf t ht
   have aj:Hid (W3=W1.drewN (n2+nq)):=aa;clear aa;obtain⟨v3,aw⟩:=YN (w:=W3) (p:=⟨blk,off+j',none⟩) (x:=.int .i32 (Gk a)) (q:=⟨blk,off+a,none⟩) (ak a (by omega));have ba:j'<d.size:=by omega
   go_wp2;go_region
   all_goals go_wp2
   all_goals go_ret2
   have e:Sort.partition Sort.ltInt d a b pivot=(j',true,Sort.swp dk j' a):=zEM Sort.ltInt d a b pivot HI.out HJ.out a7.out ai.out ah.out (by omega);refine⟨?_,n+(n2+nq)+1,?_⟩
   · rw[e];rfl
   rw[e,aj.out,AW.out,ZQ,AG.out a,AG.out j'];exact zBz (Value.int .i32) w blk off dk _ j' a (by omega) (by omega)
 go_wp2_with fail;go_big_quiet (first|(go_at_call 178;refine Calls.quiet_of_same (So.cmp_Less_int _ _ _)));go_wp2
 ·
  have ht:Sort.ltInt (Gk i') (Gk a)=true:=by assumption
  go_roundw
  case rel=>exact⟨i'+1,n1+nq,by go_num,by omega,by omega,by rw[ap.out,ZQ],(zJb (fun x=>Sort.ltInt x dk[a]!) dk j i' hle (by rw[←AG.out a,←AG.out i'];exact ht)).symm.trans hsc.out⟩
  simp[intOf];omega
 ·
  have ht:Sort.ltInt (Gk i') (Gk a)=false:=by assumption
  have ai:Hid (i'=Sort.scanUp (fun x=>Sort.ltInt x dk[a]!) dk j i):=(zCT (fun x=>Sort.ltInt x dk[a]!) dk j i' (Or.inr (by rw[←AG.out a,←AG.out i'];exact ht))).symm.trans hsc.out;clear ht;have ae:wr.drewN nq=W1.drewN (n1+nq):=by rw[ap.out,ZQ]
  clear ag ap hsc
  go_loopw [11] (fun vj w2=>∃(j' n2:Nat),vj=.int .i64 j'∧j'≤j∧i'≤j'+1∧w2=W1.drewN n2 ∧
   Hid (Sort.scanDown (fun x=>!Sort.ltInt x dk[a]!) dk i' j'=Sort.scanDown (fun x=>!Sort.ltInt x dk[a]!) dk i' j))
   (fun vj _=>(intOf vj).toNat)
  case atStart=>exact⟨j,n1+nq,rfl,Za _,ao,ae,rfl⟩
  clear ae;obtain⟨j',n2,rfl,a6,av,ae,af⟩:=hrel;have ag:∀t,t<d.size→wr.cell? ⟨blk,off+t,none⟩=some (.int .i32 (Gk t)):=fun t ht=>by rw[ae];exact hc t ht
  have aq:Hid (wr=W1.drewN n2):=ae;clear ae
  by_cases hle2:i'≤j'
  rotate_left
  · go_wp2_with fail;go_big_quiet (first|(go_at_call 178;refine Calls.quiet_of_same (So.cmp_Less_int _ _ _)));have ah:Hid (j'=Sort.scanDown (fun x=>!Sort.ltInt x dk[a]!) dk i' j):=(zBe (fun x=>!Sort.ltInt x dk[a]!) dk i' j' (Or.inl hle2)).symm.trans af.out;clear ag af;have aa:wr.drewN nq=W1.drewN (n2+nq):=by rw[aq.out,ZQ]
    generalize wr.drewN nq=W3 at aa ⊢;have ak:∀t,t<d.size→W3.cell? ⟨blk,off+t,none⟩=some (.int .i32 (Gk t)):=fun t ht=>by rw[aa];exact hc t ht
    have ax:∀t,t<d.size→W3.frozen? ⟨blk,off+t,none⟩=false:=fun t ht=>by rw[aa];exact hf t ht
    have aj:Hid (W3=W1.drewN (n2+nq)):=aa;clear aa;obtain⟨v3,aw⟩:=YN (w:=W3) (p:=⟨blk,off+j',none⟩) (x:=.int .i32 (Gk a)) (q:=⟨blk,off+a,none⟩) (ak a (by omega));have ba:j'<d.size:=by omega
    go_wp2;go_region
    all_goals go_wp2
    all_goals go_ret2
    have e:Sort.partition Sort.ltInt d a b pivot=(j',true,Sort.swp dk j' a):=zEM Sort.ltInt d a b pivot HI.out HJ.out a7.out ai.out ah.out (by omega);refine⟨?_,n+(n2+nq)+1,?_⟩
    · rw[e];rfl
    rw[e,aj.out,AW.out,ZQ,AG.out a,AG.out j'];exact zBz (Value.int .i32) w blk off dk _ j' a (by omega) (by omega)
  go_wp2_with fail;go_big_quiet (first|(go_at_call 178;refine Calls.quiet_of_same (So.cmp_Less_int _ _ _)));go_wp2
  ·
   have ht:(!Sort.ltInt (Gk j') (Gk a))=true:=by assumption
   go_roundw
   case rel=>exact⟨j'-1,n2+nq,by go_num,by omega,by omega,by rw[aq.out,ZQ],(zGd (fun x=>!Sort.ltInt x dk[a]!) dk i' j' hle2 (by omega) (by rw[←AG.out a,←AG.out j'];exact ht)).symm.trans af.out⟩
   simp[intOf];omega
  ·
   have ht:(!Sort.ltInt (Gk j') (Gk a))=false:=by assumption
   have ah:Hid (j'=Sort.scanDown (fun x=>!Sort.ltInt x dk[a]!) dk i' j):=(zBe (fun x=>!Sort.ltInt x dk[a]!) dk i' j' (Or.inr (by rw[←AG.out a,←AG.out j'];exact ht))).symm.trans af.out;clear ag af ht;have aa:wr.drewN nq=W1.drewN (n2+nq):=by rw[aq.out,ZQ]
   generalize wr.drewN nq=W3 at aa ⊢;have ak:∀t,t<d.size→W3.cell? ⟨blk,off+t,none⟩=some (.int .i32 (Gk t)):=fun t ht=>by rw[aa];exact hc t ht
   have ax:∀t,t<d.size→W3.frozen? ⟨blk,off+t,none⟩=false:=fun t ht=>by rw[aa];exact hf t ht
   have aj:Hid (W3=W1.drewN (n2+nq)):=aa;clear aa;obtain⟨v3,aw⟩:=YN (w:=W3) (p:=⟨blk,off+i',none⟩) (x:=.int .i32 (Gk j')) (q:=⟨blk,off+j',none⟩) (ak j' (by omega));have a1:=zGE Sort.ltInt a i j dk (by omega) ai.out ah.out hle2;go_wp2;go_region
   all_goals go_wp2
   obtain⟨R,hR⟩:∃R,R=Sort.partLoop Sort.ltInt a (i'+1) (j'-1) (Sort.swp dk i' j'):=⟨_,rfl⟩;have HP:Hid (Sort.partition Sort.ltInt d a b pivot=(R.1,false,Sort.swp R.2 R.1 a)):=by rw[hR];exact zLl Sort.ltInt d a b pivot HI.out HJ.out a7.out ai.out ah.out (by omega)
   have bf:((W3.setCell ⟨blk,off+i',none⟩ (.int .i32 (Gk j'))).setCell ⟨blk,off+j',none⟩ (.int .i32 (Gk i'))).drew=(putRow (Value.int .i32) w blk off (Sort.swp dk i' j')).drewN (n+(n2+nq)+1):=by
    rw[aj.out,AW.out,ZQ,AG.out i',AG.out j'];exact zBz (Value.int .i32) w blk off dk _ i' j' (by omega) (by omega)
   have HR:Hid (R=Sort.partLoop Sort.ltInt a (i'+1) (j'-1) (Sort.swp dk i' j')):=hR;clear hR hc hf ak ax aw aj AW AG ai ah
   go_loopw [10,11] (fun vi vj wr=>∃(i j n:Nat) (dk:Array Int),vi=.int .i64 i∧vj=.int .i64 j∧a<i∧i≤j+1∧j<b∧dk.size=d.size∧wr=(putRow (Value.int .i32) w blk off dk).drewN n ∧
    Sort.partLoop Sort.ltInt a i j dk=R)
    (fun vi vj _=>(intOf vj).toNat+1-(intOf vi).toNat)
   case atStart=>exact⟨i'+1,j'-1,_,Sort.swp dk i' j',by go_num,by go_num,by omega,by omega,by omega,by rw[size_swp];exact hs,bf,HR.out.symm⟩
   clear bf HR;obtain⟨i,j,n,dk,rfl,rfl,bh,hij,bi,hs,hw,bc⟩:=hrel
   rename World=>W1
   have AE:Hid (Sort.partLoop Sort.ltInt a i j dk=R):=bc;clear bc
   have ar:Holds (Value.int .i32) W1 blk off dk:=by
    rw[hw];exact holds_putRow (Value.int .i32) w blk off d dk AH.out hs
   obtain⟨Gk,hG⟩:∃Gk:Nat→Int,∀t,Gk t=dk[t]! := ⟨fun t=>dk[t]!,fun _=>rfl⟩;have hc:∀t,t<d.size→W1.cell? ⟨blk,off+t,none⟩=some (.int .i32 (Gk t)):=fun t ht=>by rw[hG];exact (ar t (by omega)).1
   have hf:∀t,t<d.size→W1.frozen? ⟨blk,off+t,none⟩=false:=fun t ht=>(ar t (by omega)).2
   have AG:Hid (∀t,Gk t=dk[t]!):=hG;have AW:Hid (W1=(putRow (Value.int .i32) w blk off dk).drewN n):=hw;clear hG hw ar;go_wp2
   go_loopw [10] (fun vi w1=>∃(i' n1:Nat),vi=.int .i64 i'∧i≤i'∧i'≤j+1∧w1=W1.drewN n1 ∧
    Hid (Sort.scanUp (fun x=>Sort.ltInt x dk[a]!) dk j i'=Sort.scanUp (fun x=>Sort.ltInt x dk[a]!) dk j i))
    (fun vi _=>j+1-(intOf vi).toNat)
   case atStart=>exact⟨i,0,rfl,Za _,hij,rfl,rfl⟩
   obtain⟨i',n1,rfl,bg,ao,au,hsc⟩:=hrel;have ag:∀t,t<d.size→wr.cell? ⟨blk,off+t,none⟩=some (.int .i32 (Gk t)):=fun t ht=>by rw[au];exact hc t ht
   have ap:Hid (wr=W1.drewN n1):=au;clear au
   by_cases hle:i'≤j
   rotate_left
   · go_wp2_with fail;go_big_quiet (first|(go_at_call 178;refine Calls.quiet_of_same (So.cmp_Less_int _ _ _)));go_wp2;have ai:Hid (i'=Sort.scanUp (fun x=>Sort.ltInt x dk[a]!) dk j i):=(zCT (fun x=>Sort.ltInt x dk[a]!) dk j i' (Or.inl hle)).symm.trans hsc.out;have ae:wr.drewN nq=W1.drewN (n1+nq):=by rw[ap.out,ZQ]
     clear ag ap hsc
     go_loopw [11] (fun vj w2=>∃(j' n2:Nat),vj=.int .i64 j'∧j'≤j∧i'≤j'+1∧w2=W1.drewN n2 ∧
      Hid (Sort.scanDown (fun x=>!Sort.ltInt x dk[a]!) dk i' j'=Sort.scanDown (fun x=>!Sort.ltInt x dk[a]!) dk i' j))
      (fun vj _=>(intOf vj).toNat)
     case atStart=>exact⟨j,n1+nq,rfl,Za _,ao,ae,rfl⟩
     clear ae;obtain⟨j',n2,rfl,a6,av,ae,af⟩:=hrel;have ag:∀t,t<d.size→wr.cell? ⟨blk,off+t,none⟩=some (.int .i32 (Gk t)):=fun t ht=>by rw[ae];exact hc t ht
     have aq:Hid (wr=W1.drewN n2):=ae;clear ae
     by_cases hle2:i'≤j'
     · exfalso;omega
     go_wp2_with fail;go_big_quiet (first|(go_at_call 178;refine Calls.quiet_of_same (So.cmp_Less_int _ _ _)));have ah:Hid (j'=Sort.scanDown (fun x=>!Sort.ltInt x dk[a]!) dk i' j):=(zBe (fun x=>!Sort.ltInt x dk[a]!) dk i' j' (Or.inl hle2)).symm.trans af.out;clear ag af;have aa:wr.drewN nq=W1.drewN (n2+nq):=by rw[aq.out,ZQ]
     generalize wr.drewN nq=W3 at aa ⊢;have ak:∀t,t<d.size→W3.cell? ⟨blk,off+t,none⟩=some (.int .i32 (Gk t)):=fun t ht=>by rw[aa];exact hc t ht
     have ax:∀t,t<d.size→W3.frozen? ⟨blk,off+t,none⟩=false:=fun t ht=>by rw[aa];exact hf t ht
     have aj:Hid (W3=W1.drewN (n2+nq)):=aa;clear aa;obtain⟨v3,aw⟩:=YN (w:=W3) (p:=⟨blk,off+j',none⟩) (x:=.int .i32 (Gk a)) (q:=⟨blk,off+a,none⟩) (ak a (by omega));have ba:j'<d.size:=by omega
     go_wp2;go_region
     all_goals go_wp2
     all_goals go_ret2
     have e:Sort.partition Sort.ltInt d a b pivot=(j',false,Sort.swp dk j' a):=by
      have e0:=(zKy Sort.ltInt a i j dk ai.out ah.out (by omega)).symm.trans AE.out;rw[HP.out,←e0]
     refine⟨?_,n+(n2+nq)+1,?_⟩
     · rw[e];rfl
     rw[e,aj.out,AW.out,ZQ,AG.out a,AG.out j'];exact zBz (Value.int .i32) w blk off dk _ j' a (by omega) (by omega)
   go_wp2_with fail;go_big_quiet (first|(go_at_call 178;refine Calls.quiet_of_same (So.cmp_Less_int _ _ _)));go_wp2
   ·
    have ht:Sort.ltInt (Gk i') (Gk a)=true:=by assumption
    go_roundw
    case rel=>exact⟨i'+1,n1+nq,by go_num,by omega,by omega,by rw[ap.out,ZQ],(zJb (fun x=>Sort.ltInt x dk[a]!) dk j i' hle (by rw[←AG.out a,←AG.out i'];exact ht)).symm.trans hsc.out⟩
    simp[intOf];omega
   ·
    have ht:Sort.ltInt (Gk i') (Gk a)=false:=by assumption
    have ai:Hid (i'=Sort.scanUp (fun x=>Sort.ltInt x dk[a]!) dk j i):=(zCT (fun x=>Sort.ltInt x dk[a]!) dk j i' (Or.inr (by rw[←AG.out a,←AG.out i'];exact ht))).symm.trans hsc.out;clear ht;have ae:wr.drewN nq=W1.drewN (n1+nq):=by rw[ap.out,ZQ]
    clear ag ap hsc
    go_loopw [11] (fun vj w2=>∃(j' n2:Nat),vj=.int .i64 j'∧j'≤j∧i'≤j'+1∧w2=W1.drewN n2 ∧
     Hid (Sort.scanDown (fun x=>!Sort.ltInt x dk[a]!) dk i' j'=Sort.scanDown (fun x=>!Sort.ltInt x dk[a]!) dk i' j))
     (fun vj _=>(intOf vj).toNat)
    case atStart=>exact⟨j,n1+nq,rfl,Za _,ao,ae,rfl⟩
    clear ae;obtain⟨j',n2,rfl,a6,av,ae,af⟩:=hrel;have ag:∀t,t<d.size→wr.cell? ⟨blk,off+t,none⟩=some (.int .i32 (Gk t)):=fun t ht=>by rw[ae];exact hc t ht
    have aq:Hid (wr=W1.drewN n2):=ae;clear ae
    by_cases hle2:i'≤j'
    · go_wp2_with fail;go_big_quiet (first|(go_at_call 178;refine Calls.quiet_of_same (So.cmp_Less_int _ _ _)));go_wp2
      ·
       have ht:(!Sort.ltInt (Gk j') (Gk a))=true:=by assumption
       go_roundw
       case rel=>exact⟨j'-1,n2+nq,by go_num,by omega,by omega,by rw[aq.out,ZQ],(zGd (fun x=>!Sort.ltInt x dk[a]!) dk i' j' hle2 (by omega) (by rw[←AG.out a,←AG.out j'];exact ht)).symm.trans af.out⟩
       simp[intOf];omega
      ·
       have ht:(!Sort.ltInt (Gk j') (Gk a))=false:=by assumption
       have ah:Hid (j'=Sort.scanDown (fun x=>!Sort.ltInt x dk[a]!) dk i' j):=(zBe (fun x=>!Sort.ltInt x dk[a]!) dk i' j' (Or.inr (by rw[←AG.out a,←AG.out j'];exact ht))).symm.trans af.out;clear ag af ht;have aa:wr.drewN nq=W1.drewN (n2+nq):=by rw[aq.out,ZQ]
       generalize wr.drewN nq=W3 at aa ⊢;have ak:∀t,t<d.size→W3.cell? ⟨blk,off+t,none⟩=some (.int .i32 (Gk t)):=fun t ht=>by rw[aa];exact hc t ht
       have ax:∀t,t<d.size→W3.frozen? ⟨blk,off+t,none⟩=false:=fun t ht=>by rw[aa];exact hf t ht
       have aj:Hid (W3=W1.drewN (n2+nq)):=aa;clear aa;obtain⟨v3,aw⟩:=YN (w:=W3) (p:=⟨blk,off+i',none⟩) (x:=.int .i32 (Gk j')) (q:=⟨blk,off+j',none⟩) (ak j' (by omega));have a1:=zGE Sort.ltInt a i j dk (by omega) ai.out ah.out hle2;go_wp2;go_region
       all_goals go_wp2
       all_goals go_roundw
       case measure=>simp[intOf];omega
       refine⟨i'+1,j'-1,n+(n2+nq)+1,Sort.swp dk i' j',by go_num,by go_num,by omega,by omega,by omega,by rw[size_swp];exact hs,?_,?_⟩
       · rw[aj.out,AW.out,ZQ,AG.out i',AG.out j'];exact zBz (Value.int .i32) w blk off dk _ i' j' (by omega) (by omega)
       exact (zSV Sort.ltInt a i j dk ai.out ah.out (by omega)).symm.trans AE.out
    go_wp2_with fail;go_big_quiet (first|(go_at_call 178;refine Calls.quiet_of_same (So.cmp_Less_int _ _ _)));have ah:Hid (j'=Sort.scanDown (fun x=>!Sort.ltInt x dk[a]!) dk i' j):=(zBe (fun x=>!Sort.ltInt x dk[a]!) dk i' j' (Or.inl hle2)).symm.trans af.out;clear ag af;have aa:wr.drewN nq=W1.drewN (n2+nq):=by rw[aq.out,ZQ]
    generalize wr.drewN nq=W3 at aa ⊢;have ak:∀t,t<d.size→W3.cell? ⟨blk,off+t,none⟩=some (.int .i32 (Gk t)):=fun t ht=>by rw[aa];exact hc t ht
    have ax:∀t,t<d.size→W3.frozen? ⟨blk,off+t,none⟩=false:=fun t ht=>by rw[aa];exact hf t ht
    have aj:Hid (W3=W1.drewN (n2+nq)):=aa;clear aa;obtain⟨v3,aw⟩:=YN (w:=W3) (p:=⟨blk,off+j',none⟩) (x:=.int .i32 (Gk a)) (q:=⟨blk,off+a,none⟩) (ak a (by omega));have ba:j'<d.size:=by omega
    go_wp2;go_region
    all_goals go_wp2
    all_goals go_ret2
    have e:Sort.partition Sort.ltInt d a b pivot=(j',false,Sort.swp dk j' a):=by
     have e0:=(zKy Sort.ltInt a i j dk ai.out ah.out (by omega)).symm.trans AE.out;rw[HP.out,←e0]
    refine⟨?_,n+(n2+nq)+1,?_⟩
    · rw[e];rfl
    rw[e,aj.out,AW.out,ZQ,AG.out a,AG.out j'];exact zBz (Value.int .i32) w blk off dk _ j' a (by omega) (by omega)
theorem zEo (blk off cap a b pivot:Nat) (d:Array Int) (w:World) (hH:Holds (Value.int .i32) w blk off d) (aa:a≤pivot) (hpb:pivot<b) (hb:b≤d.size) (ae:d.size<4611686018427387904) :
 Calls prog 180 #[.slice (some ⟨blk,off,none⟩) d.size cap,.int .i64 a,.int .i64 b,.int .i64 pivot] w fun e w' =>
  e=.returned (.tuple #[.int .i64 (Sort.partition Sort.ltInt d a b pivot).1,.bool (Sort.partition Sort.ltInt d a b pivot).2.1])∧∃n,w'=putRow (Value.int .i32) (Sort.ahead w n) blk off (Sort.partition Sort.ltInt d a b pivot).2.2 :=
 (zIp blk off cap a b pivot d w hH aa hpb hb ae).mono fun _ _ ⟨he,n,hw⟩=>⟨he,n,hw⟩
theorem zJc (w:World) (blk off:Nat) (v v':Value):(w.setCell ⟨blk,off,none⟩ v).setCell ⟨blk,off,none⟩ v'=w.setCell ⟨blk,off,none⟩ v':=by
 rw[setCell_eq,setCell_eq,mapBlock_mapBlock,setCell_eq];congr 1;funext c
 simp
theorem zIq (rb ro X:Nat) (hX:X<18446744073709551616) (w:World) (hc:w.cell? ⟨rb,ro,none⟩=some (.int .u64 X)) (hf:w.frozen? ⟨rb,ro,none⟩=false) :
 Calls prog 214 #[.pointer (some ⟨rb,ro,none⟩)] w fun e w'=>e=.returned (.int .u64 (xorNextN X:Nat))∧w'=(w.setCell ⟨rb,ro,none⟩ (.int .u64 (xorNextN X:Nat))).drewN 3:=by
 obtain⟨A,hA⟩:∃A:Nat,A=X ^^^ (X*8192%18446744073709551616):=⟨_,rfl⟩;obtain⟨B,hB⟩:∃B:Nat,B=A ^^^ (A/128):=⟨_,rfl⟩;obtain⟨C,hC⟩:∃C:Nat,C=B ^^^ (B*131072%18446744073709551616):=⟨_,rfl⟩;have lA:A<18446744073709551616:=by rw[hA];exact JY (n:=64) (by omega) (by omega)
 have lB:B<18446744073709551616:=by rw[hB];exact JY (n:=64) (by omega) (by omega)
 have e1:bits .xor .u64 (X:Int) (IntKind.u64.wrap ((X:Int)*8192))=(A:Int):=by
  rw[Q6,show ((X:Int)*8192%18446744073709551616)=((X*8192%18446744073709551616:Nat):Int) by omega,Q7 _ _ hX (by omega),hA]
 have e2:bits .xor .u64 (A:Int) ((A:Int)/128)=(B:Int):=by
  rw[show ((A:Int)/128)=((A/128:Nat):Int) by omega,Q7 _ _ lA (by omega),hB]
 have e3:bits .xor .u64 (B:Int) (IntKind.u64.wrap ((B:Int)*131072))=(C:Int):=by
  rw[Q6,show ((B:Int)*131072%18446744073709551616)=((B*131072%18446744073709551616:Nat):Int) by omega,Q7 _ _ lB (by omega),hC]
 have hv:xorNextN X=C:=by unfold xorNextN;simp only[];rw[←hA,←hB,←hC]
 rw[hv];clear hA hB hC hv;have aa:∀v v',(w.setCell ⟨rb,ro,none⟩ v).setCell ⟨rb,ro,none⟩ v'=w.setCell ⟨rb,ro,none⟩ v':=zJc w rb ro;go_enter func214,ntmps214;go_wp2;go_region
 all_goals go_wp2
 all_goals go_region
 all_goals go_wp2
 all_goals go_region
 all_goals go_wp2
 go_ret;exact⟨rfl,rfl⟩
theorem zMI (k:Nat) (hk:k≤62):IntKind.u64.wrap ((2:Int) ^ k)=((1 <<< k:Nat):Int):=by
 have h:(2:Nat) ^ k≤2 ^ 62:=Xe (by decide) hk;rw[Q6,QX,show ((2:Int) ^ k)=((2 ^ k:Nat):Int) by push_cast;rfl];generalize (2:Nat) ^ k=p at h;omega
theorem zHo (n:Nat) (hn:n<4611686018427387904) (w:World) :
 Calls prog 213 #[.int .i64 n] w fun e w'=>e=.returned (.int .u64 ((1 <<< bitsLen n:Nat):Int))∧w'=w:=by
 have aa:∀w,Calls prog 136 #[.int .u64 (n:Int)] w fun e w'=>e=.returned (.int .i64 (bitsLen n:Nat))∧w'=w:=fun w=>by
  have h:=zGc (n:Int) w (by omega) (by omega)
  rwa [Y5,zMH _ (by omega)]at h
 have hk:bitsLen n≤62:=(bitsLen_le_iff n 62).2 (by omega);have hp:=zMI (bitsLen n) hk;go_enter func213,ntmps213;go_wp2_with (first|(go_at_call 136;refine (aa _).mono ?_;rintro e w' ⟨rfl,rfl⟩));go_ret;exact⟨rfl,rfl⟩
section
variable {α:Type} [Inhabited α] (lt:α→α→Bool)
theorem scanSorted_go (d:Array α) (b i:Nat) (h:i<b) (hl:lt d[i]! d[i-1]! = false):scanSorted lt d b i=scanSorted lt d b (i+1):=by
 rw[scanSorted];simp[h,hl]
theorem scanSorted_stop (d:Array α) (b i:Nat) (h:¬i<b∨lt d[i]! d[i-1]! = true):scanSorted lt d b i=i:=by
 rw[scanSorted];rcases h with h|h
 · simp[h]
 simp[h]
theorem shiftDown_go (j:Nat) (d:Array α) (hj:1≤j) (hl:lt d[j]! d[j-1]! = true):shiftDown lt j d=shiftDown lt (j-1) (swp d j (j-1)):=by
 obtain⟨k,rfl⟩:∃k,j=k+1:=⟨j-1,by omega⟩;rw[shiftDown];simp only[QL]at hl ⊢;simp[hl]
theorem shiftDown_stop (j:Nat) (d:Array α) (h:j=0∨lt d[j]! d[j-1]! = false):shiftDown lt j d=d:=by
 cases j with
 | zero=>rw[shiftDown]
 | succ k =>
   rw[shiftDown];simp only[QL]at h;rcases h with h|h
   · omega
   simp[h]
theorem shiftUp_go (b j:Nat) (d:Array α) (hj:j<b) (hl:lt d[j]! d[j-1]! = true):shiftUp lt b j d=shiftUp lt b (j+1) (swp d j (j-1)):=by
 rw[shiftUp];simp[hj,hl]
theorem shiftUp_stop (b j:Nat) (d:Array α) (h:¬j<b∨lt d[j]! d[j-1]! = false):shiftUp lt b j d=d:=by
 rw[shiftUp];rcases h with h|h
 · simp[h]
 by_cases hj:j<b <;> simp[hj,h]
end
section
variable {α:Type} [Inhabited α] (lt:α→α→Bool)
theorem pi_true (a b s i:Nat) (d:Array α) (hs:s<5) (hK:scanSorted lt d b i=b):partialIns lt a b (5-s) i d=(d,true):=by
 rw[show 5-s=(4-s)+1 by omega,partialIns_succ,Zl hK]
theorem pi_short (a b s i:Nat) (d:Array α) (hs:s<5) (hK:scanSorted lt d b i≠b) (aa:b-a<50):partialIns lt a b (5-s) i d=(d,false):=by
 rw[show 5-s=(4-s)+1 by omega,partialIns_succ,Zk hK,Zl aa]
theorem pi_go (a b s i k:Nat) (d:Array α) (hs:s<5) (hK:scanSorted lt d b i=k) (ae:k≠b) (aa:¬b-a<50) :
 partialIns lt a b (5-s) i d=partialIns lt a b (5-(s+1)) k (fixUp lt b k (fixDown lt a k (swp d k (k-1)))):=by
 rw[show 5-s=(4-s)+1 by omega,partialIns_succ,hK,Zk ae,Zk aa,show 5-(s+1)=4-s by omega]
theorem pi_end (a b i:Nat) (d:Array α):partialIns lt a b (5-5) i d=(d,false):=rfl
end
theorem So.partialInsertionSort_int (blk off cap a b:Nat) (d:Array Int) (w:World) (hH:Holds (Value.int .i32) w blk off d) (bf:a<b) (hb:b≤d.size) (bc:d.size<4611686018427387904) :
 Calls prog 177 #[.slice (some ⟨blk,off,none⟩) d.size cap,.int .i64 a,.int .i64 b] w fun e w' =>
  e=.returned (.bool (Sort.partialInsertionSort ltInt d a b).2)∧∃n,w'=putRow (Value.int .i32) (Sort.ahead w n) blk off (Sort.partialInsertionSort ltInt d a b).1:=by
 have HH:Hid (Holds (Value.int .i32) w blk off d):=hH;have ax:Hid (w=putRow (Value.int .i32) (Sort.ahead w 0) blk off d):=(putRow_self _ _ _ _ _ hH).symm;clear hH;go_enter func177,ntmps177;go_wp2
 go_loopw [7,8] (fun vi vs wr=>∃(i s n:Nat) (dk:Array Int),vi=.int .i64 i∧vs=.int .i64 s∧s≤5∧a<i∧i≤b∧dk.size=d.size∧wr=putRow (Value.int .i32) (Sort.ahead w n) blk off dk ∧
  partialIns ltInt a b (5-s) i dk=partialIns ltInt a b 5 (a+1) d) (fun _ vs _=>5-(intOf vs).toNat)
 case atStart=>exact⟨a+1,0,0,d,by go_num,rfl,by omega,by omega,by omega,rfl,ax.out,rfl⟩
 obtain⟨i,s,n,dk,rfl,rfl,a1,a8,ay,av,az,hO⟩:=hrel;have HO:Hid (partialIns ltInt a b (5-s) i dk=partialIns ltInt a b 5 (a+1) d):=hO;clear hO;go_wp2
 ·
  have hs:s<5:=by omega
  go_loopw [7] (fun vi ag=>∃(k m:Nat),vi=.int .i64 k∧i≤k∧k≤b∧ag=putRow (Value.int .i32) (Sort.ahead w m) blk off dk∧scanSorted ltInt dk b k=scanSorted ltInt dk b i) (fun vi _=>b-(intOf vi).toNat)
  case atStart=>exact⟨i,n,rfl,Za _,ay,rfl,rfl⟩
  obtain⟨k,m,rfl,bb,ba,af,hS⟩:=hrel;obtain⟨G,hG⟩:∃G:Nat→Int,∀t,G t=dk[t]! := ⟨fun t=>dk[t]!,fun _=>rfl⟩
  have ai:∀t,t<d.size→wr.cell? ⟨blk,off+t,none⟩=some (.int .i32 (G t)):=fun t ht=>by
   rw[af,hG];exact cell?_putRow _ _ _ _ d dk (holds_ahead _ _ _ _ _ _ HH.out) av t (by omega)
  have aj:∀t,t<d.size→wr.frozen? ⟨blk,off+t,none⟩=false:=fun t ht=>by
   rw[af,frozen?_putRow];exact ((holds_ahead _ _ m _ _ _ HH.out) t ht).2
  have HW:Hid (wr=putRow (Value.int .i32) (Sort.ahead w m) blk off dk):=af;have HG:Hid (∀t,G t=dk[t]!):=hG;have HS:Hid (scanSorted ltInt dk b k=scanSorted ltInt dk b i):=hS;clear af hG hS;go_wp2
  by_cases hkb':k<b
  · go_quiet (
     first|(go_at_call 178;refine Calls.quiet_of_same (So.cmp_Less_int _ _ _)))
    go_wp2
    all_goals first
     | (at_end
        have hl:ltInt (G k) (G (k-1))=false:=by
         have h:(!ltInt (G k) (G (k-1)))=true:=by assumption
         simpa using h
        go_roundw
        case rel=>exact⟨k+1,m+nq,by go_num,by omega,by omega,by rw[HW.out];exact putRow_drewN _ _ _ _ _ _ _,by rw[←HS.out,scanSorted_go ltInt dk b k hkb' (by rw[←HG.out,←HG.out];exact hl)]⟩
        simp[intOf];omega)
     | (have hl:ltInt (
         G k) (G (k-1))=true:=by
         have h:(!ltInt (G k) (G (k-1)))=false:=by assumption
         simpa using h
        have HK:Hid (scanSorted ltInt dk b i=k):=by
         show scanSorted ltInt dk b i=k;rw[←HS.out,scanSorted_stop ltInt dk b k (Or.inr (by rw[←HG.out,←HG.out];exact hl))]
        first
         | (at_ret
            have hv:Sort.partialInsertionSort ltInt d a b=(dk,false):=by
             unfold Sort.partialInsertionSort;rw[←HO.out,pi_short ltInt a b s i dk hs (by rw[HK.out];omega) (by omega)]
            rw[hv];go_ret;exact⟨rfl,m+nq,by rw[HW.out];exact putRow_drewN _ _ _ _ _ _ _⟩)
         | (at_region 11
            have a7:¬b-a<50:=by omega
            go_region
            have aw:((wr.drewN (nq+1)).setCell ⟨blk,off+k,none⟩ (.int .i32 (G (k-1)))).setCell ⟨blk,off+(k-1),none⟩ (.int .i32 (G k))=putRow (Value.int .i32) (Sort.ahead w (m+(nq+1))) blk off (swp dk k (k-1)):=by
             rw[HW.out,HG.out,HG.out];exact swap_worldA _ w m (nq+1) blk off dk k (k-1) (by omega) (by omega)
            have ao:(swp dk k (k-1)).size=d.size:=by rw[size_swp];exact av
            go_wp2
            all_goals first
             | (at_loop
                have ar:k-a≥2:=by omega
                go_loopw [9] (fun vj ag=>∃(j m2:Nat) (dj:Array Int),vj=.int .i64 j∧j≤k-1∧dj.size=d.size∧ag=putRow (Value.int .i32) (Sort.ahead w m2) blk off dj ∧
                 shiftDown ltInt j dj=shiftDown ltInt (k-1) (swp dk k (k-1))) (fun vj _=>(intOf vj).toNat)
                case atStart=>exact⟨k-1,_,(swp dk k (k-1)),by congr 1;omega,Za _,ao,rfl,rfl⟩
                obtain⟨j,m2,dj,rfl,a6,ah,af,aq⟩:=hrel;obtain⟨G,hG⟩:∃G:Nat→Int,∀t,G t=dj[t]! := ⟨fun t=>dj[t]!,fun _=>rfl⟩
                have ai:∀t,t<d.size→wr.cell? ⟨blk,off+t,none⟩=some (.int .i32 (G t)):=fun t ht=>by
                 rw[af,hG];exact cell?_putRow _ _ _ _ d dj (holds_ahead _ _ _ _ _ _ HH.out) ah t (by omega)
                have aj:∀t,t<d.size→wr.frozen? ⟨blk,off+t,none⟩=false:=fun t ht=>by
                 rw[af,frozen?_putRow];exact ((holds_ahead _ _ m2 _ _ _ HH.out) t ht).2
                have HW:Hid (wr=putRow (Value.int .i32) (Sort.ahead w m2) blk off dj):=af;have HG:Hid (∀t,G t=dj[t]!):=hG;have ak:Hid (shiftDown ltInt j dj=shiftDown ltInt (k-1) (swp dk k (k-1))):=aq;clear af hG aq aw;go_wp2
                all_goals first
                 | (at_region 16
                    go_quiet (first|(go_at_call 178;refine Calls.quiet_of_same (So.cmp_Less_int _ _ _)));go_wp2
                    all_goals first
                     | (at_region 17
                        have hl:ltInt (G j) (G (j-1))=true:=by
                         have h:(!ltInt (G j) (G (j-1)))=false:=by assumption
                         simpa using h
                        go_region
                        all_goals go_wp2
                        go_roundw
                        case rel =>
                         refine⟨j-1,m2+(nq+1),swp dj j (j-1),by congr 1;omega,by omega,by rw[size_swp];exact ah,?_,?_⟩
                         · rw[HW.out,HG.out,HG.out];exact swap_worldA _ w m2 (nq+1) blk off dj j (j-1) (by omega) (by omega)
                         rw[←ak.out,shiftDown_go ltInt j dj (by omega) (by rw[←HG.out,←HG.out];exact hl)]
                        simp[intOf];omega)
                     | (
                        have hl:ltInt (G j) (G (j-1))=false:=by
                         have h:(!ltInt (G j) (G (j-1)))=true:=by assumption
                         simpa using h
                        have HD:Hid (fixDown ltInt a k (swp dk k (k-1))=dj):=by
                         show fixDown ltInt a k (swp dk k (k-1))=dj;unfold fixDown;rw[if_pos ar,←ak.out,shiftDown_stop ltInt j dj (Or.inr (by rw[←HG.out,←HG.out];exact hl))]
                        first
                         | (at_end
                            go_roundw
                            case rel =>
                             refine⟨k,s+1,_,dj,rfl,by go_num,by omega,by omega,by omega,ah,(by first|rfl|exact HW.out|(rw[HW.out];exact putRow_drewN _ _ _ _ _ _ _)),?_⟩;rw[←HO.out,pi_go ltInt a b s i k dk hs HK.out (by omega) (by omega),HD.out,show fixUp ltInt b k dj=dj from by unfold fixUp;rw[if_neg (by omega)]]
                            simp[intOf];omega)
                         | (at_loop
                            go_loopw [10] (fun vj ag=>∃(j m3:Nat) (du:Array Int),vj=.int .i64 j∧k+1≤j∧j≤b∧du.size=d.size∧ag=putRow (Value.int .i32) (Sort.ahead w m3) blk off du ∧
                             shiftUp ltInt b j du=shiftUp ltInt b (k+1) dj) (fun vj _=>b-(intOf vj).toNat)
                            case atStart=>exact⟨k+1,_,dj,by go_num,Za _,by omega,ah,(by first|rfl|exact HW.out|(rw[HW.out];exact putRow_drewN _ _ _ _ _ _ _)),rfl⟩
                            obtain⟨j,m3,du,rfl,ap,au,ae,aa,hU⟩:=hrel;obtain⟨G,hG⟩:∃G:Nat→Int,∀t,G t=du[t]! := ⟨fun t=>du[t]!,fun _=>rfl⟩
                            have ai:∀t,t<d.size→wr.cell? ⟨blk,off+t,none⟩=some (.int .i32 (G t)):=fun t ht=>by
                             rw[aa,hG];exact cell?_putRow _ _ _ _ d du (holds_ahead _ _ _ _ _ _ HH.out) ae t (by omega)
                            have aj:∀t,t<d.size→wr.frozen? ⟨blk,off+t,none⟩=false:=fun t ht=>by
                             rw[aa,frozen?_putRow];exact ((holds_ahead _ _ m3 _ _ _ HH.out) t ht).2
                            have HW:Hid (wr=putRow (Value.int .i32) (Sort.ahead w m3) blk off du):=aa;have HG:Hid (∀t,G t=du[t]!):=hG;have HU:Hid (shiftUp ltInt b j du=shiftUp ltInt b (k+1) dj):=hU;clear aa hG hU;go_wp2
                            all_goals first
                             | (at_region 22
                                go_quiet (first|(go_at_call 178;refine Calls.quiet_of_same (So.cmp_Less_int _ _ _)));go_wp2
                                all_goals first
                                 | (at_region 23
                                    have hl:ltInt (G j) (G (j-1))=true:=by
                                     have h:(!ltInt (G j) (G (j-1)))=false:=by assumption
                                     simpa using h
                                    go_region
                                    all_goals go_wp2
                                    go_roundw
                                    case rel =>
                                     refine⟨j+1,m3+(nq+1),swp du j (j-1),by go_num,by omega,by omega,by rw[size_swp];exact ae,?_,?_⟩
                                     · rw[HW.out,HG.out,HG.out];exact swap_worldA _ w m3 (nq+1) blk off du j (j-1) (by omega) (by omega)
                                     rw[←HU.out,shiftUp_go ltInt b j du (by omega) (by rw[←HG.out,←HG.out];exact hl)]
                                    simp[intOf];omega)
                                 | (at_end
                                    have hl:ltInt (G j) (G (j-1))=false:=by
                                     have h:(!ltInt (G j) (G (j-1)))=true:=by assumption
                                     simpa using h
                                    go_roundw
                                    case rel =>
                                     refine⟨k,s+1,_,du,rfl,by go_num,by omega,by omega,by omega,ae,(by first|rfl|exact HW.out|(rw[HW.out];exact putRow_drewN _ _ _ _ _ _ _)),?_⟩;rw[←HO.out,pi_go ltInt a b s i k dk hs HK.out (by omega) (by omega),HD.out,show fixUp ltInt b k dj=du from by unfold fixUp;rw[if_pos (by omega),←HU.out,shiftUp_stop ltInt b j du (Or.inr (by rw[←HG.out,←HG.out];exact hl))]]
                                    simp[intOf];omega))
                             | (at_end
                                go_roundw
                                case rel =>
                                 refine⟨k,s+1,_,du,rfl,by go_num,by omega,by omega,by omega,ae,(by first|rfl|exact HW.out|(rw[HW.out];exact putRow_drewN _ _ _ _ _ _ _)),?_⟩;rw[←HO.out,pi_go ltInt a b s i k dk hs HK.out (by omega) (by omega),HD.out,show fixUp ltInt b k dj=du from by unfold fixUp;rw[if_pos (by omega),←HU.out,shiftUp_stop ltInt b j du (Or.inl (by omega))]]
                                simp[intOf];omega))))
                 | (
                    have HD:Hid (fixDown ltInt a k (swp dk k (k-1))=dj):=by
                     show fixDown ltInt a k (swp dk k (k-1))=dj;unfold fixDown;rw[if_pos ar,←ak.out,shiftDown_stop ltInt j dj (Or.inl (by omega))]
                    first
                     | (at_end
                        go_roundw
                        case rel =>
                         refine⟨k,s+1,_,dj,rfl,by go_num,by omega,by omega,by omega,ah,(by first|rfl|exact HW.out|(rw[HW.out];exact putRow_drewN _ _ _ _ _ _ _)),?_⟩;rw[←HO.out,pi_go ltInt a b s i k dk hs HK.out (by omega) (by omega),HD.out,show fixUp ltInt b k dj=dj from by unfold fixUp;rw[if_neg (by omega)]]
                        simp[intOf];omega)
                     | (at_loop
                        go_loopw [10] (fun vj ag=>∃(j m3:Nat) (du:Array Int),vj=.int .i64 j∧k+1≤j∧j≤b∧du.size=d.size∧ag=putRow (Value.int .i32) (Sort.ahead w m3) blk off du ∧
                         shiftUp ltInt b j du=shiftUp ltInt b (k+1) dj) (fun vj _=>b-(intOf vj).toNat)
                        case atStart=>exact⟨k+1,_,dj,by go_num,Za _,by omega,ah,(by first|rfl|exact HW.out|(rw[HW.out];exact putRow_drewN _ _ _ _ _ _ _)),rfl⟩
                        obtain⟨j,m3,du,rfl,ap,au,ae,aa,hU⟩:=hrel;obtain⟨G,hG⟩:∃G:Nat→Int,∀t,G t=du[t]! := ⟨fun t=>du[t]!,fun _=>rfl⟩
                        have ai:∀t,t<d.size→wr.cell? ⟨blk,off+t,none⟩=some (.int .i32 (G t)):=fun t ht=>by
                         rw[aa,hG];exact cell?_putRow _ _ _ _ d du (holds_ahead _ _ _ _ _ _ HH.out) ae t (by omega)
                        have aj:∀t,t<d.size→wr.frozen? ⟨blk,off+t,none⟩=false:=fun t ht=>by
                         rw[aa,frozen?_putRow];exact ((holds_ahead _ _ m3 _ _ _ HH.out) t ht).2
                        have HW:Hid (wr=putRow (Value.int .i32) (Sort.ahead w m3) blk off du):=aa;have HG:Hid (∀t,G t=du[t]!):=hG;have HU:Hid (shiftUp ltInt b j du=shiftUp ltInt b (k+1) dj):=hU;clear aa hG hU;go_wp2
                        all_goals first
                         | (at_region 22
                            go_quiet (first|(go_at_call 178;refine Calls.quiet_of_same (So.cmp_Less_int _ _ _)));go_wp2
                            all_goals first
                             | (at_region 23
                                have hl:ltInt (G j) (G (j-1))=true:=by
                                 have h:(!ltInt (G j) (G (j-1)))=false:=by assumption
                                 simpa using h
                                go_region
                                all_goals go_wp2
                                go_roundw
                                case rel =>
                                 refine⟨j+1,m3+(nq+1),swp du j (j-1),by go_num,by omega,by omega,by rw[size_swp];exact ae,?_,?_⟩
                                 · rw[HW.out,HG.out,HG.out];exact swap_worldA _ w m3 (nq+1) blk off du j (j-1) (by omega) (by omega)
                                 rw[←HU.out,shiftUp_go ltInt b j du (by omega) (by rw[←HG.out,←HG.out];exact hl)]
                                simp[intOf];omega)
                             | (at_end
                                have hl:ltInt (G j) (G (j-1))=false:=by
                                 have h:(!ltInt (G j) (G (j-1)))=true:=by assumption
                                 simpa using h
                                go_roundw
                                case rel =>
                                 refine⟨k,s+1,_,du,rfl,by go_num,by omega,by omega,by omega,ae,(by first|rfl|exact HW.out|(rw[HW.out];exact putRow_drewN _ _ _ _ _ _ _)),?_⟩;rw[←HO.out,pi_go ltInt a b s i k dk hs HK.out (by omega) (by omega),HD.out,show fixUp ltInt b k dj=du from by unfold fixUp;rw[if_pos (by omega),←HU.out,shiftUp_stop ltInt b j du (Or.inr (by rw[←HG.out,←HG.out];exact hl))]]
                                simp[intOf];omega))
                         | (at_end
                            go_roundw
                            case rel =>
                             refine⟨k,s+1,_,du,rfl,by go_num,by omega,by omega,by omega,ae,(by first|rfl|exact HW.out|(rw[HW.out];exact putRow_drewN _ _ _ _ _ _ _)),?_⟩;rw[←HO.out,pi_go ltInt a b s i k dk hs HK.out (by omega) (by omega),HD.out,show fixUp ltInt b k dj=du from by unfold fixUp;rw[if_pos (by omega),←HU.out,shiftUp_stop ltInt b j du (Or.inl (by omega))]]
                            simp[intOf];omega))))
             | (
                have HD:Hid (fixDown ltInt a k (swp dk k (k-1))=(swp dk k (k-1))):=by
                 show fixDown ltInt a k (swp dk k (k-1))=(swp dk k (k-1));unfold fixDown;rw[if_neg (by omega)]
                first
                 | (at_end
                    go_roundw
                    case rel =>
                     refine⟨k,s+1,_,(swp dk k (k-1)),rfl,by go_num,by omega,by omega,by omega,ao,(by first|rfl|exact HW.out|(rw[HW.out];exact putRow_drewN _ _ _ _ _ _ _)),?_⟩;rw[←HO.out,pi_go ltInt a b s i k dk hs HK.out (by omega) (by omega),HD.out,show fixUp ltInt b k (swp dk k (k-1))=(swp dk k (k-1)) from by unfold fixUp;rw[if_neg (by omega)]]
                    simp[intOf];omega)
                 | (at_loop
                    go_loopw [10] (fun vj ag=>∃(j m3:Nat) (du:Array Int),vj=.int .i64 j∧k+1≤j∧j≤b∧du.size=d.size∧ag=putRow (Value.int .i32) (Sort.ahead w m3) blk off du ∧
                     shiftUp ltInt b j du=shiftUp ltInt b (k+1) (swp dk k (k-1))) (fun vj _=>b-(intOf vj).toNat)
                    case atStart=>exact⟨k+1,_,(swp dk k (k-1)),by go_num,Za _,by omega,ao,(by first|rfl|exact HW.out|(rw[HW.out];exact putRow_drewN _ _ _ _ _ _ _)),rfl⟩
                    obtain⟨j,m3,du,rfl,ap,au,ae,aa,hU⟩:=hrel;obtain⟨G,hG⟩:∃G:Nat→Int,∀t,G t=du[t]! := ⟨fun t=>du[t]!,fun _=>rfl⟩
                    have ai:∀t,t<d.size→wr.cell? ⟨blk,off+t,none⟩=some (.int .i32 (G t)):=fun t ht=>by
                     rw[aa,hG];exact cell?_putRow _ _ _ _ d du (holds_ahead _ _ _ _ _ _ HH.out) ae t (by omega)
                    have aj:∀t,t<d.size→wr.frozen? ⟨blk,off+t,none⟩=false:=fun t ht=>by
                     rw[aa,frozen?_putRow];exact ((holds_ahead _ _ m3 _ _ _ HH.out) t ht).2
                    have HW:Hid (wr=putRow (Value.int .i32) (Sort.ahead w m3) blk off du):=aa;have HG:Hid (∀t,G t=du[t]!):=hG;have HU:Hid (shiftUp ltInt b j du=shiftUp ltInt b (k+1) (swp dk k (k-1))):=hU;clear aa hG hU;go_wp2
                    all_goals first
                     | (at_region 22
                        go_quiet (first|(go_at_call 178;refine Calls.quiet_of_same (So.cmp_Less_int _ _ _)));go_wp2
                        all_goals first
                         | (at_region 23
                            have hl:ltInt (G j) (G (j-1))=true:=by
                             have h:(!ltInt (G j) (G (j-1)))=false:=by assumption
                             simpa using h
                            go_region
                            all_goals go_wp2
                            go_roundw
                            case rel =>
                             refine⟨j+1,m3+(nq+1),swp du j (j-1),by go_num,by omega,by omega,by rw[size_swp];exact ae,?_,?_⟩
                             · rw[HW.out,HG.out,HG.out];exact swap_worldA _ w m3 (nq+1) blk off du j (j-1) (by omega) (by omega)
                             rw[←HU.out,shiftUp_go ltInt b j du (by omega) (by rw[←HG.out,←HG.out];exact hl)]
                            simp[intOf];omega)
                         | (at_end
                            have hl:ltInt (G j) (G (j-1))=false:=by
                             have h:(!ltInt (G j) (G (j-1)))=true:=by assumption
                             simpa using h
                            go_roundw
                            case rel =>
                             refine⟨k,s+1,_,du,rfl,by go_num,by omega,by omega,by omega,ae,(by first|rfl|exact HW.out|(rw[HW.out];exact putRow_drewN _ _ _ _ _ _ _)),?_⟩;rw[←HO.out,pi_go ltInt a b s i k dk hs HK.out (by omega) (by omega),HD.out,show fixUp ltInt b k (swp dk k (k-1))=du from by unfold fixUp;rw[if_pos (by omega),←HU.out,shiftUp_stop ltInt b j du (Or.inr (by rw[←HG.out,←HG.out];exact hl))]]
                            simp[intOf];omega))
                     | (at_end
                        go_roundw
                        case rel =>
                         refine⟨k,s+1,_,du,rfl,by go_num,by omega,by omega,by omega,ae,(by first|rfl|exact HW.out|(rw[HW.out];exact putRow_drewN _ _ _ _ _ _ _)),?_⟩;rw[←HO.out,pi_go ltInt a b s i k dk hs HK.out (by omega) (by omega),HD.out,show fixUp ltInt b k (swp dk k (k-1))=du from by unfold fixUp;rw[if_pos (by omega),←HU.out,shiftUp_stop ltInt b j du (Or.inl (by omega))]]
                        simp[intOf];omega)))))
  ·
   go_quiet (first|(go_at_call 178;refine Calls.quiet_of_same (So.cmp_Less_int _ _ _)));go_wp2;obtain rfl:k=b:=by omega
   have hv:Sort.partialInsertionSort ltInt d a k=(dk,true):=by
    unfold Sort.partialInsertionSort;rw[←HO.out,pi_true ltInt a k s i dk hs (by rw[←HS.out,scanSorted_stop ltInt dk k k (Or.inl (by omega))])]
   rw[hv];go_ret;exact⟨rfl,m+nq,by rw[HW.out];exact putRow_drewN _ _ _ _ _ _ _⟩
 ·
  obtain rfl:s=5:=by omega
  have hv:Sort.partialInsertionSort ltInt d a b=(dk,false):=by
   unfold Sort.partialInsertionSort;rw[←HO.out,pi_end]
  rw[hv];go_ret;exact⟨rfl,n,rfl⟩
section
variable {α:Type} [Inhabited α]
def zGF (a L M i0:Nat):Nat→Nat→UInt64 × Array α→Array α
 | 0,_,st=>st.2
 | k+1,t,st=>zGF a L M i0 k (t+1) (breakStep a L M st (i0+t))
theorem zIr (d:Array α) (a L:Nat) (h8:8≤L):breakPatterns d a (a+L)=zGF a L (1 <<< bitsLen L) (a+L/4*2-1) 3 0 (UInt64.ofNat L,d):=by
 unfold breakPatterns;simp only[Qh];rw[Zl h8];rfl
theorem zRn (a L M i0 t:Nat) (r:UInt64) (d:Array α) (o:Nat) (ht:t<3) (ho:(if (xorNext r).toNat &&& (M-1)≥L then ((xorNext r).toNat &&& (M-1))-L else (xorNext r).toNat &&& (M-1))=o) :
 zGF a L M i0 (3-t) t (r,d)=zGF a L M i0 (3-(t+1)) (t+1) (xorNext r,swp d (i0+t) (a+o)):=by
 rw[show 3-t=(3-(t+1))+1 by omega,zGF];unfold breakStep;simp only[ho]
theorem zLm (X:World) (v:Value) (T:TypeId):(grow X #[Obj.cells #[v] T]).cell? ⟨X.heap.size,0,none⟩=some v:=by
 rw[←alloc_eq_grow,World.cell?_alloc_at _ _ _ _ rfl];rfl
theorem zJd (X:World) (v:Value) (T:TypeId):(grow X #[Obj.cells #[v] T]).frozen? ⟨X.heap.size,0,none⟩=false:=by
 rw[←alloc_eq_grow,World.frozen?_alloc_at _ _ _ _ rfl]
theorem zHR (X:World) (os:Array Obj) (blk off:Nat) (v:Value) (h:blk<X.heap.size):(grow X os).setCell ⟨blk,off,none⟩ v=grow (X.setCell ⟨blk,off,none⟩ v) os:=by
 rw[setCell_eq,setCell_eq,mapBlock_grow _ _ _ _ h]
theorem zIs (X:World) (u v:Value) (T:TypeId):(grow X #[Obj.cells #[u] T]).setCell ⟨X.heap.size,0,none⟩ v=grow X #[Obj.cells #[v] T]:=by
 rw[setCell_eq,mapBlock_grow_new _ _ _ _ (Za _)];simp[onCells]
theorem zKz (enc:α→Value) (w:World) (n q blk off:Nat) (d:Array α) (j k:Nat) (aa:blk<w.heap.size) (hj:j<d.size) (hk:k<d.size) (u v:Value) (T:TypeId) :
 ((((grow (putRow enc (Sort.ahead w n) blk off d) #[Obj.cells #[u] T]).setCell ⟨w.heap.size,0,none⟩ v).drewN q).setCell ⟨blk,off+j,none⟩ (enc d[k]!)).setCell ⟨blk,off+k,none⟩ (enc d[j]!) =
   grow (putRow enc (Sort.ahead w (n+q)) blk off (swp d j k)) #[Obj.cells #[v] T]:=by
 have hz:(putRow enc (Sort.ahead w n) blk off d).heap.size=w.heap.size:=by simp
 rw[←hz,zIs,show (grow (putRow enc (Sort.ahead w n) blk off d) #[Obj.cells #[v] T]).drewN q=grow ((putRow enc (Sort.ahead w n) blk off d).drewN q) #[Obj.cells #[v] T] from rfl,putRow_drewN,
  zHR _ _ _ _ _ (by simpa using aa),zHR _ _ _ _ _ (by simpa using aa),putRow_swp enc _ blk off d j k hj hk]
end
theorem zEp (blk off cap a L:Nat) (d:Array Int) (w:World) (hH:Holds (Value.int .i32) w blk off d) (aa:blk<w.heap.size) (hb:a+L≤d.size) (ay:d.size<4611686018427387904) (h8:8≤L) :
 Calls prog 174 #[.slice (some ⟨blk,off,none⟩) d.size cap,.int .i64 a,.int .i64 ((a+L:Nat):Int)] w fun e w' =>
  e=.returned (.tuple #[])∧∃n os,w'=grow (putRow (Value.int .i32) (Sort.ahead w n) blk off (breakPatterns d a (a+L))) os:=by
 rw[zIr d a L h8];obtain⟨M,hM⟩:∃M:Nat,M=1 <<< bitsLen L:=⟨_,rfl⟩;have aw:1≤M:=by rw[hM,QX];exact Nat.two_pow_pos _
 have au:M≤2*L:=by rw[hM,QX];exact two_pow_bitsLen_le (by omega)
 have ao:∀w,Calls prog 213 #[.int .i64 (L:Int)] w fun e w'=>e=.returned (.int .u64 (M:Int))∧w'=w:=by rw[hM];exact fun w=>zHo L (by omega) w
 rw[←hM];clear hM;have HH:Hid (Holds (Value.int .i32) w blk off d):=hH
 have ar:Hid (w.alloc (Obj.cells #[.int .u64 (L:Int)] 302)=grow (putRow (Value.int .i32) (Sort.ahead w 0) blk off d) #[Obj.cells #[.int .u64 ((UInt64.ofNat L).toNat:Int)] 302]):=by
  show _=_;rw[show Sort.ahead w 0=w from rfl,putRow_self _ _ _ _ _ hH,alloc_eq_grow,show (UInt64.ofNat L).toNat=L from by simp;omega]
 clear hH;go_enter func174,ntmps174;go_wp2_with (first|(go_at_call 213;rw[show ((a:Int)+(L:Int)-(a:Int))=(L:Int) by omega];refine (ao _).mono ?_;rintro e w' ⟨rfl,rfl⟩))
 go_loopw [9] (fun vi wr=>∃(t n:Nat) (r:UInt64) (dk:Array Int),vi=.int .i64 ((a+L/4*2-1+t:Nat):Int)∧t≤3∧dk.size=d.size ∧
  wr=grow (putRow (Value.int .i32) (Sort.ahead w n) blk off dk) #[Obj.cells #[.int .u64 (r.toNat:Int)] 302] ∧
  zGF a L M (a+L/4*2-1) (3-t) t (r,dk)=zGF a L M (a+L/4*2-1) 3 0 (UInt64.ofNat L,d)) (fun vi _=>a+L/4*2+3-(intOf vi).toNat)
 case atStart=>exact⟨0,0,UInt64.ofNat L,d,by congr 1;omega,by omega,rfl,ar.out,rfl⟩
 obtain⟨t,n,r,dk,rfl,ht,ah,hw,hR⟩:=hrel;obtain⟨R,af⟩:∃R:Nat,R=r.toNat:=⟨_,rfl⟩;have lR:R<18446744073709551616:=by rw[af];exact r.toNat_lt
 obtain⟨R',ag⟩:∃R':Nat,R'=xorNextN R:=⟨_,rfl⟩;have ap:R'<18446744073709551616:=by rw[ag];exact xorNextN_lt R lR
 obtain⟨O,hO⟩:∃O:Nat,O=R' &&& (M-1):=⟨_,rfl⟩;have lO:O≤M-1:=by rw[hO];exact Nat.and_le_right
 have aj:bits .and .u64 (R':Int) ((M:Int)-1)=(O:Int):=by
  rw[show ((M:Int)-1)=((M-1:Nat):Int) by omega,bits_and_u64_nat _ _ ap (by omega),hO]
 obtain⟨G,hG⟩:∃G:Nat→Int,∀x,G x=dk[x]! := ⟨fun x=>dk[x]!,fun _=>rfl⟩;have hz:(putRow (Value.int .i32) (Sort.ahead w n) blk off dk).heap.size=w.heap.size:=by simp
 have av:∀x,x<d.size→wr.cell? ⟨blk,off+x,none⟩=some (.int .i32 (G x)):=fun x hx=>by
  rw[hw,cell?_grow _ _ _ (by rw[hz];exact aa),hG];exact cell?_putRow _ _ _ _ d dk (holds_ahead _ _ _ _ _ _ HH.out) ah x (by omega)
 have ax:∀x,x<d.size→wr.frozen? ⟨blk,off+x,none⟩=false:=fun x hx=>by
  rw[hw,frozen?_grow _ _ _ (by rw[hz];exact aa),frozen?_putRow];exact ((holds_ahead _ _ n _ _ _ HH.out) x hx).2
 have aq:wr.cell? ⟨w.heap.size,0,none⟩=some (.int .u64 (R:Int)):=by rw[hw,af,←hz];exact zLm _ _ _
 have ai:wr.frozen? ⟨w.heap.size,0,none⟩=false:=by rw[hw,←hz];exact zJd _ _ _
 have ae:Calls prog 214 #[.pointer (some ⟨w.heap.size,0,none⟩)] wr fun e w'=>e=.returned (.int .u64 (R':Int))∧w'=(wr.setCell ⟨w.heap.size,0,none⟩ (.int .u64 (R':Int))).drewN 3:=by
  rw[ag];exact zIq _ _ R lR wr aq ai
 have HW:Hid (wr=grow (putRow (Value.int .i32) (Sort.ahead w n) blk off dk) #[Obj.cells #[.int .u64 (r.toNat:Int)] 302]):=hw;have HG:Hid (∀x,G x=dk[x]!):=hG;have HR:Hid (zGF a L M (a+L/4*2-1) (3-t) t (r,dk)=zGF a L M (a+L/4*2-1) 3 0 (UInt64.ofNat L,d)):=hR
 have HN:Hid (R'=(xorNext r).toNat∧O=(xorNext r).toNat &&& (M-1)):=by
  have e:R'=(xorNext r).toNat:=by rw[ag,af,xorNext_toNat]
  exact⟨e,by rw[hO,e]⟩
 clear hw hG hR af ag hO;go_wp2_with (first|(go_at_call 214;refine ae.mono ?_;rintro e w' ⟨rfl,rfl⟩))
 ·
  have ak:L≤O:=by omega
  by_cases hEq:a+L/4*2-1+t=a+(O-L)
  all_goals
   go_region
   all_goals go_wp2
   go_roundw
   case measure=>simp[intOf];omega
   refine⟨t+1,n+4,xorNext r,swp dk (a+L/4*2-1+t) (a+(O-L)),by first|rfl|(congr 1 <;> omega),by omega,by rw[size_swp];exact ah,?_,?_⟩
   · (try rw[hEq])
     rw[HW.out,HN.out.1];simp only[HG.out];exact zKz (Value.int .i32) w n 4 blk off dk _ _ aa (by omega) (by omega) _ _ _
   rw[←HR.out,zRn a L M _ t r dk (O-L) (by omega) (by rw[←HN.out.2,Zl (by omega)])]
 · have ak:¬L≤O:=by omega
   by_cases hEq:a+L/4*2-1+t=a+O
   all_goals
    go_region
    all_goals go_wp2
    go_roundw
    case measure=>simp[intOf];omega
    refine⟨t+1,n+4,xorNext r,swp dk (a+L/4*2-1+t) (a+O),by first|rfl|(congr 1 <;> omega),by omega,by rw[size_swp];exact ah,?_,?_⟩
    · (try rw[hEq])
      rw[HW.out,HN.out.1];simp only[HG.out];exact zKz (Value.int .i32) w n 4 blk off dk _ _ aa (by omega) (by omega) _ _ _
    rw[←HR.out,zRn a L M _ t r dk O (by omega) (by rw[←HN.out.2,Zk (by omega)])]
 ·
  obtain rfl:t=3:=by omega
  go_end0;exact⟨rfl,n,_,by rw[←HR.out,HW.out];rfl⟩
theorem zFQ (blk off cap a b:Nat) (d:Array Int) (w:World) (hH:Holds (Value.int .i32) w blk off d) (aa:blk<w.heap.size) (ag:a≤b) (hb:b≤d.size) (ae:d.size<4611686018427387904) :
 Calls prog 174 #[.slice (some ⟨blk,off,none⟩) d.size cap,.int .i64 a,.int .i64 b] w fun e w' =>
  e=.returned (.tuple #[])∧∃n os,w'=grow (putRow (Value.int .i32) (Sort.ahead w n) blk off (breakPatterns d a b)) os:=by
 obtain⟨L,rfl⟩:∃L,b=a+L:=⟨b-a,by omega⟩
 by_cases h8:8≤L
 · exact zEp blk off cap a L d w hH aa hb ae h8
 have hv:breakPatterns d a (a+L)=d:=by unfold breakPatterns;simp only[Nat.add_sub_cancel_left];rw[if_neg h8]
 rw[hv]
 have af:Hid (w=grow (putRow (Value.int .i32) (Sort.ahead w 0) blk off d) #[]):=by
  show _=_;rw[grow_empty,show Sort.ahead w 0=w from rfl,putRow_self _ _ _ _ _ hH]
 clear hH;go_enter func174,ntmps174;go_wp2;go_end0;exact⟨rfl,0,#[],af.out⟩
end
section
open Go.Sort Go.RowKit
abbrev one (s:Nat):Array Int := #[(s:Int)]
theorem zPk {w:World} {sb so s:Nat} (h:Holds (Value.int .i64) w sb so (one s)):w.cell? ⟨sb,so,none⟩=some (.int .i64 s)∧w.frozen? ⟨sb,so,none⟩=false:=by simpa using h 0 (by simp)
theorem zSW {w:World} {sb so s:Nat} (h:Holds (Value.int .i64) w sb so (one s)) (t:Nat):w.setCell ⟨sb,so,none⟩ (.int .i64 t)=putRow (Value.int .i64) w sb so (one t):=by
 have:=putRow_set (Value.int .i64) w sb so (one s) 0 (t:Int) (by simp);rw[putRow_self _ _ _ _ _ h]at this;simpa using this
theorem zD7 {w:World} {blk off sb so n t:Nat} {d:Array Int} (h:Holds (Value.int .i32) w blk off d) (hne:sb≠blk):Holds (Value.int .i32) (putRow (Value.int .i64) (Sort.ahead w n) sb so (one t)) blk off d:=fun j hj =>
 ⟨by rw[cell?_putRow_other _ _ _ _ _ _ (Or.inl (Yc hne))];exact (h j hj).1,by rw[frozen?_putRow];exact (h j hj).2⟩
theorem zLn (w:World) (n m sb so s t:Nat):putRow (Value.int .i64) (Sort.ahead (putRow (Value.int .i64) (Sort.ahead w n) sb so (one s)) m) sb so (one t)=putRow (Value.int .i64) (Sort.ahead w (n+m)) sb so (one t) :=
 putRow_ahead_putRow _ _ _ _ _ _ _ _ rfl
theorem zEq (d:Array Int) (len:Nat) (hlen:d.size=len) (blk off cap a b sb so s:Nat) (w:World) (hH:Holds (Value.int .i32) w blk off d) (ha:a<d.size) (hb:b<d.size)
 (hS:Holds (Value.int .i64) w sb so (one s)) (hs:s<2 ^ 62) :
 Calls prog 239 #[.slice (some ⟨blk,off,none⟩) len cap,.int .i64 a,.int .i64 b,.pointer (some ⟨sb,so,none⟩)] w fun e w' =>
  e=.returned (.tuple #[.int .i64 (order2 ltInt d a b s).1,.int .i64 (order2 ltInt d a b s).2.1])∧∃n,w'=putRow (Value.int .i64) (Sort.ahead w n) sb so (one (order2 ltInt d a b s).2.2):=by
 subst hlen;replace hs:s<4611686018427387904:=by omega
 have ca:=(hH a ha).1;have cb:=(hH b hb).1;obtain⟨cs,fs⟩:=zPk hS;have ea:d[a]! = d[a]:=Kb d a ha;have eb:d[b]! = d[b]:=Kb d b hb;go_enter func239,ntmps239;go_wp2;go_region_with (go_at_call 178;refine (So.cmp_Less_int _ _ _).mono ?_;rintro e w' ⟨rfl,rfl⟩)
 all_goals (try go_wp2)
 all_goals first
  | (have aa:ltInt d[b] d[a]=true:=by assumption
     have e2:order2 ltInt d a b s=(b,a,s+1):=by simp[order2,ea,eb,aa]
     go_ret2;rw[e2];refine⟨rfl,1,?_⟩;rw[putRow_ahead,←zSW hS (s+1)];simp[drew_eq_ahead])
  | (have aa:ltInt d[b] d[a]=false:=by assumption
     have e2:order2 ltInt d a b s=(a,b,s):=by simp[order2,ea,eb,aa]
     go_ret2;rw[e2];refine⟨rfl,1,?_⟩;rw[putRow_ahead,putRow_self _ _ _ _ _ hS];rfl)
theorem zMJ (d:Array Int) {a b n:Nat} (s:Nat) (ha:a<n) (hb:b<n):(order2 ltInt d a b s).1<n∧(order2 ltInt d a b s).2.1<n:=by
 have:=order2_mem ltInt d a b s;omega
theorem zHS (d:Array Int) (a b s:Nat):(order2 ltInt d a b s).2.2≤s+1:=by
 unfold order2;split <;> simp
theorem zE1 {w:World} {sb so s n t:Nat} (h:Holds (Value.int .i64) w sb so (one s)):Holds (Value.int .i64) (putRow (Value.int .i64) (Sort.ahead w n) sb so (one t)) sb so (one t) :=
 holds_putRow _ _ _ _ (one s) (one t) (holds_ahead _ _ _ _ _ _ h) rfl
theorem zGG (d:Array Int) (len:Nat) (hlen:d.size=len) (blk off cap a b c sb so s:Nat) (w:World) (hH:Holds (Value.int .i32) w blk off d) (ha:a<d.size) (hb:b<d.size) (hc:c<d.size) (hne:sb≠blk)
 (hS:Holds (Value.int .i64) w sb so (one s)) (hs:s+3<2 ^ 62) :
 Calls prog 216 #[.slice (some ⟨blk,off,none⟩) len cap,.int .i64 a,.int .i64 b,.int .i64 c,.pointer (some ⟨sb,so,none⟩)] w fun e w' =>
  e=.returned (.int .i64 (median ltInt d a b c s).1)∧∃n,w'=putRow (Value.int .i64) (Sort.ahead w n) sb so (one (median ltInt d a b c s).2):=by
 subst hlen;have l1:=zMJ d s ha hb;have s1:=zHS d a b s;have l2:=zMJ d (order2 ltInt d a b s).2.2 l1.2 hc;have s2:=zHS d (order2 ltInt d a b s).2.1 c (order2 ltInt d a b s).2.2;go_enter func216,ntmps216;go_wp2_with (go_at_call_of 239 (Value.int .i64 (b:Int));refine (zEq d _ rfl blk off cap a b sb so s w hH ha hb hS (by omega)).mono ?_;rintro e w' ⟨rfl,n1,rfl⟩);go_wp2_with (go_at_call_of 239 (Value.int .i64 (c:Int));refine (zEq d _ rfl blk off cap (order2 ltInt d a b s).2.1 c sb so (order2 ltInt d a b s).2.2 _ (zD7 hH hne) l1.2 hc (zE1 hS) (by omega)).mono ?_;rintro e w' ⟨rfl,n2,rfl⟩)
 go_wp2_with (go_at_call_of 239 (Value.int .i64 ((order2 ltInt d a b s).1:Int));refine (zEq d _ rfl blk off cap (order2 ltInt d a b s).1 (order2 ltInt d (order2 ltInt d a b s).2.1 c (order2 ltInt d a b s).2.2).1 sb so (order2 ltInt d (order2 ltInt d a b s).2.1 c (order2 ltInt d a b s).2.2).2.2 _
  (zD7 (zD7 hH hne) hne) l1.1 l2.1 (zE1 (zE1 hS)) (by omega)).mono ?_;rintro e w' ⟨rfl,n3,rfl⟩)
 go_ret;refine⟨rfl,n1+(n2+n3),?_⟩;rw[zLn,zLn];rfl
theorem zF0 (d:Array Int) (len:Nat) (hlen:d.size=len) (blk off cap a sb so s:Nat) (w:World) (hH:Holds (Value.int .i32) w blk off d) (ha0:1≤a) (ha:a+1<d.size) (aa:d.size<2 ^ 62) (hne:sb≠blk)
 (hS:Holds (Value.int .i64) w sb so (one s)) (hs:s+3<2 ^ 62) :
 Calls prog 215 #[.slice (some ⟨blk,off,none⟩) len cap,.int .i64 a,.pointer (some ⟨sb,so,none⟩)] w fun e w' =>
  e=.returned (.int .i64 (medianAdjacent ltInt d a s).1)∧∃n,w'=putRow (Value.int .i64) (Sort.ahead w n) sb so (one (medianAdjacent ltInt d a s).2):=by
 subst hlen;replace aa:d.size<4611686018427387904:=by omega
 go_enter func215,ntmps215;go_wp2_with (go_at_call 216;rw[show ((a:Int)-1)=((a-1:Nat):Int) by omega,show ((a:Int)+1)=((a+1:Nat):Int) by omega];refine (zGG d _ rfl blk off cap (a-1) a (a+1) sb so s w hH (by omega) (by omega) ha hne hS hs).mono ?_;rintro e w' ⟨rfl,n1,rfl⟩);go_ret;exact⟨rfl,n1,rfl⟩
theorem zCU {x y:Int} (h:(x == y)=true):x=y:=by simpa using h
theorem zCV {x y:Int} (h:(x == y)=false):x≠y:=by simpa using h
theorem zMK (w:World) (N S:Nat):∃os,putRow (Value.int .i64) (Sort.ahead (w.alloc (.cells #[.int .i64 0] 3)) N) w.heap.size 0 (one S)=grow (Sort.ahead w N) os:=by
 rw[alloc_eq_grow,ahead_grow];obtain⟨os,_,h⟩:=putRow_grow_new (Value.int .i64) (Sort.ahead w N) #[.cells #[.int .i64 0] 3] w.heap.size 0 (one S) (Za _);exact⟨os,h⟩
theorem zJe (blk off cap:Nat) (d:Array Int) (w:World) (hH:Holds (Value.int .i32) w blk off d) (ae:blk<w.heap.size) (ag:d.size<4611686018427387904) :
 ∃Wc:Nat→Nat→World,
  w.alloc (.cells #[.int .i64 0] 3)=Wc 0 0 ∧
  (∀N S:Nat,(Wc N S).cell? ⟨w.heap.size,0,none⟩=some (.int .i64 (S:Int))) ∧
  (∀N S:Nat,∃os,Wc N S=grow (Sort.ahead w N) os) ∧
  (∀x s N:Nat,1≤x→x+1<d.size→s+3<4611686018427387904→Calls prog 215 #[.slice (some ⟨blk,off,none⟩) d.size cap,.int .i64 (x:Int),.pointer (some ⟨w.heap.size,0,none⟩)] (Wc N s) fun e w' =>
    e=.returned (.int .i64 ((medianAdjacent ltInt d x s).1:Int))∧∃N',w'=Wc N' (medianAdjacent ltInt d x s).2) ∧
  (∀x y z s N:Nat,x<d.size→y<d.size→z<d.size→s+3<4611686018427387904→Calls prog 216 #[.slice (some ⟨blk,off,none⟩) d.size cap,.int .i64 (x:Int),.int .i64 (y:Int),.int .i64 (z:Int),.pointer (some ⟨w.heap.size,0,none⟩)] (Wc N s) fun e w' =>
    e=.returned (.int .i64 ((median ltInt d x y z s).1:Int))∧∃N',w'=Wc N' (median ltInt d x y z s).2):=by
 have hne:w.heap.size≠blk:=by omega
 have af:Holds (Value.int .i32) (w.alloc (.cells #[.int .i64 0] 3)) blk off d:=by rw[alloc_eq_grow];exact holds_grow _ _ _ _ _ _ ae hH
 have aa:Holds (Value.int .i64) (w.alloc (.cells #[.int .i64 0] 3)) w.heap.size 0 (one 0):=fun j hj=>by
  obtain rfl:j=0:=by simpa using hj
  simp
 refine⟨fun N S=>putRow (Value.int .i64) (Sort.ahead (w.alloc (.cells #[.int .i64 0] 3)) N) w.heap.size 0 (one S),(putRow_self _ _ _ _ _ aa).symm,fun N S=>(zPk (zE1 (n:=N) (t:=S) aa)).1,fun N S=>zMK w N S,?_,?_⟩
 · intro x s N h1 h2 hs;refine (zF0 d _ rfl blk off cap x w.heap.size 0 s _ (zD7 af hne) h1 h2 (by omega) hne (zE1 aa) (by omega)).mono ?_;rintro e w' ⟨he,n,hw⟩;exact⟨he,N+n,by rw[hw,zLn]⟩
 intro x y z s N h1 h2 h3 hs;refine (zGG d _ rfl blk off cap x y z w.heap.size 0 s _ (zD7 af hne) h1 h2 h3 hne (zE1 aa) (by omega)).mono ?_;rintro e w' ⟨he,n,hw⟩;exact⟨he,N+n,by rw[hw,zLn]⟩
theorem zGH (blk off cap a b:Nat) (d:Array Int) (w:World) (hH:Holds (Value.int .i32) w blk off d) (ai:blk<w.heap.size) (ap:a<b) (hb:b≤d.size) (ak:d.size<4611686018427387904) :
 Calls prog 175 #[.slice (some ⟨blk,off,none⟩) d.size cap,.int .i64 a,.int .i64 b] w fun e w' =>
  e=.returned (.tuple #[.int .i64 (choosePivot ltInt d a b).1,.int .i64 (hintCode (choosePivot ltInt d a b).2)])∧∃n os,w'=grow (Sort.ahead w n) os:=by
 obtain⟨Wc,aj,cS,hG,MA,MD⟩:=zJe blk off cap d w hH ai ak;clear hH;rw[choosePivot_eq];obtain⟨I,hI⟩:∃I:Nat,I=a+(b-a)/4*1:=⟨_,rfl⟩;obtain⟨J,hJ⟩:∃J:Nat,J=a+(b-a)/4*2:=⟨_,rfl⟩;obtain⟨K,hK⟩:∃K:Nat,K=a+(b-a)/4*3:=⟨_,rfl⟩;have eI:((a:Int)+((b:Int)-(a:Int))/4)=(I:Int):=by omega
 have eJ:((a:Int)+((b:Int)-(a:Int))/4*2)=(J:Int):=by omega
 have eK:((a:Int)+((b:Int)-(a:Int))/4*3)=(K:Int):=by omega
 by_cases h8:b-a≥8
 · by_cases h50:b-a≥50
   ·
    obtain⟨i1,s1,h1⟩:∃i1 s1,medianAdjacent ltInt d I 0=(i1,s1):=⟨_,_,rfl⟩;obtain⟨j1,s2,h2⟩:∃j1 s2,medianAdjacent ltInt d J s1=(j1,s2):=⟨_,_,rfl⟩;obtain⟨k1,s3,h3⟩:∃k1 s3,medianAdjacent ltInt d K s2=(k1,s3):=⟨_,_,rfl⟩;obtain⟨p,s,h4⟩:∃p s,median ltInt d i1 j1 k1 s3=(p,s):=⟨_,_,rfl⟩;have ae:rawPivot ltInt d a b=(p,s):=by simp only[rawPivot,Zl h8,Zl h50,←hI,←hJ,←hK,h1,h2,h3,h4]
    have m1:=medianAdjacent_mem ltInt d I 0;rw[h1]at m1;have m2:=medianAdjacent_mem ltInt d J s1;rw[h2]at m2;have m3:=medianAdjacent_mem ltInt d K s2;rw[h3]at m3;have n1:=medianAdjacent_count ltInt d I 0;rw[h1]at n1;have n2:=medianAdjacent_count ltInt d J s1;rw[h2]at n2;have n3:=medianAdjacent_count ltInt d K s2;rw[h3]at n3;simp only[]at m1 m2 m3 n1 n2 n3
    have c1:Calls prog 215 #[.slice (some ⟨blk,off,none⟩) d.size cap,.int .i64 (I:Int),.pointer (some ⟨w.heap.size,0,none⟩)] (Wc 0 0) fun e w'=>e=.returned (.int .i64 (i1:Int))∧∃N',w'=Wc N' s1:=by
     have h:=MA I 0 0 (by omega) (by omega) (by omega);rw[h1]at h;exact h
    have c2:∀N,Calls prog 215 #[.slice (some ⟨blk,off,none⟩) d.size cap,.int .i64 (J:Int),.pointer (some ⟨w.heap.size,0,none⟩)] (Wc N s1) fun e w'=>e=.returned (.int .i64 (j1:Int))∧∃N',w'=Wc N' s2:=fun N=>by
     have h:=MA J s1 N (by omega) (by omega) (by omega);rw[h2]at h;exact h
    have c3:∀N,Calls prog 215 #[.slice (some ⟨blk,off,none⟩) d.size cap,.int .i64 (K:Int),.pointer (some ⟨w.heap.size,0,none⟩)] (Wc N s2) fun e w'=>e=.returned (.int .i64 (k1:Int))∧∃N',w'=Wc N' s3:=fun N=>by
     have h:=MA K s2 N (by omega) (by omega) (by omega);rw[h3]at h;exact h
    have c4:∀N,Calls prog 216 #[.slice (some ⟨blk,off,none⟩) d.size cap,.int .i64 (i1:Int),.int .i64 (j1:Int),.int .i64 (k1:Int),.pointer (some ⟨w.heap.size,0,none⟩)] (Wc N s3) fun e w'=>e=.returned (.int .i64 (p:Int))∧∃N',w'=Wc N' s:=fun N=>by
     have h:=MD i1 j1 k1 s3 N (by omega) (by omega) (by omega) (by omega);rw[h4]at h;exact h
    rw[ae];obtain⟨Hc,aa⟩:∃Hc:Int,Hc=hintCode (hintOf s):=⟨_,rfl⟩;have ag:s=0→Hc=1:=fun h=>by rw[aa,h];rfl
    have af:s=12→Hc=2:=fun h=>by rw[aa,h];rfl
    have ah:s≠0→s≠12→Hc=0:=fun h1 h2=>by rw[aa];unfold hintOf;rw[if_neg h1,if_neg h2];rfl
    show Calls prog 175 _ w fun e w'=>e=.returned (.tuple #[.int .i64 (p:Int),.int .i64 (hintCode (hintOf s))])∧∃n os,w'=grow (Sort.ahead w n) os
    rw[←aa];clear aa ae;clear h1 h2 h3 h4 MA MD hI hJ hK m1 m2 m3;go_enter func175,ntmps175
    go_wp2_with (first
     | (go_at_call_has 215 (Value.int .i64 (I:Int));refine c1.mono ?_;rintro e w' ⟨rfl,N1,rfl⟩)
     | (go_at_call_has 215 (Value.int .i64 (J:Int));refine (c2 _).mono ?_;rintro e w' ⟨rfl,N2,rfl⟩)
     | (go_at_call_has 215 (Value.int .i64 (K:Int));refine (c3 _).mono ?_;rintro e w' ⟨rfl,N3,rfl⟩)
     | (go_at_call 216;refine (c4 _).mono ?_;rintro e w' ⟨rfl,N4,rfl⟩))
    all_goals
     go_ret2;refine⟨?_,_,hG _ _⟩
     first
      | (have e0:(s:Int)=0:=zCU (by assumption)
         rw[ag (by omega)];rfl)
      | (have e1:(s:Int)=12:=zCU (by assumption)
         rw[af (by omega)];rfl)
      | (have e0:(s:Int)≠0:=zCV (by assumption)
         have e1:(s:Int)≠12:=zCV (by assumption);rw[ah (by omega) (by omega)];rfl)
      | (rw[ag (by omega)];rfl)
   ·
    obtain⟨p,s,h4⟩:∃p s,median ltInt d I J K 0=(p,s):=⟨_,_,rfl⟩;have ae:rawPivot ltInt d a b=(p,s):=by simp only[rawPivot,Zl h8,Zk h50,←hI,←hJ,←hK,h4]
    have c4:Calls prog 216 #[.slice (some ⟨blk,off,none⟩) d.size cap,.int .i64 (I:Int),.int .i64 (J:Int),.int .i64 (K:Int),.pointer (some ⟨w.heap.size,0,none⟩)] (Wc 0 0) fun e w'=>e=.returned (.int .i64 (p:Int))∧∃N',w'=Wc N' s:=by
     have h:=MD I J K 0 0 (by omega) (by omega) (by omega) (by omega);rw[h4]at h;exact h
    rw[ae];obtain⟨Hc,aa⟩:∃Hc:Int,Hc=hintCode (hintOf s):=⟨_,rfl⟩;have ag:s=0→Hc=1:=fun h=>by rw[aa,h];rfl
    have af:s=12→Hc=2:=fun h=>by rw[aa,h];rfl
    have ah:s≠0→s≠12→Hc=0:=fun h1 h2=>by rw[aa];unfold hintOf;rw[if_neg h1,if_neg h2];rfl
    show Calls prog 175 _ w fun e w'=>e=.returned (.tuple #[.int .i64 (p:Int),.int .i64 (hintCode (hintOf s))])∧∃n os,w'=grow (Sort.ahead w n) os
    rw[←aa];clear aa ae;clear h4 MA MD hI hJ hK;go_enter func175,ntmps175;go_wp2_with (first|(go_at_call 216;refine c4.mono ?_;rintro e w' ⟨rfl,N4,rfl⟩))
    all_goals
     go_ret2;refine⟨?_,_,hG _ _⟩
     first
      | (have e0:(s:Int)=0:=zCU (by assumption)
         rw[ag (by omega)];rfl)
      | (have e1:(s:Int)=12:=zCU (by assumption)
         rw[af (by omega)];rfl)
      | (have e0:(s:Int)≠0:=zCV (by assumption)
         have e1:(s:Int)≠12:=zCV (by assumption);rw[ah (by omega) (by omega)];rfl)
      | (rw[ag (by omega)];rfl)
 ·
  obtain⟨p,hp⟩:∃p:Nat,p=J:=⟨_,rfl⟩;obtain⟨s,hs⟩:∃s:Nat,s=0:=⟨_,rfl⟩;have ae:rawPivot ltInt d a b=(p,s):=by simp only[rawPivot,Zk h8,←hJ,hp,hs]
  rw[ae];obtain⟨Hc,aa⟩:∃Hc:Int,Hc=hintCode (hintOf s):=⟨_,rfl⟩;have ag:s=0→Hc=1:=fun h=>by rw[aa,h];rfl
  have af:s=12→Hc=2:=fun h=>by rw[aa,h];rfl
  have ah:s≠0→s≠12→Hc=0:=fun h1 h2=>by rw[aa];unfold hintOf;rw[if_neg h1,if_neg h2];rfl
  show Calls prog 175 _ w fun e w'=>e=.returned (.tuple #[.int .i64 (p:Int),.int .i64 (hintCode (hintOf s))])∧∃n os,w'=grow (Sort.ahead w n) os
  rw[←aa];clear aa ae;subst hp;clear MA MD hI hJ hK;have ao:w.alloc (.cells #[.int .i64 0] 3)=Wc 0 s:=by rw[hs];exact aj
  clear aj;go_enter func175,ntmps175;go_wp2
  all_goals
   go_ret2;refine⟨?_,_,hG _ _⟩
   first
    | (have e0:(s:Int)=0:=zCU (by assumption)
       rw[ag (by omega)];rfl)
    | (have e1:(s:Int)=12:=zCU (by assumption)
       rw[af (by omega)];rfl)
    | (have e0:(s:Int)≠0:=zCV (by assumption)
       have e1:(s:Int)≠12:=zCV (by assumption);rw[ah (by omega) (by omega)];rfl)
    | (rw[ag (by omega)];rfl)
end
section
open Go.Sort
theorem zRo:Callees13 where
 ins:=So.insertionSort_int
 brk:=zFQ
 piv:=zGH
 par:=So.partialInsertionSort_int
 peq:=zCL
 prt:=zEo
theorem zSX:Plain13 where
 swo:=swo_ltInt
 ins:=insertionSort_holds
 par:=partialInsertionSort_holds
 prt:=partition_holds _
 peq:=partitionEqual_holds _
 pdq:=pdq_sorts _
theorem zQ3:zJ9:=fun blk off cap a b limit d w hH hb ae hbd aa hl hB =>
 zJY zRo zSX (b-a+1) blk off cap a b limit d w (by omega) hH hb ae hbd aa hl hB
theorem zOd (zs:List Int):Sort.sort ltInt zs.toArray=(zs.mergeSort fun x y=>decide (x≤y)).toArray:=by
 rw[←sortInt zs]
theorem zGI (blk off cap:Nat) (zs:List Int) (w:World) (hH:Holds (Value.int .i32) w blk off zs.toArray) (aa:blk<w.heap.size) (ae:zs.length<4611686018427387904) :
 Calls prog 94 #[.slice (some ⟨blk,off,none⟩) zs.length cap] w fun e w' =>
  e=.returned (.tuple #[])∧∃n os,w'=grow (putRow (Value.int .i32) (Sort.ahead w n) blk off (zs.mergeSort fun x y=>decide (x≤y)).toArray) os:=by
 have h:=zOc zQ3 blk off cap zs.toArray w hH aa (by simpa using ae);rw[zOd]at h;simpa using h
end
section
open Go.RowKit Go.Sort
theorem R.holds {w:World} {g:Nat} {aa:Array Value} {e:TypeId} {l:List Int} (hb:w.heap[g]?=some (.cells aa e (0,0))) (ht:aa.toList.take l.length=l.map (Value.int .i32)):Holds (Value.int .i32) w g 0 l.toArray:=by
 intro j hj;have ae:j<l.length:=by simpa using hj
 refine⟨?_,by simp[World.frozen?,hb]⟩;have h1:(aa.toList.take l.length)[j]?=(l.map (Value.int .i32))[j]?:=by rw[ht]
 rw[QY ae]at h1;simp only[World.cell?,hb,Z4];simp only[JZ,ZF,Ye];rw[←Ju,h1];simp[ae]
theorem R.heap {w:World} {g n:Nat} {os:Array Obj} {aa:Array Value} {e:TypeId} {fr:Nat × Nat} (d:Array Int) (hb:w.heap[g]?=some (.cells aa e fr)) :
 (grow (putRow (Value.int .i32) (Sort.ahead w n) g 0 d) os).heap[g]?=some (.cells (putCells (Value.int .i32) 0 d aa) e fr):=by
 have hg:g<w.heap.size:=(Array.getElem?_eq_some_iff.1 hb).1;rw[heap_grow_old _ _ (by simpa using hg)];simp[putRow,mapBlock,Sort.ahead,YS,hb,onCells]
theorem R.below {w:World} {g n base:Nat} {os:Array Obj} (d:Array Int) (hg:base≤g) (hb:base≤w.heap.size):Go.RowKit.Below base w (grow (putRow (Value.int .i32) (Sort.ahead w n) g 0 d) os):=by
 refine⟨rfl,rfl,rfl,by simp,fun k hk=>?_⟩;rw[heap_grow_old _ _ (by simp;omega)];have:g≠k:=by omega
 simp[putRow,mapBlock,Sort.ahead,YS,this]
theorem R.take (aa:Array Value) (ts:List Int) (h:ts.length≤aa.size):(putCells (Value.int .i32) 0 ts.toArray aa).toList.take ts.length=ts.map (Value.int .i32):=by
 apply XU
 intro j
 by_cases hj:j<ts.length
 · rw[QY hj,Ju];simp[putCells,hj,show j<aa.size by omega]
 rw[List.getElem?_take_eq_none (by omega),Yn (by simp;omega)]
theorem R.sort_any (v:Value) (base e n:Nat) (l:List Int) (w:World) (hn:l.length=n) (ah:n≤1000000) (aa:w.ownsRow base e 1 v n (l.map (Value.int .i32))) (ae:base≤w.heap.size) :
 Calls prog 94 #[v] w fun r w'=>r=.returned (.tuple #[])∧w'.ownsRow base e 1 v n ((l.mergeSort fun x y=>decide (x≤y)).map (Value.int .i32))∧Go.RowKit.Below base w w':=by
 subst hn;rcases aa.2 with ⟨rfl,h0⟩|⟨g,cap,af,rfl,hg,hb,h1,h2,h3,h4⟩
 · have hl:l=[]:=ZK h0;subst hl;refine (zJa none 0 w).mono fun r w' ⟨hr,hw⟩=>?_
   subst hw;exact⟨hr,by simpa using aa,Go.RowKit.Below.refl _ _⟩
 rw[Y0]at h4;have ag:g<w.heap.size:=(Array.getElem?_eq_some_iff.1 hb).1;refine (zGI g 0 cap l w (R.holds hb h4) ag (by omega)).mono fun r w' ⟨hr,n,os,hw⟩=>?_
 subst hw;have hl:(l.mergeSort fun x y=>decide (x≤y)).length=l.length:=by simp
 refine⟨hr,⟨by simp,.inr ⟨g,cap,_,rfl,hg,R.heap _ hb,h1,h2,by simp[putCells,h3],?_⟩⟩,R.below _ hg ae⟩;rw[Y0];have h:=R.take af (l.mergeSort fun x y=>decide (x≤y)) (by rw[hl];omega);rw[hl]at h;exact h
end
end Go.Proofs.YtdbpjmfflofadaaGreatDoor
