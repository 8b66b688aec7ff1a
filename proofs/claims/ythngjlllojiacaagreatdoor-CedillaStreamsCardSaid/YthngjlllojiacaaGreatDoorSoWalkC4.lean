/- The sort at rune, walked (a text of the kit at int, turned): WalkA14. -/
import Derived.Test.YthngjlllojiacaaGreatDoorSoWalkA
import Derived.Sort.EncStr
import Derived.Test.YthngjlllojiacaaGreatDoorSoBits
import Derived.Sort.LotC
set_option maxRecDepth 100000
set_option maxHeartbeats 12800000
set_option linter.unusedVariables false
set_option linter.unusedSimpArgs false
namespace Go.Proofs.YthngjlllojiacaaGreatDoor
open Go.Proofs.Tryz
open Go.RowKit Go.Sort
theorem zLK (x:Nat) (h:x<2 ^ 64):Lib.bitLen x=bitsLen x:=by
 induction x using Nat.strongRecOn with
 | _ x ih =>
   by_cases h0:x=0
   · subst h0;rfl
   rw[Lib.bitLen_half x h0 h,ih (x/2) (by omega) (by omega)];unfold bitsLen;rw[Zj h0,Nat.log2_def x]
   by_cases h2:2≤x
   · rw[Zl h2,Zj (by omega)];omega
   obtain rfl:x=1:=by omega
   simp
def zIn:Prop:=∀(blk off cap a b limit:Nat) (d:Array Int) (w:World),Holds (Value.int .i32) w blk off d→blk<w.heap.size→a≤b→b≤d.size→d.size<4611686018427387904→limit<4611686018427387904→Below ltInt a b d →
 Calls prog 139 #[.slice (some ⟨blk,off,none⟩) d.size cap,.int .i64 a,.int .i64 b,.int .i64 limit] w fun e w' =>
  e=.returned (.tuple #[])∧∃n os,w'=grow (putRow (Value.int .i32) (Sort.ahead w n) blk off (Sort.pdq ltInt d a b limit true true)) os
theorem zN2 (aa:zIn) (blk off cap:Nat) (d:Array Int) (w:World) (hH:Holds (Value.int .i32) w blk off d) (ae:blk<w.heap.size) (ag:d.size<4611686018427387904) :
 Calls prog 98 #[.slice (some ⟨blk,off,none⟩) d.size cap] w fun e w'=>e=.returned (.tuple #[])∧∃n os,w'=grow (putRow (Value.int .i32) (Sort.ahead w n) blk off (Sort.sort ltInt d)) os:=by
 have HH:Hid (Holds (Value.int .i32) w blk off d):=hH;clear hH
 have af:∀w,Calls prog 140 #[.int .u64 (d.size:Int)] w fun e w'=>e=.returned (.int .i64 (bitsLen d.size:Nat))∧w'=w:=fun w=>by
  have h:=zFK (d.size:Int) w (by omega) (by omega)
  rwa [Y8,zLK _ (by omega)]at h
 have hk:bitsLen d.size≤62:=(bitsLen_le_iff d.size 62).2 (by omega);go_enter func98,ntmps98
 go_wp2_with (first
  | (go_at_call 140;refine (af _).mono ?_;rintro e w' ⟨rfl,rfl⟩)
  | (go_at_call 139;refine (aa blk off cap 0 d.size (bitsLen d.size) d _ (by exact HH.out) (by exact ae) (ZG _) (Za _) ag (by omega) (Or.inl rfl)).mono ?_;rintro e w' ⟨rfl,n,os,rfl⟩))
 go_end0;exact⟨rfl,n,os,rfl⟩
theorem zDI (p:Option Addr) (cap:Nat) (w:World) :
 Calls prog 177 #[.slice p 0 cap,.int .i64 0,.int .i64 0] w fun e w'=>e=.returned (.tuple #[])∧w'=w:=by
 go_enter func177,ntmps177;go_wp2;refine wp_loop_rounds 1 ?_;rw[rounds_succ];go_wp2;go_end0;exact⟨rfl,rfl⟩
theorem zGa (p:Option Addr) (cap:Nat) (w:World) :
 Calls prog 139 #[.slice p 0 cap,.int .i64 0,.int .i64 0,.int .i64 0] w fun e w'=>e=.returned (.tuple #[])∧w'=w:=by
 go_enter func139,ntmps139;go_wp2;refine wp_loop_rounds 1 ?_;rw[rounds_succ];go_wp2_with (first|(go_at_call 177;refine (zDI p cap _).mono ?_;rintro e w' ⟨rfl,rfl⟩));refine YF (Qy rfl _ _ _) rfl ?_;exact⟨rfl,rfl⟩
theorem zIo (p:Option Addr) (cap:Nat) (w:World) :
 Calls prog 98 #[.slice p 0 cap] w fun e w'=>e=.returned (.tuple #[])∧w'=w:=by
 have aa:∀w,Calls prog 140 #[.int .u64 0] w fun e w'=>e=.returned (.int .i64 0)∧w'=w:=fun w=>zFK 0 w (by omega) (by omega)
 go_enter func98,ntmps98
 go_wp2_with (first
  | (go_at_call 140;refine (aa _).mono ?_;rintro e w' ⟨rfl,rfl⟩)
  | (go_at_call 139;refine (zGa p cap _).mono ?_;rintro e w' ⟨rfl,rfl⟩))
 go_end0;exact⟨rfl,rfl⟩
theorem zBs {α:Type} [Inhabited α] (enc:α→Value) (w:World) (blk off:Nat) (dk:Array α) (n i j:Nat) (hi:i<dk.size) (hj:j<dk.size) :
 ((((putRow enc w blk off dk).drewN n).setCell ⟨blk,off+i,none⟩ (enc dk[j]!)).setCell ⟨blk,off+j,none⟩ (enc dk[i]!)).drew=(putRow enc w blk off (swp dk i j)).drewN (n+1):=by
 rw[←putRow_swp enc w blk off dk i j hi hj];rfl
section
variable {α:Type} [Inhabited α]
theorem zIp (p:α→Bool) (d:Array α) (j i:Nat) (h:i≤j) (hp:p d[i]! = true):scanUp p d j i=scanUp p d j (i+1):=by
 rw[scanUp,Zl (by simp[h,hp])]
theorem zCL (p:α→Bool) (d:Array α) (j i:Nat) (h:¬i≤j∨p d[i]! = false):scanUp p d j i=i:=by
 rw[scanUp,Zj (by rcases h with h|h <;> simp[h])]
theorem zFL (p:α→Bool) (d:Array α) (i j:Nat) (h:i≤j) (h0:0<j) (hp:p d[j]! = true):scanDown p d i j=scanDown p d i (j-1):=by
 obtain⟨k,rfl⟩:∃k,j=k+1:=⟨j-1,by omega⟩;rw[scanDown,Zl (by simp[h,hp])];rfl
theorem zB7 (p:α→Bool) (d:Array α) (i j:Nat) (h:¬i≤j∨p d[j]! = false):scanDown p d i j=j:=by
 cases j with
 | zero=>rfl
 | succ k=>rw[scanDown,Zj (by rcases h with h|h <;> simp[h])]
variable (lt:α→α→Bool)
theorem zHa (a i j:Nat) (dk:Array α) {i2 j2:Nat} (ae:i2=scanUp (fun x=>!lt dk[a]! x) dk j i) (aa:j2=scanDown (fun x=>lt dk[a]! x) dk i2 j) (h:j2<i2):partEqLoop lt a i j dk=(i2,dk):=by
 subst ae;subst aa;rw[partEqLoop_eq,Zl h]
theorem zQ4 (a i j:Nat) (dk:Array α) {i2 j2:Nat} (ae:i2=scanUp (fun x=>!lt dk[a]! x) dk j i) (aa:j2=scanDown (fun x=>lt dk[a]! x) dk i2 j) (h:¬i2 > j2):partEqLoop lt a i j dk=partEqLoop lt a (i2+1) (j2-1) (swp dk i2 j2):=by
 subst ae;subst aa;rw[partEqLoop_eq,Zj h]
theorem zQR (a i j:Nat) (dk:Array α) (h0:0<i) {i2 j2:Nat} (ae:i2=scanUp (fun x=>!lt dk[a]! x) dk j i) (aa:j2=scanDown (fun x=>lt dk[a]! x) dk i2 j) (h:i2≤j2):i2<j2:=by
 subst ae;subst aa;obtain⟨u1,_,_,u4⟩:=scanUp_spec (fun x=>!lt dk[a]! x) dk j _ i rfl;obtain⟨v1,_,_,v4⟩:=scanDown_spec (fun x=>lt dk[a]! x) dk (scanUp (fun x=>!lt dk[a]! x) dk j i) j;rcases ZZ (scanUp (fun x=>!lt dk[a]! x) dk j i) (scanDown (fun x=>lt dk[a]! x) dk (scanUp (fun x=>!lt dk[a]! x) dk j i) j) with h'|h'
 · exact h'
 have e:scanDown (fun x=>lt dk[a]! x) dk (scanUp (fun x=>!lt dk[a]! x) dk j i) j=scanUp (fun x=>!lt dk[a]! x) dk j i:=by omega
 have f1:=u4 (by omega);have f2:=v4 h (by omega);rw[e]at f2;simp only[f2]at f1;cases f1
end
theorem zEC (blk off cap a b pivot:Nat) (d:Array Int) (w:World) (hH:Holds (Value.int .i32) w blk off d) (ba:a≤pivot) (hpb:pivot<b) (hb:b≤d.size) (a8:d.size<4611686018427387904) :
 Calls prog 184 #[.slice (some ⟨blk,off,none⟩) d.size cap,.int .i64 a,.int .i64 b,.int .i64 pivot] w fun e w' =>
  e=.returned (.int .i64 (Sort.partitionEqual Sort.ltInt d a b pivot).1)∧∃n,w'=(putRow (Value.int .i32) w blk off (Sort.partitionEqual Sort.ltInt d a b pivot).2).drewN n:=by
 have ar:a<d.size:=by omega
 have au:pivot<d.size:=by omega
 obtain⟨G,hG⟩:∃G:Nat→Int,∀j,G j=d[j]! := ⟨fun j=>d[j]!,fun _=>rfl⟩;have ca:w.cell? ⟨blk,off+a,none⟩=some (.int .i32 (G a)):=by rw[hG];exact (hH a ar).1
 have fa:=(hH a ar).2;have cp:w.cell? ⟨blk,off+pivot,none⟩=some (.int .i32 (G pivot)):=by rw[hG];exact (hH pivot au).1
 have fp:=(hH pivot au).2;obtain⟨v',hy'⟩:=YQ (w:=w) (p:=⟨blk,off+a,none⟩) (x:=.int .i32 (G pivot)) (q:=⟨blk,off+pivot,none⟩) cp;have AG:Hid (∀j,G j=d[j]!):=hG;have AH:Hid (Holds (Value.int .i32) w blk off d):=hH;clear hG hH;go_enter func184,ntmps184;go_wp2;go_region;go_wp2
 go_loopw [9,10] (fun vi vj wr=>∃(i j n:Nat) (dk:Array Int),vi=.int .i64 i∧vj=.int .i64 j∧a<i∧i≤j+1∧j<b∧dk.size=d.size∧wr=(putRow (Value.int .i32) w blk off dk).drewN n ∧
  Sort.partEqLoop Sort.ltInt a i j dk=Sort.partEqLoop Sort.ltInt a (a+1) (b-1) (Sort.swp d a pivot))
  (fun vi vj _=>(intOf vj).toNat+1-(intOf vi).toNat)
 case atStart =>
  refine⟨a+1,b-1,1,Sort.swp d a pivot,by go_num,by go_num,by omega,by omega,by omega,size_swp _ _ _,?_,rfl⟩;have e:=zBs (Value.int .i32) w blk off d 0 a pivot ar au;rw[putRow_self _ w blk off d AH.out]at e;rw[AG.out a,AG.out pivot];exact e
 obtain⟨i,j,n,dk,rfl,rfl,a7,hij,bb,hs,hw,ay⟩:=hrel;clear ca fa cp fp hy' v' AG
 rename World=>W1
 have av:Holds (Value.int .i32) W1 blk off dk:=by
  rw[hw];exact holds_putRow (Value.int .i32) w blk off d dk AH.out hs
 obtain⟨Gk,hG⟩:∃Gk:Nat→Int,∀t,Gk t=dk[t]! := ⟨fun t=>dk[t]!,fun _=>rfl⟩;have hc:∀t,t<d.size→W1.cell? ⟨blk,off+t,none⟩=some (.int .i32 (Gk t)):=fun t ht=>by rw[hG];exact (av t (by omega)).1
 have hf:∀t,t<d.size→W1.frozen? ⟨blk,off+t,none⟩=false:=fun t ht=>(av t (by omega)).2
 have AG:Hid (∀t,Gk t=dk[t]!):=hG;have AW:Hid (W1=(putRow (Value.int .i32) w blk off dk).drewN n):=hw;have AE:Hid (Sort.partEqLoop Sort.ltInt a i j dk=Sort.partEqLoop Sort.ltInt a (a+1) (b-1) (Sort.swp d a pivot)):=ay;clear hG hw ay av;go_wp2
 go_loopw [9] (fun vi w1=>∃(i' n1:Nat),vi=.int .i64 i'∧i≤i'∧i'≤j+1∧w1=W1.drewN n1 ∧
  Hid (Sort.scanUp (fun x=>!Sort.ltInt dk[a]! x) dk j i'=Sort.scanUp (fun x=>!Sort.ltInt dk[a]! x) dk j i))
  (fun vi _=>j+1-(intOf vi).toNat)
 case atStart=>exact⟨i,0,rfl,Za _,hij,rfl,rfl⟩
 obtain⟨i',n1,rfl,bf,ai,aw,hsc⟩:=hrel;have ag:∀t,t<d.size→wr.cell? ⟨blk,off+t,none⟩=some (.int .i32 (Gk t)):=fun t ht=>by rw[aw];exact hc t ht
 have ap:Hid (wr=W1.drewN n1):=aw;clear aw
 by_cases hle:i'≤j
 rotate_left
 · go_wp2_with fail;go_big_quiet (first|(go_at_call 183;refine Calls.quiet_of_same (So.cmp_Less_int _ _ _)));go_wp2;have ak:Hid (i'=Sort.scanUp (fun x=>!Sort.ltInt dk[a]! x) dk j i):=(zCL (fun x=>!Sort.ltInt dk[a]! x) dk j i' (Or.inl hle)).symm.trans hsc.out;have ae:wr.drewN nq=W1.drewN (n1+nq):=by rw[ap.out,ZQ]
   clear ag ap hsc
   go_loopw [10] (fun vj w2=>∃(j' n2:Nat),vj=.int .i64 j'∧j'≤j∧i'≤j'+1∧w2=W1.drewN n2 ∧
    Hid (Sort.scanDown (fun x=>Sort.ltInt dk[a]! x) dk i' j'=Sort.scanDown (fun x=>Sort.ltInt dk[a]! x) dk i' j))
    (fun vj _=>(intOf vj).toNat)
   case atStart=>exact⟨j,n1+nq,rfl,Za _,ai,ae,rfl⟩
   clear ae;obtain⟨j',n2,rfl,a6,ax,ae,af⟩:=hrel;have ag:∀t,t<d.size→wr.cell? ⟨blk,off+t,none⟩=some (.int .i32 (Gk t)):=fun t ht=>by rw[ae];exact hc t ht
   have ao:Hid (wr=W1.drewN n2):=ae;clear ae
   by_cases hle2:i'≤j'
   · exfalso;omega
   go_wp2_with fail;go_big_quiet (first|(go_at_call 183;refine Calls.quiet_of_same (So.cmp_Less_int _ _ _)));have ah:Hid (j'=Sort.scanDown (fun x=>Sort.ltInt dk[a]! x) dk i' j):=(zB7 (fun x=>Sort.ltInt dk[a]! x) dk i' j' (Or.inl hle2)).symm.trans af.out;clear ag af;have aa:wr.drewN nq=W1.drewN (n2+nq):=by rw[ao.out,ZQ]
   generalize wr.drewN nq=W3 at aa ⊢;have aq:∀t,t<d.size→W3.cell? ⟨blk,off+t,none⟩=some (.int .i32 (Gk t)):=fun t ht=>by rw[aa];exact hc t ht
   have az:∀t,t<d.size→W3.frozen? ⟨blk,off+t,none⟩=false:=fun t ht=>by rw[aa];exact hf t ht
   have aj:Hid (W3=W1.drewN (n2+nq)):=aa;clear aa;go_wp2;go_ret;have e:=zHa Sort.ltInt a i j dk ak.out ah.out (by omega);refine⟨?_,n+(n2+nq),?_⟩
   · unfold Sort.partitionEqual;rw[←AE.out,e];rfl
   unfold Sort.partitionEqual;rw[←AE.out,e,aj.out,AW.out,World.drewN_drewN]
 go_wp2_with fail;go_big_quiet (first|(go_at_call 183;refine Calls.quiet_of_same (So.cmp_Less_int _ _ _)));go_wp2
 ·
  have ht:(!Sort.ltInt (Gk a) (Gk i'))=true:=by assumption
  go_roundw
  case rel=>exact⟨i'+1,n1+nq,by go_num,by omega,by omega,by rw[ap.out,ZQ],(zIp (fun x=>!Sort.ltInt dk[a]! x) dk j i' hle (by rw[←AG.out a,←AG.out i'];exact ht)).symm.trans hsc.out⟩
  simp[intOf];omega
 ·
  have ht:(!Sort.ltInt (Gk a) (Gk i'))=false:=by assumption
  have ak:Hid (i'=Sort.scanUp (fun x=>!Sort.ltInt dk[a]! x) dk j i):=(zCL (fun x=>!Sort.ltInt dk[a]! x) dk j i' (Or.inr (by rw[←AG.out a,←AG.out i'];exact ht))).symm.trans hsc.out;clear ht;have ae:wr.drewN nq=W1.drewN (n1+nq):=by rw[ap.out,ZQ]
  clear ag ap hsc
  go_loopw [10] (fun vj w2=>∃(j' n2:Nat),vj=.int .i64 j'∧j'≤j∧i'≤j'+1∧w2=W1.drewN n2 ∧
   Hid (Sort.scanDown (fun x=>Sort.ltInt dk[a]! x) dk i' j'=Sort.scanDown (fun x=>Sort.ltInt dk[a]! x) dk i' j))
   (fun vj _=>(intOf vj).toNat)
  case atStart=>exact⟨j,n1+nq,rfl,Za _,ai,ae,rfl⟩
  clear ae;obtain⟨j',n2,rfl,a6,ax,ae,af⟩:=hrel;have ag:∀t,t<d.size→wr.cell? ⟨blk,off+t,none⟩=some (.int .i32 (Gk t)):=fun t ht=>by rw[ae];exact hc t ht
  have ao:Hid (wr=W1.drewN n2):=ae;clear ae
  by_cases hle2:i'≤j'
  rotate_left
  · go_wp2_with fail;go_big_quiet (first|(go_at_call 183;refine Calls.quiet_of_same (So.cmp_Less_int _ _ _)));have ah:Hid (j'=Sort.scanDown (fun x=>Sort.ltInt dk[a]! x) dk i' j):=(zB7 (fun x=>Sort.ltInt dk[a]! x) dk i' j' (Or.inl hle2)).symm.trans af.out;clear ag af;have aa:wr.drewN nq=W1.drewN (n2+nq):=by rw[ao.out,ZQ]
    generalize wr.drewN nq=W3 at aa ⊢;have aq:∀t,t<d.size→W3.cell? ⟨blk,off+t,none⟩=some (.int .i32 (Gk t)):=fun t ht=>by rw[aa];exact hc t ht
    have az:∀t,t<d.size→W3.frozen? ⟨blk,off+t,none⟩=false:=fun t ht=>by rw[aa];exact hf t ht
    have aj:Hid (W3=W1.drewN (n2+nq)):=aa;clear aa;go_wp2;go_ret;have e:=zHa Sort.ltInt a i j dk ak.out ah.out (by omega);refine⟨?_,n+(n2+nq),?_⟩
    · unfold Sort.partitionEqual;rw[←AE.out,e];rfl
    unfold Sort.partitionEqual;rw[←AE.out,e,aj.out,AW.out,World.drewN_drewN]
  go_wp2_with fail;go_big_quiet (first|(go_at_call 183;refine Calls.quiet_of_same (So.cmp_Less_int _ _ _)));go_wp2
  ·
   have ht:Sort.ltInt (Gk a) (Gk j')=true:=by assumption
   go_roundw
   case rel=>exact⟨j'-1,n2+nq,by go_num,by omega,by omega,by rw[ao.out,ZQ],(zFL (fun x=>Sort.ltInt dk[a]! x) dk i' j' hle2 (by omega) (by rw[←AG.out a,←AG.out j'];exact ht)).symm.trans af.out⟩
   simp[intOf];omega
  ·
   have ht:Sort.ltInt (Gk a) (Gk j')=false:=by assumption
   have ah:Hid (j'=Sort.scanDown (fun x=>Sort.ltInt dk[a]! x) dk i' j):=(zB7 (fun x=>Sort.ltInt dk[a]! x) dk i' j' (Or.inr (by rw[←AG.out a,←AG.out j'];exact ht))).symm.trans af.out;clear ag af ht;have aa:wr.drewN nq=W1.drewN (n2+nq):=by rw[ao.out,ZQ]
   generalize wr.drewN nq=W3 at aa ⊢;have aq:∀t,t<d.size→W3.cell? ⟨blk,off+t,none⟩=some (.int .i32 (Gk t)):=fun t ht=>by rw[aa];exact hc t ht
   have az:∀t,t<d.size→W3.frozen? ⟨blk,off+t,none⟩=false:=fun t ht=>by rw[aa];exact hf t ht
   have aj:Hid (W3=W1.drewN (n2+nq)):=aa;clear aa;obtain⟨v3,bc⟩:=YQ (w:=W3) (p:=⟨blk,off+i',none⟩) (x:=.int .i32 (Gk j')) (q:=⟨blk,off+j',none⟩) (aq j' (by omega));have a1:=zQR Sort.ltInt a i j dk (by omega) ak.out ah.out hle2;go_wp2;go_region
   all_goals go_wp2
   all_goals go_roundw
   case measure=>simp[intOf];omega
   refine⟨i'+1,j'-1,n+(n2+nq)+1,Sort.swp dk i' j',by go_num,by go_num,by omega,by omega,by omega,by rw[size_swp];exact hs,?_,?_⟩
   · rw[aj.out,AW.out,ZQ,AG.out i',AG.out j'];exact zBs (Value.int .i32) w blk off dk _ i' j' (by omega) (by omega)
   rw[←AE.out];exact (zQ4 Sort.ltInt a i j dk ak.out ah.out (by omega)).symm
theorem zCD (blk off cap a b pivot:Nat) (d:Array Int) (w:World) (hH:Holds (Value.int .i32) w blk off d) (ae:a≤pivot) (hpb:pivot<b) (hb:b≤d.size) (aa:d.size<4611686018427387904) :
 Calls prog 184 #[.slice (some ⟨blk,off,none⟩) d.size cap,.int .i64 a,.int .i64 b,.int .i64 pivot] w fun e w' =>
  e=.returned (.int .i64 (Sort.partitionEqual Sort.ltInt d a b pivot).1)∧∃n,w'=putRow (Value.int .i32) (Sort.ahead w n) blk off (Sort.partitionEqual Sort.ltInt d a b pivot).2 :=
 (zEC blk off cap a b pivot d w hH ae hpb hb aa).mono fun _ _ ⟨he,n,hw⟩=>⟨he,n,hw⟩
theorem Hid.mk' {p:Prop} (h:p):Hid p:=h
section
variable {α:Type} [Inhabited α] (lt:α→α→Bool)
theorem zJG (a i j:Nat) (dk:Array α) {i2 j2:Nat} (ae:i2=scanUp (fun x=>lt x dk[a]!) dk j i) (aa:j2=scanDown (fun x=>!lt x dk[a]!) dk i2 j) (h:j2<i2):partLoop lt a i j dk=(j2,dk):=by
 subst ae;subst aa;rw[partLoop_eq,Zl h]
theorem zRt (a i j:Nat) (dk:Array α) {i2 j2:Nat} (ae:i2=scanUp (fun x=>lt x dk[a]!) dk j i) (aa:j2=scanDown (fun x=>!lt x dk[a]!) dk i2 j) (h:¬i2 > j2):partLoop lt a i j dk=partLoop lt a (i2+1) (j2-1) (swp dk i2 j2):=by
 subst ae;subst aa;rw[partLoop_eq,Zj h]
theorem zGb (a i j:Nat) (dk:Array α) (h0:0<i) {i2 j2:Nat} (ae:i2=scanUp (fun x=>lt x dk[a]!) dk j i) (aa:j2=scanDown (fun x=>!lt x dk[a]!) dk i2 j) (h:i2≤j2):i2<j2:=by
 subst ae;subst aa;obtain⟨u1,_,_,u4⟩:=scanUp_spec (fun x=>lt x dk[a]!) dk j _ i rfl;obtain⟨v1,_,_,v4⟩:=scanDown_spec (fun x=>!lt x dk[a]!) dk (scanUp (fun x=>lt x dk[a]!) dk j i) j;rcases ZZ (scanUp (fun x=>lt x dk[a]!) dk j i) (scanDown (fun x=>!lt x dk[a]!) dk (scanUp (fun x=>lt x dk[a]!) dk j i) j) with h'|h'
 · exact h'
 have e:scanDown (fun x=>!lt x dk[a]!) dk (scanUp (fun x=>lt x dk[a]!) dk j i) j=scanUp (fun x=>lt x dk[a]!) dk j i:=by omega
 have f1:=u4 (by omega);have f2:=v4 h (by omega);rw[e]at f2;simp only[f1]at f2;cases f2
theorem zEn (d:Array α) (a b pivot:Nat) {i j:Nat} {dk:Array α} {i2 j2:Nat} (hi:i=a+1) (hj:j=b-1) (af:dk=swp d a pivot) (ae:i2=scanUp (fun x=>lt x dk[a]!) dk j i) (aa:j2=scanDown (fun x=>!lt x dk[a]!) dk i2 j) (h:j2<i2) :
 partition lt d a b pivot=(j2,true,swp dk j2 a):=by
 subst hi;subst hj;subst af;subst ae;subst aa;unfold partition;simp only[];rw[Zl h]
theorem zKp (d:Array α) (a b pivot:Nat) {i j:Nat} {dk:Array α} {i2 j2:Nat} (hi:i=a+1) (hj:j=b-1) (af:dk=swp d a pivot) (ae:i2=scanUp (fun x=>lt x dk[a]!) dk j i) (aa:j2=scanDown (fun x=>!lt x dk[a]!) dk i2 j) (h:¬i2 > j2) :
 partition lt d a b pivot=((partLoop lt a (i2+1) (j2-1) (swp dk i2 j2)).1,false,swp (partLoop lt a (i2+1) (j2-1) (swp dk i2 j2)).2 (partLoop lt a (i2+1) (j2-1) (swp dk i2 j2)).1 a):=by
 subst hi;subst hj;subst af;subst ae;subst aa;unfold partition;simp only[];rw[Zj h]
end
theorem zHE (blk off cap a b pivot:Nat) (d:Array Int) (w:World) (hH:Holds (Value.int .i32) w blk off d) (bk:a≤pivot) (hpb:pivot<b) (hb:b≤d.size) (bj:d.size<4611686018427387904) :
 Calls prog 185 #[.slice (some ⟨blk,off,none⟩) d.size cap,.int .i64 a,.int .i64 b,.int .i64 pivot] w fun e w' =>
  e=.returned (.tuple #[.int .i64 (Sort.partition Sort.ltInt d a b pivot).1,.bool (Sort.partition Sort.ltInt d a b pivot).2.1])∧∃n,w'=(putRow (Value.int .i32) w blk off (Sort.partition Sort.ltInt d a b pivot).2.2).drewN n:=by
 have a1:a<d.size:=by omega
 have a7:pivot<d.size:=by omega
 obtain⟨G,hG⟩:∃G:Nat→Int,∀j,G j=d[j]! := ⟨fun j=>d[j]!,fun _=>rfl⟩;have ca:w.cell? ⟨blk,off+a,none⟩=some (.int .i32 (G a)):=by rw[hG];exact (hH a a1).1
 have fa:=(hH a a1).2;have cp:w.cell? ⟨blk,off+pivot,none⟩=some (.int .i32 (G pivot)):=by rw[hG];exact (hH pivot a7).1
 have fp:=(hH pivot a7).2;obtain⟨v',hy'⟩:=YQ (w:=w) (p:=⟨blk,off+a,none⟩) (x:=.int .i32 (G pivot)) (q:=⟨blk,off+pivot,none⟩) cp
 have hw:((w.setCell ⟨blk,off+a,none⟩ (.int .i32 (G pivot))).setCell ⟨blk,off+pivot,none⟩ (.int .i32 (G a))).drew=(putRow (Value.int .i32) w blk off (Sort.swp d a pivot)).drewN 1:=by
  have e:=zBs (Value.int .i32) w blk off d 0 a pivot a1 a7;rw[putRow_self _ w blk off d hH]at e;rw[hG a,hG pivot];exact e
 have AH:Hid (Holds (Value.int .i32) w blk off d):=hH;have bf:=Hid.mk' hw;clear hG hH hw;go_enter func185,ntmps185;go_wp2;go_region;go_wp2;clear ca fa cp fp hy' v';have hw:=bf.out;clear bf;generalize ((w.setCell ⟨blk,off+a,none⟩ (.int .i32 (G pivot))).setCell ⟨blk,off+pivot,none⟩ (.int .i32 (G a))).drew=W1 at hw ⊢;obtain⟨dk,ay⟩:∃dk,dk=Sort.swp d a pivot:=⟨_,rfl⟩;obtain⟨n,hn⟩:∃n:Nat,n=1:=⟨_,rfl⟩;rw[←ay,←hn]at hw;clear hn;have hs:dk.size=d.size:=by rw[ay,size_swp]
 have e1:((a:Int)+1)=((a+1:Nat):Int):=by omega
 have e2:((b:Int)-1)=((b-1:Nat):Int):=by omega
 rw[e1,e2];clear e1 e2;obtain⟨i,hi⟩:∃i,i=a+1:=⟨_,rfl⟩;obtain⟨j,hj⟩:∃j,j=b-1:=⟨_,rfl⟩;rw[←hi,←hj];have bg:a<i:=by omega
 have hij:i≤j+1:=by omega
 have bh:j<b:=by omega
 have HI:=Hid.mk' hi;have HJ:=Hid.mk' hj;have a6:=Hid.mk' ay;clear hi hj ay
 have ar:Holds (Value.int .i32) W1 blk off dk:=by
  rw[hw];exact holds_putRow (Value.int .i32) w blk off d dk AH.out hs
 obtain⟨Gk,hG⟩:∃Gk:Nat→Int,∀t,Gk t=dk[t]! := ⟨fun t=>dk[t]!,fun _=>rfl⟩;have hc:∀t,t<d.size→W1.cell? ⟨blk,off+t,none⟩=some (.int .i32 (Gk t)):=fun t ht=>by rw[hG];exact (ar t (by omega)).1
 have hf:∀t,t<d.size→W1.frozen? ⟨blk,off+t,none⟩=false:=fun t ht=>(ar t (by omega)).2
 have AG:Hid (∀t,Gk t=dk[t]!):=hG;have AW:Hid (W1=(putRow (Value.int .i32) w blk off dk).drewN n):=hw;clear hG hw ar
 go_loopw [10] (fun vi w1=>∃(i' n1:Nat),vi=.int .i64 i'∧i≤i'∧i'≤j+1∧w1=W1.drewN n1 ∧
  Hid (Sort.scanUp (fun x=>Sort.ltInt x dk[a]!) dk j i'=Sort.scanUp (fun x=>Sort.ltInt x dk[a]!) dk j i))
  (fun vi _=>j+1-(intOf vi).toNat)
 case atStart=>exact⟨i,0,rfl,Za _,hij,rfl,rfl⟩
 obtain⟨i',n1,rfl,bi,ao,au,hsc⟩:=hrel;have ag:∀t,t<d.size→wr.cell? ⟨blk,off+t,none⟩=some (.int .i32 (Gk t)):=fun t ht=>by rw[au];exact hc t ht
 have aq:Hid (wr=W1.drewN n1):=au;clear au
 by_cases hle:i'≤j
 rotate_left
 · go_wp2_with fail;go_big_quiet (first|(go_at_call 183;refine Calls.quiet_of_same (So.cmp_Less_int _ _ _)));go_wp2;have ak:Hid (i'=Sort.scanUp (fun x=>Sort.ltInt x dk[a]!) dk j i):=(zCL (fun x=>Sort.ltInt x dk[a]!) dk j i' (Or.inl hle)).symm.trans hsc.out;have ae:wr.drewN nq=W1.drewN (n1+nq):=by rw[aq.out,ZQ]
   clear ag aq hsc
   go_loopw [11] (fun vj w2=>∃(j' n2:Nat),vj=.int .i64 j'∧j'≤j∧i'≤j'+1∧w2=W1.drewN n2 ∧
    Hid (Sort.scanDown (fun x=>!Sort.ltInt x dk[a]!) dk i' j'=Sort.scanDown (fun x=>!Sort.ltInt x dk[a]!) dk i' j))
    (fun vj _=>(intOf vj).toNat)
   case atStart=>exact⟨j,n1+nq,rfl,Za _,ao,ae,rfl⟩
   clear ae;obtain⟨j',n2,rfl,a8,av,ae,af⟩:=hrel;have ag:∀t,t<d.size→wr.cell? ⟨blk,off+t,none⟩=some (.int .i32 (Gk t)):=fun t ht=>by rw[ae];exact hc t ht
   have ap:Hid (wr=W1.drewN n2):=ae;clear ae
   by_cases hle2:i'≤j'
   · exfalso;omega
   go_wp2_with fail;go_big_quiet (first|(go_at_call 183;refine Calls.quiet_of_same (So.cmp_Less_int _ _ _)));have ah:Hid (j'=Sort.scanDown (fun x=>!Sort.ltInt x dk[a]!) dk i' j):=(zB7 (fun x=>!Sort.ltInt x dk[a]!) dk i' j' (Or.inl hle2)).symm.trans af.out;clear ag af;have aa:wr.drewN nq=W1.drewN (n2+nq):=by rw[ap.out,ZQ]
   generalize wr.drewN nq=W3 at aa ⊢;have ai:∀t,t<d.size→W3.cell? ⟨blk,off+t,none⟩=some (.int .i32 (Gk t)):=fun t ht=>by rw[aa];exact hc t ht
   have aw:∀t,t<d.size→W3.frozen? ⟨blk,off+t,none⟩=false:=fun t ht=>by rw[aa];exact hf t ht
   have aj:Hid (W3=W1.drewN (n2+nq)):=aa;clear aa;obtain⟨v3,ax⟩:=YQ (w:=W3) (p:=⟨blk,off+j',none⟩) (x:=.int .i32 (Gk a)) (q:=⟨blk,off+a,none⟩) (ai a (by omega));have ba:j'<d.size:=by omega
   go_wp2;go_region
   all_goals go_wp2
   all_goals go_ret2
   have e:Sort.partition Sort.ltInt d a b pivot=(j',true,Sort.swp dk j' a):=zEn Sort.ltInt d a b pivot HI.out HJ.out a6.out ak.out ah.out (by omega);refine⟨?_,n+(n2+nq)+1,?_⟩
   · rw[e];rfl
   rw[e,aj.out,AW.out,ZQ,AG.out a,AG.out j'];exact zBs (Value.int .i32) w blk off dk _ j' a (by omega) (by omega)
 go_wp2_with fail;go_big_quiet (first|(go_at_call 183;refine Calls.quiet_of_same (So.cmp_Less_int _ _ _)));go_wp2
 ·
  have ht:Sort.ltInt (Gk i') (Gk a)=true:=by assumption
  go_roundw
  case rel=>exact⟨i'+1,n1+nq,by go_num,by omega,by omega,by rw[aq.out,ZQ],(zIp (fun x=>Sort.ltInt x dk[a]!) dk j i' hle (by rw[←AG.out a,←AG.out i'];exact ht)).symm.trans hsc.out⟩
  simp[intOf];omega
 ·
  have ht:Sort.ltInt (Gk i') (Gk a)=false:=by assumption
  have ak:Hid (i'=Sort.scanUp (fun x=>Sort.ltInt x dk[a]!) dk j i):=(zCL (fun x=>Sort.ltInt x dk[a]!) dk j i' (Or.inr (by rw[←AG.out a,←AG.out i'];exact ht))).symm.trans hsc.out;clear ht;have ae:wr.drewN nq=W1.drewN (n1+nq):=by rw[aq.out,ZQ]
  clear ag aq hsc
  go_loopw [11] (fun vj w2=>∃(j' n2:Nat),vj=.int .i64 j'∧j'≤j∧i'≤j'+1∧w2=W1.drewN n2 ∧
   Hid (Sort.scanDown (fun x=>!Sort.ltInt x dk[a]!) dk i' j'=Sort.scanDown (fun x=>!Sort.ltInt x dk[a]!) dk i' j))
   (fun vj _=>(intOf vj).toNat)
  case atStart=>exact⟨j,n1+nq,rfl,Za _,ao,ae,rfl⟩
  clear ae;obtain⟨j',n2,rfl,a8,av,ae,af⟩:=hrel;have ag:∀t,t<d.size→wr.cell? ⟨blk,off+t,none⟩=some (.int .i32 (Gk t)):=fun t ht=>by rw[ae];exact hc t ht
  have ap:Hid (wr=W1.drewN n2):=ae;clear ae
  by_cases hle2:i'≤j'
  rotate_left
  · go_wp2_with fail;go_big_quiet (first|(go_at_call 183;refine Calls.quiet_of_same (So.cmp_Less_int _ _ _)));have ah:Hid (j'=Sort.scanDown (fun x=>!Sort.ltInt x dk[a]!) dk i' j):=(zB7 (fun x=>!Sort.ltInt x dk[a]!) dk i' j' (Or.inl hle2)).symm.trans af.out;clear ag af;have aa:wr.drewN nq=W1.drewN (n2+nq):=by rw[ap.out,ZQ]
    generalize wr.drewN nq=W3 at aa ⊢;have ai:∀t,t<d.size→W3.cell? ⟨blk,off+t,none⟩=some (.int .i32 (Gk t)):=fun t ht=>by rw[aa];exact hc t ht
    have aw:∀t,t<d.size→W3.frozen? ⟨blk,off+t,none⟩=false:=fun t ht=>by rw[aa];exact hf t ht
    have aj:Hid (W3=W1.drewN (n2+nq)):=aa;clear aa;obtain⟨v3,ax⟩:=YQ (w:=W3) (p:=⟨blk,off+j',none⟩) (x:=.int .i32 (Gk a)) (q:=⟨blk,off+a,none⟩) (ai a (by omega));have ba:j'<d.size:=by omega
    go_wp2;go_region
    all_goals go_wp2
    all_goals go_ret2
    have e:Sort.partition Sort.ltInt d a b pivot=(j',true,Sort.swp dk j' a):=zEn Sort.ltInt d a b pivot HI.out HJ.out a6.out ak.out ah.out (by omega);refine⟨?_,n+(n2+nq)+1,?_⟩
    · rw[e];rfl
    rw[e,aj.out,AW.out,ZQ,AG.out a,AG.out j'];exact zBs (Value.int .i32) w blk off dk _ j' a (by omega) (by omega)
  go_wp2_with fail;go_big_quiet (first|(go_at_call 183;refine Calls.quiet_of_same (So.cmp_Less_int _ _ _)));go_wp2
  ·
   have ht:(!Sort.ltInt (Gk j') (Gk a))=true:=by assumption
   go_roundw
   case rel=>exact⟨j'-1,n2+nq,by go_num,by omega,by omega,by rw[ap.out,ZQ],(zFL (fun x=>!Sort.ltInt x dk[a]!) dk i' j' hle2 (by omega) (by rw[←AG.out a,←AG.out j'];exact ht)).symm.trans af.out⟩
   simp[intOf];omega
  ·
   have ht:(!Sort.ltInt (Gk j') (Gk a))=false:=by assumption
   have ah:Hid (j'=Sort.scanDown (fun x=>!Sort.ltInt x dk[a]!) dk i' j):=(zB7 (fun x=>!Sort.ltInt x dk[a]!) dk i' j' (Or.inr (by rw[←AG.out a,←AG.out j'];exact ht))).symm.trans af.out;clear ag af ht;have aa:wr.drewN nq=W1.drewN (n2+nq):=by rw[ap.out,ZQ]
   generalize wr.drewN nq=W3 at aa ⊢;have ai:∀t,t<d.size→W3.cell? ⟨blk,off+t,none⟩=some (.int .i32 (Gk t)):=fun t ht=>by rw[aa];exact hc t ht
   have aw:∀t,t<d.size→W3.frozen? ⟨blk,off+t,none⟩=false:=fun t ht=>by rw[aa];exact hf t ht
   have aj:Hid (W3=W1.drewN (n2+nq)):=aa;clear aa;obtain⟨v3,ax⟩:=YQ (w:=W3) (p:=⟨blk,off+i',none⟩) (x:=.int .i32 (Gk j')) (q:=⟨blk,off+j',none⟩) (ai j' (by omega));have az:=zGb Sort.ltInt a i j dk (by omega) ak.out ah.out hle2;go_wp2;go_region
   all_goals go_wp2
   obtain⟨R,hR⟩:∃R,R=Sort.partLoop Sort.ltInt a (i'+1) (j'-1) (Sort.swp dk i' j'):=⟨_,rfl⟩;have HP:Hid (Sort.partition Sort.ltInt d a b pivot=(R.1,false,Sort.swp R.2 R.1 a)):=by rw[hR];exact zKp Sort.ltInt d a b pivot HI.out HJ.out a6.out ak.out ah.out (by omega)
   have bc:((W3.setCell ⟨blk,off+i',none⟩ (.int .i32 (Gk j'))).setCell ⟨blk,off+j',none⟩ (.int .i32 (Gk i'))).drew=(putRow (Value.int .i32) w blk off (Sort.swp dk i' j')).drewN (n+(n2+nq)+1):=by
    rw[aj.out,AW.out,ZQ,AG.out i',AG.out j'];exact zBs (Value.int .i32) w blk off dk _ i' j' (by omega) (by omega)
   have HR:Hid (R=Sort.partLoop Sort.ltInt a (i'+1) (j'-1) (Sort.swp dk i' j')):=hR;clear hR hc hf ai aw ax aj AW AG ak ah
   go_loopw [10,11] (fun vi vj wr=>∃(i j n:Nat) (dk:Array Int),vi=.int .i64 i∧vj=.int .i64 j∧a<i∧i≤j+1∧j<b∧dk.size=d.size∧wr=(putRow (Value.int .i32) w blk off dk).drewN n ∧
    Sort.partLoop Sort.ltInt a i j dk=R)
    (fun vi vj _=>(intOf vj).toNat+1-(intOf vi).toNat)
   case atStart=>exact⟨i'+1,j'-1,_,Sort.swp dk i' j',by go_num,by go_num,by omega,by omega,by omega,by rw[size_swp];exact hs,bc,HR.out.symm⟩
   clear bc HR;obtain⟨i,j,n,dk,rfl,rfl,bg,hij,bh,hs,hw,bb⟩:=hrel
   rename World=>W1
   have AE:Hid (Sort.partLoop Sort.ltInt a i j dk=R):=bb;clear bb
   have ar:Holds (Value.int .i32) W1 blk off dk:=by
    rw[hw];exact holds_putRow (Value.int .i32) w blk off d dk AH.out hs
   obtain⟨Gk,hG⟩:∃Gk:Nat→Int,∀t,Gk t=dk[t]! := ⟨fun t=>dk[t]!,fun _=>rfl⟩;have hc:∀t,t<d.size→W1.cell? ⟨blk,off+t,none⟩=some (.int .i32 (Gk t)):=fun t ht=>by rw[hG];exact (ar t (by omega)).1
   have hf:∀t,t<d.size→W1.frozen? ⟨blk,off+t,none⟩=false:=fun t ht=>(ar t (by omega)).2
   have AG:Hid (∀t,Gk t=dk[t]!):=hG;have AW:Hid (W1=(putRow (Value.int .i32) w blk off dk).drewN n):=hw;clear hG hw ar;go_wp2
   go_loopw [10] (fun vi w1=>∃(i' n1:Nat),vi=.int .i64 i'∧i≤i'∧i'≤j+1∧w1=W1.drewN n1 ∧
    Hid (Sort.scanUp (fun x=>Sort.ltInt x dk[a]!) dk j i'=Sort.scanUp (fun x=>Sort.ltInt x dk[a]!) dk j i))
    (fun vi _=>j+1-(intOf vi).toNat)
   case atStart=>exact⟨i,0,rfl,Za _,hij,rfl,rfl⟩
   obtain⟨i',n1,rfl,bi,ao,au,hsc⟩:=hrel;have ag:∀t,t<d.size→wr.cell? ⟨blk,off+t,none⟩=some (.int .i32 (Gk t)):=fun t ht=>by rw[au];exact hc t ht
   have aq:Hid (wr=W1.drewN n1):=au;clear au
   by_cases hle:i'≤j
   rotate_left
   · go_wp2_with fail;go_big_quiet (first|(go_at_call 183;refine Calls.quiet_of_same (So.cmp_Less_int _ _ _)));go_wp2;have ak:Hid (i'=Sort.scanUp (fun x=>Sort.ltInt x dk[a]!) dk j i):=(zCL (fun x=>Sort.ltInt x dk[a]!) dk j i' (Or.inl hle)).symm.trans hsc.out;have ae:wr.drewN nq=W1.drewN (n1+nq):=by rw[aq.out,ZQ]
     clear ag aq hsc
     go_loopw [11] (fun vj w2=>∃(j' n2:Nat),vj=.int .i64 j'∧j'≤j∧i'≤j'+1∧w2=W1.drewN n2 ∧
      Hid (Sort.scanDown (fun x=>!Sort.ltInt x dk[a]!) dk i' j'=Sort.scanDown (fun x=>!Sort.ltInt x dk[a]!) dk i' j))
      (fun vj _=>(intOf vj).toNat)
     case atStart=>exact⟨j,n1+nq,rfl,Za _,ao,ae,rfl⟩
     clear ae;obtain⟨j',n2,rfl,a8,av,ae,af⟩:=hrel;have ag:∀t,t<d.size→wr.cell? ⟨blk,off+t,none⟩=some (.int .i32 (Gk t)):=fun t ht=>by rw[ae];exact hc t ht
     have ap:Hid (wr=W1.drewN n2):=ae;clear ae
     by_cases hle2:i'≤j'
     · exfalso;omega
     go_wp2_with fail;go_big_quiet (first|(go_at_call 183;refine Calls.quiet_of_same (So.cmp_Less_int _ _ _)));have ah:Hid (j'=Sort.scanDown (fun x=>!Sort.ltInt x dk[a]!) dk i' j):=(zB7 (fun x=>!Sort.ltInt x dk[a]!) dk i' j' (Or.inl hle2)).symm.trans af.out;clear ag af;have aa:wr.drewN nq=W1.drewN (n2+nq):=by rw[ap.out,ZQ]
     generalize wr.drewN nq=W3 at aa ⊢;have ai:∀t,t<d.size→W3.cell? ⟨blk,off+t,none⟩=some (.int .i32 (Gk t)):=fun t ht=>by rw[aa];exact hc t ht
     have aw:∀t,t<d.size→W3.frozen? ⟨blk,off+t,none⟩=false:=fun t ht=>by rw[aa];exact hf t ht
     have aj:Hid (W3=W1.drewN (n2+nq)):=aa;clear aa;obtain⟨v3,ax⟩:=YQ (w:=W3) (p:=⟨blk,off+j',none⟩) (x:=.int .i32 (Gk a)) (q:=⟨blk,off+a,none⟩) (ai a (by omega));have ba:j'<d.size:=by omega
     go_wp2;go_region
     all_goals go_wp2
     all_goals go_ret2
     have e:Sort.partition Sort.ltInt d a b pivot=(j',false,Sort.swp dk j' a):=by
      have e0:=(zJG Sort.ltInt a i j dk ak.out ah.out (by omega)).symm.trans AE.out;rw[HP.out,←e0]
     refine⟨?_,n+(n2+nq)+1,?_⟩
     · rw[e];rfl
     rw[e,aj.out,AW.out,ZQ,AG.out a,AG.out j'];exact zBs (Value.int .i32) w blk off dk _ j' a (by omega) (by omega)
   go_wp2_with fail;go_big_quiet (first|(go_at_call 183;refine Calls.quiet_of_same (So.cmp_Less_int _ _ _)));go_wp2
   ·
    have ht:Sort.ltInt (Gk i') (Gk a)=true:=by assumption
    go_roundw
    case rel=>exact⟨i'+1,n1+nq,by go_num,by omega,by omega,by rw[aq.out,ZQ],(zIp (fun x=>Sort.ltInt x dk[a]!) dk j i' hle (by rw[←AG.out a,←AG.out i'];exact ht)).symm.trans hsc.out⟩
    simp[intOf];omega
   ·
    have ht:Sort.ltInt (Gk i') (Gk a)=false:=by assumption
    have ak:Hid (i'=Sort.scanUp (fun x=>Sort.ltInt x dk[a]!) dk j i):=(zCL (fun x=>Sort.ltInt x dk[a]!) dk j i' (Or.inr (by rw[←AG.out a,←AG.out i'];exact ht))).symm.trans hsc.out;clear ht;have ae:wr.drewN nq=W1.drewN (n1+nq):=by rw[aq.out,ZQ]
    clear ag aq hsc
    go_loopw [11] (fun vj w2=>∃(j' n2:Nat),vj=.int .i64 j'∧j'≤j∧i'≤j'+1∧w2=W1.drewN n2 ∧
     Hid (Sort.scanDown (fun x=>!Sort.ltInt x dk[a]!) dk i' j'=Sort.scanDown (fun x=>!Sort.ltInt x dk[a]!) dk i' j))
     (fun vj _=>(intOf vj).toNat)
    case atStart=>exact⟨j,n1+nq,rfl,Za _,ao,ae,rfl⟩
    clear ae;obtain⟨j',n2,rfl,a8,av,ae,af⟩:=hrel;have ag:∀t,t<d.size→wr.cell? ⟨blk,off+t,none⟩=some (.int .i32 (Gk t)):=fun t ht=>by rw[ae];exact hc t ht
    have ap:Hid (wr=W1.drewN n2):=ae;clear ae
    by_cases hle2:i'≤j'
    · go_wp2_with fail;go_big_quiet (first|(go_at_call 183;refine Calls.quiet_of_same (So.cmp_Less_int _ _ _)));go_wp2
      ·
       have ht:(!Sort.ltInt (Gk j') (Gk a))=true:=by assumption
       go_roundw
       case rel=>exact⟨j'-1,n2+nq,by go_num,by omega,by omega,by rw[ap.out,ZQ],(zFL (fun x=>!Sort.ltInt x dk[a]!) dk i' j' hle2 (by omega) (by rw[←AG.out a,←AG.out j'];exact ht)).symm.trans af.out⟩
       simp[intOf];omega
      ·
       have ht:(!Sort.ltInt (Gk j') (Gk a))=false:=by assumption
       have ah:Hid (j'=Sort.scanDown (fun x=>!Sort.ltInt x dk[a]!) dk i' j):=(zB7 (fun x=>!Sort.ltInt x dk[a]!) dk i' j' (Or.inr (by rw[←AG.out a,←AG.out j'];exact ht))).symm.trans af.out;clear ag af ht;have aa:wr.drewN nq=W1.drewN (n2+nq):=by rw[ap.out,ZQ]
       generalize wr.drewN nq=W3 at aa ⊢;have ai:∀t,t<d.size→W3.cell? ⟨blk,off+t,none⟩=some (.int .i32 (Gk t)):=fun t ht=>by rw[aa];exact hc t ht
       have aw:∀t,t<d.size→W3.frozen? ⟨blk,off+t,none⟩=false:=fun t ht=>by rw[aa];exact hf t ht
       have aj:Hid (W3=W1.drewN (n2+nq)):=aa;clear aa;obtain⟨v3,ax⟩:=YQ (w:=W3) (p:=⟨blk,off+i',none⟩) (x:=.int .i32 (Gk j')) (q:=⟨blk,off+j',none⟩) (ai j' (by omega));have az:=zGb Sort.ltInt a i j dk (by omega) ak.out ah.out hle2;go_wp2;go_region
       all_goals go_wp2
       all_goals go_roundw
       case measure=>simp[intOf];omega
       refine⟨i'+1,j'-1,n+(n2+nq)+1,Sort.swp dk i' j',by go_num,by go_num,by omega,by omega,by omega,by rw[size_swp];exact hs,?_,?_⟩
       · rw[aj.out,AW.out,ZQ,AG.out i',AG.out j'];exact zBs (Value.int .i32) w blk off dk _ i' j' (by omega) (by omega)
       exact (zRt Sort.ltInt a i j dk ak.out ah.out (by omega)).symm.trans AE.out
    go_wp2_with fail;go_big_quiet (first|(go_at_call 183;refine Calls.quiet_of_same (So.cmp_Less_int _ _ _)));have ah:Hid (j'=Sort.scanDown (fun x=>!Sort.ltInt x dk[a]!) dk i' j):=(zB7 (fun x=>!Sort.ltInt x dk[a]!) dk i' j' (Or.inl hle2)).symm.trans af.out;clear ag af;have aa:wr.drewN nq=W1.drewN (n2+nq):=by rw[ap.out,ZQ]
    generalize wr.drewN nq=W3 at aa ⊢;have ai:∀t,t<d.size→W3.cell? ⟨blk,off+t,none⟩=some (.int .i32 (Gk t)):=fun t ht=>by rw[aa];exact hc t ht
    have aw:∀t,t<d.size→W3.frozen? ⟨blk,off+t,none⟩=false:=fun t ht=>by rw[aa];exact hf t ht
    have aj:Hid (W3=W1.drewN (n2+nq)):=aa;clear aa;obtain⟨v3,ax⟩:=YQ (w:=W3) (p:=⟨blk,off+j',none⟩) (x:=.int .i32 (Gk a)) (q:=⟨blk,off+a,none⟩) (ai a (by omega));have ba:j'<d.size:=by omega
    go_wp2;go_region
    all_goals go_wp2
    all_goals go_ret2
    have e:Sort.partition Sort.ltInt d a b pivot=(j',false,Sort.swp dk j' a):=by
     have e0:=(zJG Sort.ltInt a i j dk ak.out ah.out (by omega)).symm.trans AE.out;rw[HP.out,←e0]
    refine⟨?_,n+(n2+nq)+1,?_⟩
    · rw[e];rfl
    rw[e,aj.out,AW.out,ZQ,AG.out a,AG.out j'];exact zBs (Value.int .i32) w blk off dk _ j' a (by omega) (by omega)
theorem zE3 (blk off cap a b pivot:Nat) (d:Array Int) (w:World) (hH:Holds (Value.int .i32) w blk off d) (ae:a≤pivot) (hpb:pivot<b) (hb:b≤d.size) (aa:d.size<4611686018427387904) :
 Calls prog 185 #[.slice (some ⟨blk,off,none⟩) d.size cap,.int .i64 a,.int .i64 b,.int .i64 pivot] w fun e w' =>
  e=.returned (.tuple #[.int .i64 (Sort.partition Sort.ltInt d a b pivot).1,.bool (Sort.partition Sort.ltInt d a b pivot).2.1])∧∃n,w'=putRow (Value.int .i32) (Sort.ahead w n) blk off (Sort.partition Sort.ltInt d a b pivot).2.2 :=
 (zHE blk off cap a b pivot d w hH ae hpb hb aa).mono fun _ _ ⟨he,n,hw⟩=>⟨he,n,hw⟩
end Go.Proofs.YthngjlllojiacaaGreatDoor
