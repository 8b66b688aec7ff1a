/- The laws' Char and Chars, by walking their texts. -/
import Derived.Test.YtjakbblocbicjaaGreatDoorMdTable
set_option maxRecDepth 100000
set_option maxHeartbeats 1000000
set_option linter.unusedVariables false
set_option linter.unusedSimpArgs false
namespace Go.Proofs.YtjakbblocbicjaaGreatDoor
open Go.Proofs.Tryz
open Go.RowKit
theorem Ch.isC_iff (c:Int):C.isC c=true↔(0≤c∧c≤1114111∧(c<55296∨57343<c)):=by unfold C.isC;simp
theorem Ch.take_succ_get {α:Type} {l:List α} {k:Nat} {x:α} (h:l[k]?=some x):l.take (k+1)=l.take k++[x]:=by
 rw[ZA,h];rfl
def Ch.RetOwn (el:TypeId) (k:IntKind) (l:List Int) (w:World) (e:Ending) (w':World):Prop :=
 ∃A c,e=.returned (.slice A l.length c)∧w'.ownsRow w.heap.size el 1 (.slice A l.length c) l.length (l.map (Value.int k))∧Below w.heap.size w w'
theorem Ch.RetOwn.mk {el:TypeId} {k:IntKind} {l:List Int} {w w':World} {v:Value} {m:Nat} {xs:List Value} (h:w'.ownsRow w.heap.size el 1 v m xs) (hm:m=l.length) (hx:xs=l.map (Value.int k)) (hb:Below w.heap.size w w') :
 Ch.RetOwn el k l w (.returned v) w':=by
 subst hm hx;obtain⟨A,c,rfl⟩:=zA3 h;exact⟨A,c,rfl,h,hb⟩
theorem Ch.and_21 (n:Int):bits .and .i64 n 2097151=n%2097152:=by
 have hm:(BitVec.ofInt 64 2097151).toNat=2 ^ 21-1:=by decide
 have key:(BitVec.ofInt 64 n &&& BitVec.ofInt 64 2097151).toNat=(n%((2 ^ 64:Nat):Int)).toNat%2 ^ 21:=by
  rw[Xu,Xm,hm,Yo]
 show IntKind.i64.wrap ((BitVec.ofInt 64 n &&& BitVec.ofInt 64 2097151).toNat:Nat)=n%2097152;rw[key,Z4];omega
theorem Ch.and_11 (n:Int):bits .and .i64 n 2047=n%2048:=by
 have hm:(BitVec.ofInt 64 2047).toNat=2 ^ 11-1:=by decide
 have key:(BitVec.ofInt 64 n &&& BitVec.ofInt 64 2047).toNat=(n%((2 ^ 64:Nat):Int)).toNat%2 ^ 11:=by
  rw[Xu,Xm,hm,Yo]
 show IntKind.i64.wrap ((BitVec.ofInt 64 n &&& BitVec.ofInt 64 2047).toNat:Nat)=n%2048;rw[key,Z4];omega
def Ch.K (x:Int):Int:=if C.isC (x%2097152) then x%2097152 else x%2097152%2048
theorem Ch.K_is (x:Int):C.isC (Ch.K x)=true:=by
 unfold Ch.K;split
 · assumption
 rw[Ch.isC_iff];omega
theorem Ch.K_bd (x:Int) : -2147483648≤Ch.K x∧Ch.K x≤2147483647:=by
 have:=(Ch.isC_iff _).1 (Ch.K_is x);omega
theorem Ch.ris_any (c:Int) (w:World):Calls prog 75 #[.int .i64 c] w fun e w'=>e=.returned (.bool (C.isC c))∧w=w':=by
 obtain⟨q,hq⟩:∃q,C.isC c=q:=⟨_,rfl⟩;rw[hq];have HQ:=hy' hq;clear hq;go_enter func75,ntmps75
 by_cases h0:0≤c
 · by_cases h1:c≤1114111
   · by_cases h2:c<55296
     · go_wp2;go_ret;exact⟨by rw[←HQ.o];exact zB9 (by unfold C.isC;symm;exact decide_eq_true (by omega)),rfl⟩
     by_cases h3:57343<c
     · go_wp2;go_ret;exact⟨by rw[←HQ.o];exact zB9 (by unfold C.isC;symm;exact decide_eq_true (by omega)),rfl⟩
     go_wp2;go_ret;exact⟨by rw[←HQ.o];exact zB9 (by unfold C.isC;symm;exact decide_eq_false (by omega)),rfl⟩
   go_wp2;go_ret;exact⟨by rw[←HQ.o];exact zB9 (by unfold C.isC;symm;exact decide_eq_false (by omega)),rfl⟩
 go_wp2;go_ret;exact⟨by rw[←HQ.o];exact zB9 (by unfold C.isC;symm;exact decide_eq_false (by omega)),rfl⟩
theorem Ch.char_any (x:Int) (w:World) :
 Calls prog 48 #[.int .i64 x] w fun e w'=>e=.returned (.int .i32 (Ch.K x))∧w=w':=by
 have e1:=Ch.and_21 x;have e2:=Ch.and_11 (x%2097152);have b1:0≤x%2097152:=by omega
 have b2:x%2097152≤2097151:=by omega
 have b3:0≤x%2048:=by omega
 have b4:x%2048≤2047:=by omega
 by_cases hi:C.isC (x%2097152)=true
 · have hk:Ch.K x=x%2097152:=by unfold Ch.K;rw[if_pos hi]
   have HK:=hy' hk;clear hk;go_enter func48,ntmps48;go_wp2_with (go_at_call 75;refine (Ch.ris_any _ _).mono ?_;rintro e w' ⟨rfl,rfl⟩);go_ret;exact⟨zBN HK.o.symm,rfl⟩
 have hk:Ch.K x=x%2048:=by unfold Ch.K;rw[if_neg hi];omega
 have hi':C.isC (x%2097152)=false:=by simpa using hi
 have HK:=hy' hk;clear hk hi;go_enter func48,ntmps48;go_wp2_with (go_at_call 75;refine (Ch.ris_any _ _).mono ?_;rintro e w' ⟨rfl,rfl⟩);go_ret;exact⟨zBN HK.o.symm,rfl⟩
theorem Ch.chars_any (A:Option Addr) (len cap B:Nat) (l:List Int) (m:Nat) (w:World) (hB:B≤w.heap.size) (hl:l.length=min len m) (hm:m≤1000) (hA:Sl w B A (l.map (Value.int .i64))) (hlen:len≤maxLen) :
 Calls prog 29 #[.slice A len cap,.int .i64 m] w (Ch.RetOwn 21 .i32 (l.map Ch.K) w):=by
 have HL:=hy' hl;clear hl;unfold maxLen at hlen;obtain⟨i0,hi,ar,aj,ao⟩:=Z2 zBL;go_enter func29,ntmps29;go_wp2;go_loopw [6,5] (fun i v wr=>∃k:Nat,k≤len∧k≤m∧i=.int .i64 k∧wr.ownsRow w.heap.size 21 1 v k (((l.take k).map Ch.K).map (Value.int .i32))∧Below w.heap.size w wr) (fun i _ _=>m-(intOf i).toNat)
 case atStart=>exact⟨0,by omega,by omega,rfl,ZE _ _ _ _,Zc _ _⟩
 obtain⟨k,hk,au,rfl,ae,aa⟩:=hrel;have ak:=aa.size
 have ag:¬(k<len∧k<m)→wr.ownsRow w.heap.size 21 1 u5 (l.map Ch.K).length ((l.map Ch.K).map (Value.int .i32)):=by
  intro h;have ap:l.length=k:=by rw[HL.o];omega
  rw[Ze,ap]
  rwa [Zi (by omega)]at ae
 have HF:=hy' ag;clear ag
 by_cases hkn:(k:Int)<len
 · by_cases hkm':(k:Int)<m
   · obtain⟨x,hx⟩:∃x,l[k]?=some x:=⟨_,Zb (by rw[HL.o];omega)⟩;obtain⟨b,o,rfl,av,hc⟩:=hA.belowN aa hB (Za _) (by rw[Ze,HL.o];omega);have hcell:=hc k (by rw[Ze,HL.o];omega);rw[Zo,hx]at hcell;simp only[Option.map]at hcell;have ah:=Ch.take_succ_get hx;have aq:=hy' ah;clear hx ah hc;go_wp2_with (first|(go_at_call 48;refine (Ch.char_any _ _).mono ?_;rintro e w' ⟨rfl,rfl⟩)|(at_builtin;refine zAa _ rfl _ _ _ rfl w.heap.size 21 i0 _ 4 underlying35 hi ar aj ao rfl _ k _ rfl ae _ rfl rfl (by simp only[maxLen];omega) (by omega) ak ?_;intro v1 w2 af ai));exact⟨⟨k+1,by omega,by omega,by go_num,by rw[aq.o,ZL,ZL];exact af,aa.trans ai⟩,by simp[intOf];omega⟩
   go_wp2;go_ret;exact Ch.RetOwn.mk (HF.o (by omega)) rfl rfl aa
 go_wp2;go_ret;exact Ch.RetOwn.mk (HF.o (by omega)) rfl rfl aa
end Go.Proofs.YtjakbblocbicjaaGreatDoor
