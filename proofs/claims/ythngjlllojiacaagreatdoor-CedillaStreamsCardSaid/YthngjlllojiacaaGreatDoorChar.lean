/- The laws' Char and Chars, by walking their texts. -/
import Derived.Test.YthngjlllojiacaaGreatDoorMdTable
set_option maxRecDepth 100000
set_option maxHeartbeats 400000
set_option linter.unusedVariables false
set_option linter.unusedSimpArgs false
namespace Go.Proofs.YthngjlllojiacaaGreatDoor
open Go.Proofs.Tryz
open Go.RowKit
theorem Ch.isC_iff (c:Int):C.isC c=true↔(0≤c∧c≤1114111∧(c<55296∨57343<c)):=by unfold C.isC;simp
theorem Ch.take_succ_get {α:Type} {l:List α} {k:Nat} {x:α} (h:l[k]?=some x):l.take (k+1)=l.take k++[x]:=by
 rw[ZA,h];rfl
def Ch.RetOwn (el:TypeId) (k:IntKind) (l:List Int) (w:World) (e:Ending) (w':World):Prop :=
 ∃A c,e=.returned (.slice A l.length c)∧w'.ownsRow w.heap.size el 1 (.slice A l.length c) l.length (l.map (Value.int k))∧Below w.heap.size w w'
theorem Ch.RetOwn.mk {el:TypeId} {k:IntKind} {l:List Int} {w w':World} {v:Value} {m:Nat} {xs:List Value} (h:w'.ownsRow w.heap.size el 1 v m xs) (hm:m=l.length) (hx:xs=l.map (Value.int k)) (hb:Below w.heap.size w w') :
 Ch.RetOwn el k l w (.returned v) w':=by
 subst hm hx;obtain⟨A,c,rfl⟩:=zA3 h;exact⟨A,c,rfl,h,hb⟩
theorem Ch.and_21 (n:Int):bits .and .i64 n 2097151=n%2097152:=by
 have hm:(BitVec.ofInt 64 2097151).toNat=2 ^ 21-1:=by decide
 have key:(BitVec.ofInt 64 n &&& BitVec.ofInt 64 2097151).toNat=(n%((2 ^ 64:Nat):Int)).toNat%2 ^ 21:=by
  rw[Xu,Xk,hm,Yj]
 show IntKind.i64.wrap ((BitVec.ofInt 64 n &&& BitVec.ofInt 64 2097151).toNat:Nat)=n%2097152;rw[key,Z5];omega
theorem Ch.and_11 (n:Int):bits .and .i64 n 2047=n%2048:=by
 have hm:(BitVec.ofInt 64 2047).toNat=2 ^ 11-1:=by decide
 have key:(BitVec.ofInt 64 n &&& BitVec.ofInt 64 2047).toNat=(n%((2 ^ 64:Nat):Int)).toNat%2 ^ 11:=by
  rw[Xu,Xk,hm,Yj]
 show IntKind.i64.wrap ((BitVec.ofInt 64 n &&& BitVec.ofInt 64 2047).toNat:Nat)=n%2048;rw[key,Z5];omega
def Ch.K (x:Int):Int:=if C.isC (x%2097152) then x%2097152 else x%2097152%2048
theorem Ch.K_is (x:Int):C.isC (Ch.K x)=true:=by
 unfold Ch.K;split
 · assumption
 rw[Ch.isC_iff];omega
theorem Ch.K_bd (x:Int) : -2147483648≤Ch.K x∧Ch.K x≤2147483647:=by
 have:=(Ch.isC_iff _).1 (Ch.K_is x);omega
theorem Ch.ris_any (c:Int) (w:World):Calls prog 69 #[.int .i64 c] w fun e w'=>e=.returned (.bool (C.isC c))∧w=w':=by
 obtain⟨q,hq⟩:∃q,C.isC c=q:=⟨_,rfl⟩;rw[hq];have HQ:=hy' hq;clear hq;go_enter func69,ntmps69
 by_cases h0:0≤c
 · by_cases h1:c≤1114111
   · by_cases h2:c<55296
     · go_wp2;go_ret;exact⟨by rw[←HQ.o];exact zB5 (by unfold C.isC;symm;exact decide_eq_true (by omega)),rfl⟩
     by_cases h3:57343<c
     · go_wp2;go_ret;exact⟨by rw[←HQ.o];exact zB5 (by unfold C.isC;symm;exact decide_eq_true (by omega)),rfl⟩
     go_wp2;go_ret;exact⟨by rw[←HQ.o];exact zB5 (by unfold C.isC;symm;exact decide_eq_false (by omega)),rfl⟩
   go_wp2;go_ret;exact⟨by rw[←HQ.o];exact zB5 (by unfold C.isC;symm;exact decide_eq_false (by omega)),rfl⟩
 go_wp2;go_ret;exact⟨by rw[←HQ.o];exact zB5 (by unfold C.isC;symm;exact decide_eq_false (by omega)),rfl⟩
theorem Ch.char_any (x:Int) (w:World) :
 Calls prog 35 #[.int .i64 x] w fun e w'=>e=.returned (.int .i32 (Ch.K x))∧w=w':=by
 have e1:=Ch.and_21 x;have e2:=Ch.and_11 (x%2097152);have b1:0≤x%2097152:=by omega
 have b2:x%2097152≤2097151:=by omega
 have b3:0≤x%2048:=by omega
 have b4:x%2048≤2047:=by omega
 by_cases hi:C.isC (x%2097152)=true
 · have hk:Ch.K x=x%2097152:=by unfold Ch.K;rw[if_pos hi]
   have HK:=hy' hk;clear hk;go_enter func35,ntmps35;go_wp2_with (go_at_call 69;refine (Ch.ris_any _ _).mono ?_;rintro e w' ⟨rfl,rfl⟩);go_ret;exact⟨zBK HK.o.symm,rfl⟩
 have hk:Ch.K x=x%2048:=by unfold Ch.K;rw[if_neg hi];omega
 have hi':C.isC (x%2097152)=false:=by simpa using hi
 have HK:=hy' hk;clear hk hi;go_enter func35,ntmps35;go_wp2_with (go_at_call 69;refine (Ch.ris_any _ _).mono ?_;rintro e w' ⟨rfl,rfl⟩);go_ret;exact⟨zBK HK.o.symm,rfl⟩
end Go.Proofs.YthngjlllojiacaaGreatDoor
