/- The laws' Char and Chars, by walking their texts. -/
import Derived.Test.YtdbpjmfflofadaaGreatDoorCpFind
set_option maxRecDepth 100000
set_option maxHeartbeats 400000
set_option linter.unusedVariables false
set_option linter.unusedSimpArgs false
namespace Go.Proofs.YtdbpjmfflofadaaGreatDoor
open Go.Proofs.Tryz
open Go.RowKit
theorem Ch.isC_iff (c:Int):C.isC c=true↔(0≤c∧c≤1114111∧(c<55296∨57343<c)):=by unfold C.isC;simp
theorem zRI (n:Int):bits .and .i64 n 2097151=n%2097152:=by
 have hm:(BitVec.ofInt 64 2097151).toNat=2 ^ 21-1:=by decide
 have key:(BitVec.ofInt 64 n &&& BitVec.ofInt 64 2097151).toNat=(n%((2 ^ 64:Nat):Int)).toNat%2 ^ 21:=by
  rw[XC,Xo,hm,Yj]
 show IntKind.i64.wrap ((BitVec.ofInt 64 n &&& BitVec.ofInt 64 2097151).toNat:Nat)=n%2097152;rw[key,Ya];omega
theorem zRJ (n:Int):bits .and .i64 n 2047=n%2048:=by
 have hm:(BitVec.ofInt 64 2047).toNat=2 ^ 11-1:=by decide
 have key:(BitVec.ofInt 64 n &&& BitVec.ofInt 64 2047).toNat=(n%((2 ^ 64:Nat):Int)).toNat%2 ^ 11:=by
  rw[XC,Xo,hm,Yj]
 show IntKind.i64.wrap ((BitVec.ofInt 64 n &&& BitVec.ofInt 64 2047).toNat:Nat)=n%2048;rw[key,Ya];omega
def zId (x:Int):Int:=if C.isC (x%2097152) then x%2097152 else x%2097152%2048
theorem zLK (x:Int):C.isC (zId x)=true:=by
 unfold zId;split
 · assumption
 rw[Ch.isC_iff];omega
theorem zLL (x:Int) : -2147483648≤zId x∧zId x≤2147483647:=by
 have:=(Ch.isC_iff _).1 (zLK x);omega
theorem zFE (c:Int) (w:World):Calls prog 68 #[.int .i64 c] w fun e w'=>e=.returned (.bool (C.isC c))∧w=w':=by
 obtain⟨q,hq⟩:∃q,C.isC c=q:=⟨_,rfl⟩;rw[hq];have HQ:=hy' hq;clear hq;go_enter func68,ntmps68
 by_cases h0:0≤c
 · by_cases h1:c≤1114111
   · by_cases h2:c<55296
     · go_wp2;go_ret;exact⟨by rw[←HQ.o];exact zCc (by unfold C.isC;symm;exact decide_eq_true (by omega)),rfl⟩
     by_cases h3:57343<c
     · go_wp2;go_ret;exact⟨by rw[←HQ.o];exact zCc (by unfold C.isC;symm;exact decide_eq_true (by omega)),rfl⟩
     go_wp2;go_ret;exact⟨by rw[←HQ.o];exact zCc (by unfold C.isC;symm;exact decide_eq_false (by omega)),rfl⟩
   go_wp2;go_ret;exact⟨by rw[←HQ.o];exact zCc (by unfold C.isC;symm;exact decide_eq_false (by omega)),rfl⟩
 go_wp2;go_ret;exact⟨by rw[←HQ.o];exact zCc (by unfold C.isC;symm;exact decide_eq_false (by omega)),rfl⟩
theorem Ch.char_any (x:Int) (w:World) :
 Calls prog 34 #[.int .i64 x] w fun e w'=>e=.returned (.int .i32 (zId x))∧w=w':=by
 have e1:=zRI x;have e2:=zRJ (x%2097152);have b1:0≤x%2097152:=by omega
 have b2:x%2097152≤2097151:=by omega
 have b3:0≤x%2048:=by omega
 have b4:x%2048≤2047:=by omega
 by_cases hi:C.isC (x%2097152)=true
 · have hk:zId x=x%2097152:=by unfold zId;rw[if_pos hi]
   have HK:=hy' hk;clear hk;go_enter func34,ntmps34;go_wp2_with (go_at_call 68;refine (zFE _ _).mono ?_;rintro e w' ⟨rfl,rfl⟩);go_ret;exact⟨zCb HK.o.symm,rfl⟩
 have hk:zId x=x%2048:=by unfold zId;rw[if_neg hi];omega
 have hi':C.isC (x%2097152)=false:=by simpa using hi
 have HK:=hy' hk;clear hk hi;go_enter func34,ntmps34;go_wp2_with (go_at_call 68;refine (zFE _ _).mono ?_;rintro e w' ⟨rfl,rfl⟩);go_ret;exact⟨zCb HK.o.symm,rfl⟩
end Go.Proofs.YtdbpjmfflofadaaGreatDoor
