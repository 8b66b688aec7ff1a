/- Comparing texts: plain law, and the walks of Compare, Char, Chars. -/
import Derived.Test.YthngjlllojiacaaGreatDoorUtfH
import Derived.Lib.Bytealg
set_option maxRecDepth 100000
set_option maxHeartbeats 400000
set_option linter.unusedVariables false
set_option linter.unusedSimpArgs false
namespace Go.Proofs.YthngjlllojiacaaGreatDoor
open Go.Proofs.Tryz
open Go.RowKit
theorem U.u8_lt (p q:Int) (h1:0≤p) (h2:p<256) (h3:0≤q) (h4:q<256):(U.u8 p<U.u8 q)↔p<q:=by
 rw[UInt8.lt_iff_toNat_lt];have:=zAY p h1 h2;have:=zAY q h3 h4;omega
theorem U.cmp_cons (p q:Int) (s t:List UInt8) (h1:0≤p) (h2:p<256) (h3:0≤q) (h4:q<256) :
 Lib.compareBytes (U.u8 p::s) (U.u8 q::t)=if p<q then -1 else if q<p then 1 else Lib.compareBytes s t:=by
 show (if U.u8 p<U.u8 q then _ else if U.u8 q<U.u8 p then _ else _)=_;simp only[U.u8_lt p q h1 h2 h3 h4,U.u8_lt q p h3 h4 h1 h2]
def U.cmpL:List Int→List Int→Int
 | [],[]=>0
 | [],_::_ => -1
 | _::_,[]=>1
 | a::x,b::y=>if a<b then -1 else if b<a then 1 else U.cmpL x y
theorem U.enc_one {c:Int} (h:c<128):zAk c=[U.u8 c]:=by unfold zAk;rw[if_pos h]
theorem U.enc_two {c:Int} (h:¬c<128) (h':c<2048):zAk c=[U.u8 (192+c/64),U.u8 (128+c%64)]:=by unfold zAk;rw[if_neg h,if_pos h']
theorem U.enc_three {c:Int} (h:¬c<128) (h':¬c<2048) (aa:c<65536):zAk c=[U.u8 (224+c/4096),U.u8 (128+c/64%64),U.u8 (128+c%64)]:=by unfold zAk;rw[if_neg h,if_neg h',if_pos aa]
theorem U.enc_four {c:Int} (h:¬c<128) (h':¬c<2048) (aa:¬c<65536):zAk c=[U.u8 (240+c/262144),U.u8 (128+c/4096%64),U.u8 (128+c/64%64),U.u8 (128+c%64)]:=by unfold zAk;rw[if_neg h,if_neg h',if_neg aa]
theorem U.cmp_enc (x y:Int) (hx:U.isC x=true) (hy:U.isC y=true) (s t:List UInt8) :
 Lib.compareBytes (zAk x++s) (zAk y++t)=if x<y then -1 else if y<x then 1 else Lib.compareBytes s t:=by
 obtain⟨x1,x2,-⟩:=(U.isC_iff x).1 hx;obtain⟨y1,y2,-⟩:=(U.isC_iff y).1 hy
 by_cases a1:x<128 <;> by_cases b1:y<128
 · rw[U.enc_one a1,U.enc_one b1];simp only[Zo,ZH];rw[U.cmp_cons x y _ _ (by omega) (by omega) (by omega) (by omega)]
 · rw[U.enc_one a1,Zl (by omega)]
   by_cases b2:y<2048
   · rw[U.enc_two b1 b2];simp only[Zo,ZH];rw[U.cmp_cons _ _ _ _ (by omega) (by omega) (by omega) (by omega),Zl (by omega)]
   by_cases b3:y<65536
   · rw[U.enc_three b1 b2 b3];simp only[Zo,ZH];rw[U.cmp_cons _ _ _ _ (by omega) (by omega) (by omega) (by omega),Zl (by omega)]
   rw[U.enc_four b1 b2 b3];simp only[Zo,ZH];rw[U.cmp_cons _ _ _ _ (by omega) (by omega) (by omega) (by omega),Zl (by omega)]
 · rw[U.enc_one b1,Zj (by omega),Zl (by omega)]
   by_cases b2:x<2048
   · rw[U.enc_two a1 b2];simp only[Zo,ZH];rw[U.cmp_cons _ _ _ _ (by omega) (by omega) (by omega) (by omega),Zj (by omega),Zl (by omega)]
   by_cases b3:x<65536
   · rw[U.enc_three a1 b2 b3];simp only[Zo,ZH];rw[U.cmp_cons _ _ _ _ (by omega) (by omega) (by omega) (by omega),Zj (by omega),Zl (by omega)]
   rw[U.enc_four a1 b2 b3];simp only[Zo,ZH];rw[U.cmp_cons _ _ _ _ (by omega) (by omega) (by omega) (by omega),Zj (by omega),Zl (by omega)]
 by_cases a2:x<2048 <;> by_cases b2:y<2048
 · rw[U.enc_two a1 a2,U.enc_two b1 b2];simp only[Zo,ZH];rw[U.cmp_cons _ _ _ _ (by omega) (by omega) (by omega) (by omega),U.cmp_cons _ _ _ _ (by omega) (by omega) (by omega) (by omega)]
   repeat' split
   all_goals first|rfl|omega
 · rw[U.enc_two a1 a2,Zl (by omega)]
   by_cases b3:y<65536
   · rw[U.enc_three b1 b2 b3];simp only[Zo,ZH];rw[U.cmp_cons _ _ _ _ (by omega) (by omega) (by omega) (by omega),Zl (by omega)]
   rw[U.enc_four b1 b2 b3];simp only[Zo,ZH];rw[U.cmp_cons _ _ _ _ (by omega) (by omega) (by omega) (by omega),Zl (by omega)]
 · rw[U.enc_two b1 b2,Zj (by omega),Zl (by omega)]
   by_cases b3:x<65536
   · rw[U.enc_three a1 a2 b3];simp only[Zo,ZH];rw[U.cmp_cons _ _ _ _ (by omega) (by omega) (by omega) (by omega),Zj (by omega),Zl (by omega)]
   rw[U.enc_four a1 a2 b3];simp only[Zo,ZH];rw[U.cmp_cons _ _ _ _ (by omega) (by omega) (by omega) (by omega),Zj (by omega),Zl (by omega)]
 by_cases a3:x<65536 <;> by_cases b3:y<65536
 · rw[U.enc_three a1 a2 a3,U.enc_three b1 b2 b3];simp only[Zo,ZH];rw[U.cmp_cons _ _ _ _ (by omega) (by omega) (by omega) (by omega),U.cmp_cons _ _ _ _ (by omega) (by omega) (by omega) (by omega),U.cmp_cons _ _ _ _ (by omega) (by omega) (by omega) (by omega)]
   repeat' split
   all_goals first|rfl|omega
 · rw[U.enc_three a1 a2 a3,U.enc_four b1 b2 b3,Zl (by omega)];simp only[Zo,ZH];rw[U.cmp_cons _ _ _ _ (by omega) (by omega) (by omega) (by omega),Zl (by omega)]
 · rw[U.enc_three b1 b2 b3,U.enc_four a1 a2 a3,Zj (by omega),Zl (by omega)];simp only[Zo,ZH];rw[U.cmp_cons _ _ _ _ (by omega) (by omega) (by omega) (by omega),Zj (by omega),Zl (by omega)]
 rw[U.enc_four a1 a2 a3,U.enc_four b1 b2 b3];simp only[Zo,ZH];rw[U.cmp_cons _ _ _ _ (by omega) (by omega) (by omega) (by omega),U.cmp_cons _ _ _ _ (by omega) (by omega) (by omega) (by omega),U.cmp_cons _ _ _ _ (by omega) (by omega) (by omega) (by omega),U.cmp_cons _ _ _ _ (by omega) (by omega) (by omega) (by omega)]
 repeat' split
 all_goals first|rfl|omega
theorem U.cmp_encs:∀(x y:List Int),(∀c∈x,U.isC c=true)→(∀c∈y,U.isC c=true)→Lib.compareBytes (zAx x) (zAx y)=U.cmpL x y
 | [],[],_,_=>rfl
 | [],c::y,_,hy=>by
   rw[zAA];have:=(zCq c).1;rcases he:zAk c with _|⟨a,r⟩
   · rw[he]at this;simp at this
   rfl
 | c::x,[],hx,_=>by
   rw[zAA];have:=(zCq c).1;rcases he:zAk c with _|⟨a,r⟩
   · rw[he]at this;simp at this
   rfl
 | c::x,d::y,hx,hy=>by
   rw[zAA,zAA,U.cmp_enc c d (hx c (by simp)) (hy d (by simp)),U.cmp_encs x y (fun z hz=>hx z (Zv _ hz)) (fun z hz=>hy z (Zv _ hz))];rfl
theorem U.cmpL_swap:∀x y:List Int,U.cmpL y x = - U.cmpL x y
 | [],[]=>rfl
 | [],_::_=>rfl
 | _::_,[]=>rfl
 | a::x,b::y=>by
   show (if b<a then _ else if a<b then _ else _) = -(if a<b then _ else if b<a then _ else _);rw[U.cmpL_swap x y]
   repeat' split
   all_goals first|rfl|omega
theorem U.cmpL_zero:∀x y:List Int,U.cmpL x y=0↔x=y
 | [],[]=>by simp[U.cmpL]
 | [],_::_=>by simp[U.cmpL]
 | _::_,[]=>by simp[U.cmpL]
 | a::x,b::y=>by
   show (if a<b then _ else if b<a then _ else _)=_↔_;rw[Yb,←U.cmpL_zero x y]
   repeat' split
   all_goals omega
theorem U.cmpL_bd:∀x y:List Int,-1≤U.cmpL x y∧U.cmpL x y≤1
 | [],[]=>by simp[U.cmpL]
 | [],_::_=>by simp[U.cmpL]
 | _::_,[]=>by simp[U.cmpL]
 | a::x,b::y=>by
   have:=U.cmpL_bd x y;show _≤(if a<b then _ else if b<a then _ else _)∧(if a<b then _ else if b<a then _ else _)≤_
   repeat' split
   all_goals omega
theorem U.encs_inj {x y:List Int} (hx:∀c∈x,U.isC c=true) (hy:∀c∈y,U.isC c=true) (h:zAx x=zAx y):x=y :=
 (zGZ (l:=zAx x) (r:=[]) (r':=[]) ⟨by simp,hx,rfl⟩ ⟨by simp[h],hy,rfl⟩).1
theorem and_21 (n:Int):bits .and .i64 n 2097151=n%2097152:=by
 have hm:(BitVec.ofInt 64 2097151).toNat=2 ^ 21-1:=by decide
 have key:(BitVec.ofInt 64 n &&& BitVec.ofInt 64 2097151).toNat=(n%((2 ^ 64:Nat):Int)).toNat%2 ^ 21:=by
  rw[Xu,Xk,hm,Yj]
 show IntKind.i64.wrap ((BitVec.ofInt 64 n &&& BitVec.ofInt 64 2097151).toNat:Nat)=n%2097152;rw[key,Z5];omega
theorem and_11 (n:Int):bits .and .i64 n 2047=n%2048:=by
 have hm:(BitVec.ofInt 64 2047).toNat=2 ^ 11-1:=by decide
 have key:(BitVec.ofInt 64 n &&& BitVec.ofInt 64 2047).toNat=(n%((2 ^ 64:Nat):Int)).toNat%2 ^ 11:=by
  rw[Xu,Xk,hm,Yj]
 show IntKind.i64.wrap ((BitVec.ofInt 64 n &&& BitVec.ofInt 64 2047).toNat:Nat)=n%2048;rw[key,Z5];omega
def U.charK (x:Int):Int:=if U.isC (x%2097152) then x%2097152 else x%2097152%2048
theorem U.charK_is (x:Int):U.isC (U.charK x)=true:=by
 unfold U.charK;split
 · assumption
 rw[U.isC_iff];omega
theorem U.charK_bd (x:Int) : -2147483648≤U.charK x∧U.charK x≤2147483647:=by
 have:=(U.isC_iff _).1 (U.charK_is x);omega
theorem U.char_any (x:Int) (w:World) :
 Calls prog 35 #[.int .i64 x] w fun e w'=>e=.returned (.int .i32 (U.charK x))∧w=w':=by
 have e1:=and_21 x;have e2:=and_11 (x%2097152);have b1:0≤x%2097152:=by omega
 have b2:x%2097152≤2097151:=by omega
 have b3:0≤x%2048:=by omega
 have b4:x%2048≤2047:=by omega
 by_cases hi:U.isC (x%2097152)=true
 · have hk:U.charK x=x%2097152:=by unfold U.charK;rw[if_pos hi]
   have HK:=hy' hk;clear hk;go_enter func35,ntmps35;go_wp2_with (go_at_call 69;refine (U.ris_any _ _).mono ?_;rintro e w' ⟨rfl,rfl⟩);go_ret;exact⟨zBK HK.o.symm,rfl⟩
 have hk:U.charK x=x%2048:=by unfold U.charK;rw[if_neg hi];omega
 have hi':U.isC (x%2097152)=false:=by simpa using hi
 have HK:=hy' hk;clear hk hi;go_enter func35,ntmps35;go_wp2_with (go_at_call 69;refine (U.ris_any _ _).mono ?_;rintro e w' ⟨rfl,rfl⟩);go_ret;exact⟨zBK HK.o.symm,rfl⟩
theorem U.map_charK_is (l:List Int):∀c∈l.map U.charK,U.isC c=true:=by
 intro c hc;obtain⟨x,_,rfl⟩:=List.mem_map.1 hc;exact U.charK_is x
end Go.Proofs.YthngjlllojiacaaGreatDoor
