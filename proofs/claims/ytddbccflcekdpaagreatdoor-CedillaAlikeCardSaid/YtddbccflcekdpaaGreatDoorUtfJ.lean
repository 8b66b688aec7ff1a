/- Comparing texts: plain law, and the walks of Compare, Char, Chars. -/
import Derived.Test.YtddbccflcekdpaaGreatDoorUtfH
import Derived.Lib.Bytealg
set_option maxRecDepth 100000
set_option maxHeartbeats 1000000
set_option linter.unusedVariables false
set_option linter.unusedSimpArgs false
namespace Go.Proofs.YtddbccflcekdpaaGreatDoor
open Go.Proofs.Tryz
open Go.RowKit
theorem zQY (p q:Int) (h1:0≤p) (h2:p<256) (h3:0≤q) (h4:q<256):(U.u8 p<U.u8 q)↔p<q:=by
 rw[UInt8.lt_iff_toNat_lt];have:=zB3 p h1 h2;have:=zB3 q h3 h4;omega
theorem zAm (p q:Int) (s t:List UInt8) (h1:0≤p) (h2:p<256) (h3:0≤q) (h4:q<256) :
 Lib.compareBytes (U.u8 p::s) (U.u8 q::t)=if p<q then -1 else if q<p then 1 else Lib.compareBytes s t:=by
 show (if U.u8 p<U.u8 q then _ else if U.u8 q<U.u8 p then _ else _)=_;simp only[zQY p q h1 h2 h3 h4,zQY q p h3 h4 h1 h2]
def zB6:List Int→List Int→Int
 | [],[]=>0
 | [],_::_ => -1
 | _::_,[]=>1
 | a::x,b::y=>if a<b then -1 else if b<a then 1 else zB6 x y
theorem zGH {c:Int} (h:c<128):zAl c=[U.u8 c]:=by unfold zAl;rw[if_pos h]
theorem zE5 {c:Int} (h:¬c<128) (h':c<2048):zAl c=[U.u8 (192+c/64),U.u8 (128+c%64)]:=by unfold zAl;rw[if_neg h,if_pos h']
theorem zBL {c:Int} (h:¬c<128) (h':¬c<2048) (aa:c<65536):zAl c=[U.u8 (224+c/4096),U.u8 (128+c/64%64),U.u8 (128+c%64)]:=by unfold zAl;rw[if_neg h,if_neg h',if_pos aa]
theorem zC8 {c:Int} (h:¬c<128) (h':¬c<2048) (aa:¬c<65536):zAl c=[U.u8 (240+c/262144),U.u8 (128+c/4096%64),U.u8 (128+c/64%64),U.u8 (128+c%64)]:=by unfold zAl;rw[if_neg h,if_neg h',if_neg aa]
theorem zQZ (x y:Int) (hx:U.isC x=true) (hy:U.isC y=true) (s t:List UInt8) :
 Lib.compareBytes (zAl x++s) (zAl y++t)=if x<y then -1 else if y<x then 1 else Lib.compareBytes s t:=by
 obtain⟨x1,x2,-⟩:=(U.isC_iff x).1 hx;obtain⟨y1,y2,-⟩:=(U.isC_iff y).1 hy
 by_cases a1:x<128 <;> by_cases b1:y<128
 · rw[zGH a1,zGH b1];simp only[Zx,ZH];rw[zAm x y _ _ (by omega) (by omega) (by omega) (by omega)]
 · rw[zGH a1,Zo (by omega)]
   by_cases b2:y<2048
   · rw[zE5 b1 b2];simp only[Zx,ZH];rw[zAm _ _ _ _ (by omega) (by omega) (by omega) (by omega),Zo (by omega)]
   by_cases b3:y<65536
   · rw[zBL b1 b2 b3];simp only[Zx,ZH];rw[zAm _ _ _ _ (by omega) (by omega) (by omega) (by omega),Zo (by omega)]
   rw[zC8 b1 b2 b3];simp only[Zx,ZH];rw[zAm _ _ _ _ (by omega) (by omega) (by omega) (by omega),Zo (by omega)]
 · rw[zGH b1,Zl (by omega),Zo (by omega)]
   by_cases b2:x<2048
   · rw[zE5 a1 b2];simp only[Zx,ZH];rw[zAm _ _ _ _ (by omega) (by omega) (by omega) (by omega),Zl (by omega),Zo (by omega)]
   by_cases b3:x<65536
   · rw[zBL a1 b2 b3];simp only[Zx,ZH];rw[zAm _ _ _ _ (by omega) (by omega) (by omega) (by omega),Zl (by omega),Zo (by omega)]
   rw[zC8 a1 b2 b3];simp only[Zx,ZH];rw[zAm _ _ _ _ (by omega) (by omega) (by omega) (by omega),Zl (by omega),Zo (by omega)]
 by_cases a2:x<2048 <;> by_cases b2:y<2048
 · rw[zE5 a1 a2,zE5 b1 b2];simp only[Zx,ZH];rw[zAm _ _ _ _ (by omega) (by omega) (by omega) (by omega),zAm _ _ _ _ (by omega) (by omega) (by omega) (by omega)]
   repeat' split
   all_goals first|rfl|omega
 · rw[zE5 a1 a2,Zo (by omega)]
   by_cases b3:y<65536
   · rw[zBL b1 b2 b3];simp only[Zx,ZH];rw[zAm _ _ _ _ (by omega) (by omega) (by omega) (by omega),Zo (by omega)]
   rw[zC8 b1 b2 b3];simp only[Zx,ZH];rw[zAm _ _ _ _ (by omega) (by omega) (by omega) (by omega),Zo (by omega)]
 · rw[zE5 b1 b2,Zl (by omega),Zo (by omega)]
   by_cases b3:x<65536
   · rw[zBL a1 a2 b3];simp only[Zx,ZH];rw[zAm _ _ _ _ (by omega) (by omega) (by omega) (by omega),Zl (by omega),Zo (by omega)]
   rw[zC8 a1 a2 b3];simp only[Zx,ZH];rw[zAm _ _ _ _ (by omega) (by omega) (by omega) (by omega),Zl (by omega),Zo (by omega)]
 by_cases a3:x<65536 <;> by_cases b3:y<65536
 · rw[zBL a1 a2 a3,zBL b1 b2 b3];simp only[Zx,ZH];rw[zAm _ _ _ _ (by omega) (by omega) (by omega) (by omega),zAm _ _ _ _ (by omega) (by omega) (by omega) (by omega),zAm _ _ _ _ (by omega) (by omega) (by omega) (by omega)]
   repeat' split
   all_goals first|rfl|omega
 · rw[zBL a1 a2 a3,zC8 b1 b2 b3,Zo (by omega)];simp only[Zx,ZH];rw[zAm _ _ _ _ (by omega) (by omega) (by omega) (by omega),Zo (by omega)]
 · rw[zBL b1 b2 b3,zC8 a1 a2 a3,Zl (by omega),Zo (by omega)];simp only[Zx,ZH];rw[zAm _ _ _ _ (by omega) (by omega) (by omega) (by omega),Zl (by omega),Zo (by omega)]
 rw[zC8 a1 a2 a3,zC8 b1 b2 b3];simp only[Zx,ZH];rw[zAm _ _ _ _ (by omega) (by omega) (by omega) (by omega),zAm _ _ _ _ (by omega) (by omega) (by omega) (by omega),zAm _ _ _ _ (by omega) (by omega) (by omega) (by omega),zAm _ _ _ _ (by omega) (by omega) (by omega) (by omega)]
 repeat' split
 all_goals first|rfl|omega
theorem zKD:∀(x y:List Int),(∀c∈x,U.isC c=true)→(∀c∈y,U.isC c=true)→Lib.compareBytes (zA5 x) (zA5 y)=zB6 x y
 | [],[],_,_=>rfl
 | [],c::y,_,hy=>by
   rw[zAs];have:=(U.enc_pos c).1;rcases he:zAl c with _|⟨a,r⟩
   · rw[he]at this;simp at this
   rfl
 | c::x,[],hx,_=>by
   rw[zAs];have:=(U.enc_pos c).1;rcases he:zAl c with _|⟨a,r⟩
   · rw[he]at this;simp at this
   rfl
 | c::x,d::y,hx,hy=>by
   rw[zAs,zAs,zQZ c d (hx c (by simp)) (hy d (by simp)),zKD x y (fun z hz=>hx z (Zv _ hz)) (fun z hz=>hy z (Zv _ hz))];rfl
theorem zOm:∀x y:List Int,zB6 y x = - zB6 x y
 | [],[]=>rfl
 | [],_::_=>rfl
 | _::_,[]=>rfl
 | a::x,b::y=>by
   show (if b<a then _ else if a<b then _ else _) = -(if a<b then _ else if b<a then _ else _);rw[zOm x y]
   repeat' split
   all_goals first|rfl|omega
theorem zJy:∀x y:List Int,zB6 x y=0↔x=y
 | [],[]=>by simp[zB6]
 | [],_::_=>by simp[zB6]
 | _::_,[]=>by simp[zB6]
 | a::x,b::y=>by
   show (if a<b then _ else if b<a then _ else _)=_↔_;rw[YI,←zJy x y]
   repeat' split
   all_goals omega
theorem zR0:∀x y:List Int,-1≤zB6 x y∧zB6 x y≤1
 | [],[]=>by simp[zB6]
 | [],_::_=>by simp[zB6]
 | _::_,[]=>by simp[zB6]
 | a::x,b::y=>by
   have:=zR0 x y;show _≤(if a<b then _ else if b<a then _ else _)∧(if a<b then _ else if b<a then _ else _)≤_
   repeat' split
   all_goals omega
theorem zSr {x y:List Int} (hx:∀c∈x,U.isC c=true) (hy:∀c∈y,U.isC c=true) (h:zA5 x=zA5 y):x=y :=
 (zHG (l:=zA5 x) (r:=[]) (r':=[]) ⟨by simp,hx,rfl⟩ ⟨by simp[h],hy,rfl⟩).1
theorem and_21 (n:Int):bits .and .i64 n 2097151=n%2097152:=by
 have hm:(BitVec.ofInt 64 2097151).toNat=2 ^ 21-1:=by decide
 have key:(BitVec.ofInt 64 n &&& BitVec.ofInt 64 2097151).toNat=(n%((2 ^ 64:Nat):Int)).toNat%2 ^ 21:=by
  rw[Xw,Xn,hm,Yl]
 show IntKind.i64.wrap ((BitVec.ofInt 64 n &&& BitVec.ofInt 64 2097151).toNat:Nat)=n%2097152;rw[key,Ya];omega
theorem and_11 (n:Int):bits .and .i64 n 2047=n%2048:=by
 have hm:(BitVec.ofInt 64 2047).toNat=2 ^ 11-1:=by decide
 have key:(BitVec.ofInt 64 n &&& BitVec.ofInt 64 2047).toNat=(n%((2 ^ 64:Nat):Int)).toNat%2 ^ 11:=by
  rw[Xw,Xn,hm,Yl]
 show IntKind.i64.wrap ((BitVec.ofInt 64 n &&& BitVec.ofInt 64 2047).toNat:Nat)=n%2048;rw[key,Ya];omega
def zF8 (x:Int):Int:=if U.isC (x%2097152) then x%2097152 else x%2097152%2048
theorem zPV (x:Int):U.isC (zF8 x)=true:=by
 unfold zF8;split
 · assumption
 rw[U.isC_iff];omega
theorem U.char_any (x:Int) (w:World) :
 Calls prog 40 #[.int .i64 x] w fun e w'=>e=.returned (.int .i32 (zF8 x))∧w=w':=by
 have e1:=and_21 x;have e2:=and_11 (x%2097152);have b1:0≤x%2097152:=by omega
 have b2:x%2097152≤2097151:=by omega
 have b3:0≤x%2048:=by omega
 have b4:x%2048≤2047:=by omega
 by_cases hi:U.isC (x%2097152)=true
 · have hk:zF8 x=x%2097152:=by unfold zF8;rw[if_pos hi]
   have HK:=hy' hk;clear hk;go_enter func40,ntmps40;go_wp2_with (go_at_call 70;refine (U.ris_any _ _).mono ?_;rintro e w' ⟨rfl,rfl⟩);go_ret;exact⟨zBO HK.o.symm,rfl⟩
 have hk:zF8 x=x%2048:=by unfold zF8;rw[if_neg hi];omega
 have hi':U.isC (x%2097152)=false:=by simpa using hi
 have HK:=hy' hk;clear hk hi;go_enter func40,ntmps40;go_wp2_with (go_at_call 70;refine (U.ris_any _ _).mono ?_;rintro e w' ⟨rfl,rfl⟩);go_ret;exact⟨zBO HK.o.symm,rfl⟩
theorem zJO (A A':Option Addr) (c c' n m B:Nat) (x y:List Int) (w:World) (hB:B≤w.heap.size) (hx:x.length=n) (hy:y.length=m) (hn:n≤1000000) (hm:m≤1000000) (hA:Sl w B A (x.map (Value.int .i64))) (ak:Sl w B A' (y.map (Value.int .i64))) :
 Calls prog 15 #[.slice A n c,.slice A' m c'] w fun e w'=>e=.returned (.int .i64 (zB6 x y))∧Below w.heap.size w w':=by
 have HX:=hy' hx;have HY:=hy' hy;clear hx hy;go_enter func15,ntmps15;go_wp2;go_loopw [5] (fun i wr=>∃k:Nat,k≤n∧k≤m∧i=.int .i64 k∧zB6 (x.drop k) (y.drop k)=zB6 x y∧Below w.heap.size w wr) (fun i _=>n-(intOf i).toNat)
 case atStart=>exact⟨0,by omega,by omega,rfl,rfl,Zc _ _⟩
 obtain⟨k,hk,aq,rfl,ah,aa⟩:=hrel;have ap:=aa.size;have HC:=hy' ah;clear ah
 by_cases hkn:(k:Int)<n
 rotate_left
 · obtain rfl:n=k:=by omega
   have hd:x.drop n=[]:=Ye (by rw[HX.o];omega)
   by_cases hnm:(n:Int)<m
   · have af:y.drop n≠[]:=fun h=>by have:=List.drop_eq_nil_iff.1 h;rw[HY.o]at this;omega
     have hr:zB6 x y = -1:=by
      rw[←HC.o,hd];rcases hx':y.drop n with _|⟨a,r⟩
      · exact absurd hx' af
      rfl
     have HR:=hy' hr;clear hd af hr;go_wp2;go_ret;rw[HR.o];exact⟨rfl,aa⟩
   have af:y.drop n=[]:=Ye (by rw[HY.o];omega);have hr:zB6 x y=0:=by rw[←HC.o,hd,af];rfl
   have HR:=hy' hr;clear hd af hr;go_wp2;go_ret;rw[HR.o];exact⟨rfl,aa⟩
 by_cases hkm':(k:Int)<m
 · obtain⟨p,hp⟩:∃p,x[k]?=some p:=⟨_,Zb (by rw[HX.o];omega)⟩;obtain⟨q,hq⟩:∃q,y[k]?=some q:=⟨_,Zb (by rw[HY.o];omega)⟩;obtain⟨b,o,rfl,ao,hc⟩:=hA.belowN aa hB (Za _) (by rw[Ze,HX.o];omega);obtain⟨b',o',rfl,aj,ai⟩:=ak.belowN aa hB (Za _) (by rw[Ze,HY.o];omega);have d1:=hc k (by rw[Ze,HX.o];omega);have d2:=ai k (by rw[Ze,HY.o];omega);rw[Zs,hp]at d1;rw[Zs,hq]at d2;simp only[Option.map]at d1 d2
   have dx:x.drop k=p::x.drop (k+1):=by
    have ag:k<x.length:=by rw[HX.o];omega
    rw[ZM ag];rw[Zb ag]at hp;simp only[Zh]at hp;rw[hp]
   have dy:y.drop k=q::y.drop (k+1):=by
    have ag:k<y.length:=by rw[HY.o];omega
    rw[ZM ag];rw[Zb ag]at hq;simp only[Zh]at hq;rw[hq]
   have ae:zB6 x y=if p<q then -1 else if q<p then 1 else zB6 (x.drop (k+1)) (y.drop (k+1)):=by rw[←HC.o,dx,dy];rfl
   have HS:=hy' ae;have g0:(0:Int)≤(k:Int):=by omega
   clear hc ai hp hq dx dy ae
   by_cases hlt1:p<q
   · go_wp2;go_quiet (fail);go_wp2;go_ret;rw[HS.o,Zo hlt1];exact⟨rfl,below_drewN aa _⟩
   by_cases hlt2:q<p
   · go_wp2;go_quiet (fail);go_wp2;go_quiet (fail);go_wp2;go_ret;rw[HS.o,Zl (by omega),Zo hlt2];exact⟨rfl,below_drewN (below_drewN aa _) _⟩
   go_wp2;go_quiet (fail);go_wp2;go_quiet (fail);go_wp2;exact⟨⟨k+1,by omega,by omega,by go_num,by rw[HS.o,Zl (by omega),Zl (by omega)],below_drewN aa _⟩,by simp[intOf];omega⟩
 obtain rfl:m=k:=by omega
 have hd:y.drop m=[]:=Ye (by rw[HY.o];omega);have af:x.drop m≠[]:=fun h=>by have:=List.drop_eq_nil_iff.1 h;rw[HX.o]at this;omega
 have hr:zB6 x y=1:=by
  rw[←HC.o,hd];rcases hx':x.drop m with _|⟨a,r⟩
  · exact absurd hx' af
  rfl
 have HR:=hy' hr;clear hd af hr;go_wp2;go_ret;rw[HR.o];exact⟨rfl,aa⟩
theorem zR8 (l:List Int):∀c∈l.map zF8,U.isC c=true:=by
 intro c hc;obtain⟨x,_,rfl⟩:=List.mem_map.1 hc;exact zPV x
end Go.Proofs.YtddbccflcekdpaaGreatDoor
