/- Comparing texts: plain law, and the walks of Compare, Char, Chars. -/
import Derived.Test.YtjakbblocbicjaaGreatDoorUtfH
import Derived.Lib.Bytealg
set_option maxRecDepth 100000
set_option maxHeartbeats 1000000
set_option linter.unusedVariables false
set_option linter.unusedSimpArgs false
namespace Go.Proofs.YtjakbblocbicjaaGreatDoor
open Go.Proofs.Tryz
open Go.RowKit
theorem U.u8_lt (p q:Int) (h1:0≤p) (h2:p<256) (h3:0≤q) (h4:q<256):(U.u8 p<U.u8 q)↔p<q:=by
 rw[UInt8.lt_iff_toNat_lt];have:=zB3 p h1 h2;have:=zB3 q h3 h4;omega
theorem U.cmp_cons (p q:Int) (s t:List UInt8) (h1:0≤p) (h2:p<256) (h3:0≤q) (h4:q<256) :
 Lib.compareBytes (U.u8 p::s) (U.u8 q::t)=if p<q then -1 else if q<p then 1 else Lib.compareBytes s t:=by
 show (if U.u8 p<U.u8 q then _ else if U.u8 q<U.u8 p then _ else _)=_;simp only[U.u8_lt p q h1 h2 h3 h4,U.u8_lt q p h3 h4 h1 h2]
def U.cmpL:List Int→List Int→Int
 | [],[]=>0
 | [],_::_ => -1
 | _::_,[]=>1
 | a::x,b::y=>if a<b then -1 else if b<a then 1 else U.cmpL x y
theorem U.enc_one {c:Int} (h:c<128):zAn c=[U.u8 c]:=by unfold zAn;rw[if_pos h]
theorem U.enc_two {c:Int} (h:¬c<128) (h':c<2048):zAn c=[U.u8 (192+c/64),U.u8 (128+c%64)]:=by unfold zAn;rw[if_neg h,if_pos h']
theorem U.enc_three {c:Int} (h:¬c<128) (h':¬c<2048) (aa:c<65536):zAn c=[U.u8 (224+c/4096),U.u8 (128+c/64%64),U.u8 (128+c%64)]:=by unfold zAn;rw[if_neg h,if_neg h',if_pos aa]
theorem U.enc_four {c:Int} (h:¬c<128) (h':¬c<2048) (aa:¬c<65536):zAn c=[U.u8 (240+c/262144),U.u8 (128+c/4096%64),U.u8 (128+c/64%64),U.u8 (128+c%64)]:=by unfold zAn;rw[if_neg h,if_neg h',if_neg aa]
theorem U.cmp_enc (x y:Int) (hx:U.isC x=true) (hy:U.isC y=true) (s t:List UInt8) :
 Lib.compareBytes (zAn x++s) (zAn y++t)=if x<y then -1 else if y<x then 1 else Lib.compareBytes s t:=by
 obtain⟨x1,x2,-⟩:=(U.isC_iff x).1 hx;obtain⟨y1,y2,-⟩:=(U.isC_iff y).1 hy
 by_cases a1:x<128 <;> by_cases b1:y<128
 · rw[U.enc_one a1,U.enc_one b1];simp only[Zx,ZK];rw[U.cmp_cons x y _ _ (by omega) (by omega) (by omega) (by omega)]
 · rw[U.enc_one a1,Zm (by omega)]
   by_cases b2:y<2048
   · rw[U.enc_two b1 b2];simp only[Zx,ZK];rw[U.cmp_cons _ _ _ _ (by omega) (by omega) (by omega) (by omega),Zm (by omega)]
   by_cases b3:y<65536
   · rw[U.enc_three b1 b2 b3];simp only[Zx,ZK];rw[U.cmp_cons _ _ _ _ (by omega) (by omega) (by omega) (by omega),Zm (by omega)]
   rw[U.enc_four b1 b2 b3];simp only[Zx,ZK];rw[U.cmp_cons _ _ _ _ (by omega) (by omega) (by omega) (by omega),Zm (by omega)]
 · rw[U.enc_one b1,Zk (by omega),Zm (by omega)]
   by_cases b2:x<2048
   · rw[U.enc_two a1 b2];simp only[Zx,ZK];rw[U.cmp_cons _ _ _ _ (by omega) (by omega) (by omega) (by omega),Zk (by omega),Zm (by omega)]
   by_cases b3:x<65536
   · rw[U.enc_three a1 b2 b3];simp only[Zx,ZK];rw[U.cmp_cons _ _ _ _ (by omega) (by omega) (by omega) (by omega),Zk (by omega),Zm (by omega)]
   rw[U.enc_four a1 b2 b3];simp only[Zx,ZK];rw[U.cmp_cons _ _ _ _ (by omega) (by omega) (by omega) (by omega),Zk (by omega),Zm (by omega)]
 by_cases a2:x<2048 <;> by_cases b2:y<2048
 · rw[U.enc_two a1 a2,U.enc_two b1 b2];simp only[Zx,ZK];rw[U.cmp_cons _ _ _ _ (by omega) (by omega) (by omega) (by omega),U.cmp_cons _ _ _ _ (by omega) (by omega) (by omega) (by omega)]
   repeat' split
   all_goals first|rfl|omega
 · rw[U.enc_two a1 a2,Zm (by omega)]
   by_cases b3:y<65536
   · rw[U.enc_three b1 b2 b3];simp only[Zx,ZK];rw[U.cmp_cons _ _ _ _ (by omega) (by omega) (by omega) (by omega),Zm (by omega)]
   rw[U.enc_four b1 b2 b3];simp only[Zx,ZK];rw[U.cmp_cons _ _ _ _ (by omega) (by omega) (by omega) (by omega),Zm (by omega)]
 · rw[U.enc_two b1 b2,Zk (by omega),Zm (by omega)]
   by_cases b3:x<65536
   · rw[U.enc_three a1 a2 b3];simp only[Zx,ZK];rw[U.cmp_cons _ _ _ _ (by omega) (by omega) (by omega) (by omega),Zk (by omega),Zm (by omega)]
   rw[U.enc_four a1 a2 b3];simp only[Zx,ZK];rw[U.cmp_cons _ _ _ _ (by omega) (by omega) (by omega) (by omega),Zk (by omega),Zm (by omega)]
 by_cases a3:x<65536 <;> by_cases b3:y<65536
 · rw[U.enc_three a1 a2 a3,U.enc_three b1 b2 b3];simp only[Zx,ZK];rw[U.cmp_cons _ _ _ _ (by omega) (by omega) (by omega) (by omega),U.cmp_cons _ _ _ _ (by omega) (by omega) (by omega) (by omega),U.cmp_cons _ _ _ _ (by omega) (by omega) (by omega) (by omega)]
   repeat' split
   all_goals first|rfl|omega
 · rw[U.enc_three a1 a2 a3,U.enc_four b1 b2 b3,Zm (by omega)];simp only[Zx,ZK];rw[U.cmp_cons _ _ _ _ (by omega) (by omega) (by omega) (by omega),Zm (by omega)]
 · rw[U.enc_three b1 b2 b3,U.enc_four a1 a2 a3,Zk (by omega),Zm (by omega)];simp only[Zx,ZK];rw[U.cmp_cons _ _ _ _ (by omega) (by omega) (by omega) (by omega),Zk (by omega),Zm (by omega)]
 rw[U.enc_four a1 a2 a3,U.enc_four b1 b2 b3];simp only[Zx,ZK];rw[U.cmp_cons _ _ _ _ (by omega) (by omega) (by omega) (by omega),U.cmp_cons _ _ _ _ (by omega) (by omega) (by omega) (by omega),U.cmp_cons _ _ _ _ (by omega) (by omega) (by omega) (by omega),U.cmp_cons _ _ _ _ (by omega) (by omega) (by omega) (by omega)]
 repeat' split
 all_goals first|rfl|omega
theorem U.cmp_encs:∀(x y:List Int),(∀c∈x,U.isC c=true)→(∀c∈y,U.isC c=true)→Lib.compareBytes (zAd x) (zAd y)=U.cmpL x y
 | [],[],_,_=>rfl
 | [],c::y,_,hy=>by
   rw[zAu];have:=(zC8 c).1;rcases he:zAn c with _|⟨a,r⟩
   · rw[he]at this;simp at this
   rfl
 | c::x,[],hx,_=>by
   rw[zAu];have:=(zC8 c).1;rcases he:zAn c with _|⟨a,r⟩
   · rw[he]at this;simp at this
   rfl
 | c::x,d::y,hx,hy=>by
   rw[zAu,zAu,U.cmp_enc c d (hx c (by simp)) (hy d (by simp)),U.cmp_encs x y (fun z hz=>hx z (Zy _ hz)) (fun z hz=>hy z (Zy _ hz))];rfl
theorem U.cmpL_swap:∀x y:List Int,U.cmpL y x = - U.cmpL x y
 | [],[]=>rfl
 | [],_::_=>rfl
 | _::_,[]=>rfl
 | a::x,b::y=>by
   show (if b<a then _ else if a<b then _ else _) = -(if a<b then _ else if b<a then _ else _);rw[U.cmpL_swap x y]
   repeat' split
   all_goals first|rfl|omega
theorem U.cmpL_zero:∀x y:List Int,U.cmpL x y=0↔x=y
 | [],[]=>by simp[U.cmpL]
 | [],_::_=>by simp[U.cmpL]
 | _::_,[]=>by simp[U.cmpL]
 | a::x,b::y=>by
   show (if a<b then _ else if b<a then _ else _)=_↔_;rw[Yd,←U.cmpL_zero x y]
   repeat' split
   all_goals omega
theorem U.cmpL_bd:∀x y:List Int,-1≤U.cmpL x y∧U.cmpL x y≤1
 | [],[]=>by simp[U.cmpL]
 | [],_::_=>by simp[U.cmpL]
 | _::_,[]=>by simp[U.cmpL]
 | a::x,b::y=>by
   have:=U.cmpL_bd x y;show _≤(if a<b then _ else if b<a then _ else _)∧(if a<b then _ else if b<a then _ else _)≤_
   repeat' split
   all_goals omega
theorem U.encs_inj {x y:List Int} (hx:∀c∈x,U.isC c=true) (hy:∀c∈y,U.isC c=true) (h:zAd x=zAd y):x=y :=
 (zHv (l:=zAd x) (r:=[]) (r':=[]) ⟨by simp,hx,rfl⟩ ⟨by simp[h],hy,rfl⟩).1
theorem U.compare_any (a b:ByteArray) (w:World) :
 Calls prog 60 #[.string a,.string b] w fun e w'=>e=.returned (.int .i64 (Lib.compareBytes a.data.toList b.data.toList))∧w=w':=by
 have hr:=fun w=>Lib.run_compareString (P:=prog) a b w
 go_enter func60,ntmps60;go_wp2;rw[JF func142 (by kernel_rfl) (by kernel_rfl) (by kernel_rfl) (e:=Extern.BytealgCompare.compare) (by kernel_rfl),hr];simp only[Result.andThen];rw[QA];go_wp2;go_ret;exact⟨rfl,rfl⟩
theorem and_21 (n:Int):bits .and .i64 n 2097151=n%2097152:=by
 have hm:(BitVec.ofInt 64 2097151).toNat=2 ^ 21-1:=by decide
 have key:(BitVec.ofInt 64 n &&& BitVec.ofInt 64 2097151).toNat=(n%((2 ^ 64:Nat):Int)).toNat%2 ^ 21:=by
  rw[Xu,Xm,hm,Yo]
 show IntKind.i64.wrap ((BitVec.ofInt 64 n &&& BitVec.ofInt 64 2097151).toNat:Nat)=n%2097152;rw[key,Z4];omega
theorem and_11 (n:Int):bits .and .i64 n 2047=n%2048:=by
 have hm:(BitVec.ofInt 64 2047).toNat=2 ^ 11-1:=by decide
 have key:(BitVec.ofInt 64 n &&& BitVec.ofInt 64 2047).toNat=(n%((2 ^ 64:Nat):Int)).toNat%2 ^ 11:=by
  rw[Xu,Xm,hm,Yo]
 show IntKind.i64.wrap ((BitVec.ofInt 64 n &&& BitVec.ofInt 64 2047).toNat:Nat)=n%2048;rw[key,Z4];omega
def U.charK (x:Int):Int:=if U.isC (x%2097152) then x%2097152 else x%2097152%2048
theorem U.charK_is (x:Int):U.isC (U.charK x)=true:=by
 unfold U.charK;split
 · assumption
 rw[U.isC_iff];omega
theorem U.charK_bd (x:Int) : -2147483648≤U.charK x∧U.charK x≤2147483647:=by
 have:=(U.isC_iff _).1 (U.charK_is x);omega
theorem U.char_any (x:Int) (w:World) :
 Calls prog 48 #[.int .i64 x] w fun e w'=>e=.returned (.int .i32 (U.charK x))∧w=w':=by
 have e1:=and_21 x;have e2:=and_11 (x%2097152);have b1:0≤x%2097152:=by omega
 have b2:x%2097152≤2097151:=by omega
 have b3:0≤x%2048:=by omega
 have b4:x%2048≤2047:=by omega
 by_cases hi:U.isC (x%2097152)=true
 · have hk:U.charK x=x%2097152:=by unfold U.charK;rw[if_pos hi]
   have HK:=hy' hk;clear hk;go_enter func48,ntmps48;go_wp2_with (go_at_call 75;refine (U.ris_any _ _).mono ?_;rintro e w' ⟨rfl,rfl⟩);go_ret;exact⟨zBN HK.o.symm,rfl⟩
 have hk:U.charK x=x%2048:=by unfold U.charK;rw[if_neg hi];omega
 have hi':U.isC (x%2097152)=false:=by simpa using hi
 have HK:=hy' hk;clear hk hi;go_enter func48,ntmps48;go_wp2_with (go_at_call 75;refine (U.ris_any _ _).mono ?_;rintro e w' ⟨rfl,rfl⟩);go_ret;exact⟨zBN HK.o.symm,rfl⟩
theorem U.chars_any (A:Option Addr) (len cap B:Nat) (l:List Int) (m:Nat) (w:World) (hB:B≤w.heap.size) (hl:l.length=min len m) (hm:m≤1000) (hA:Sl w B A (l.map (Value.int .i64))) (hlen:len≤maxLen) :
 Calls prog 29 #[.slice A len cap,.int .i64 m] w (RetOwn 21 .i32 (l.map U.charK) w):=by
 have HL:=hy' hl;clear hl;unfold maxLen at hlen;obtain⟨i0,hi,ar,aj,ao⟩:=Z2 zBL;go_enter func29,ntmps29;go_wp2;go_loopw [6,5] (fun i v wr=>∃k:Nat,k≤len∧k≤m∧i=.int .i64 k∧wr.ownsRow w.heap.size 21 1 v k (((l.take k).map U.charK).map (Value.int .i32))∧Below w.heap.size w wr) (fun i _ _=>m-(intOf i).toNat)
 case atStart=>exact⟨0,by omega,by omega,rfl,ZE _ _ _ _,Zc _ _⟩
 obtain⟨k,hk,au,rfl,ae,aa⟩:=hrel;have ak:=aa.size
 have ag:¬(k<len∧k<m)→wr.ownsRow w.heap.size 21 1 u5 (l.map U.charK).length ((l.map U.charK).map (Value.int .i32)):=by
  intro h;have ap:l.length=k:=by rw[HL.o];omega
  rw[Ze,ap]
  rwa [Zi (by omega)]at ae
 have HF:=hy' ag;clear ag
 by_cases hkn:(k:Int)<len
 · by_cases hkm':(k:Int)<m
   · obtain⟨x,hx⟩:∃x,l[k]?=some x:=⟨_,Zb (by rw[HL.o];omega)⟩;obtain⟨b,o,rfl,av,hc⟩:=hA.belowN aa hB (Za _) (by rw[Ze,HL.o];omega);have hcell:=hc k (by rw[Ze,HL.o];omega);rw[Zo,hx]at hcell;simp only[Option.map]at hcell;have ah:=take_succ_get hx;have aq:=hy' ah;clear hx ah hc;go_wp2_with (first|(go_at_call 48;refine (U.char_any _ _).mono ?_;rintro e w' ⟨rfl,rfl⟩)|(at_builtin;refine zAa _ rfl _ _ _ rfl w.heap.size 21 i0 _ 4 underlying35 hi ar aj ao rfl _ k _ rfl ae _ rfl rfl (by simp only[maxLen];omega) (by omega) ak ?_;intro v1 w2 af ai));exact⟨⟨k+1,by omega,by omega,by go_num,by rw[aq.o,ZL,ZL];exact af,aa.trans ai⟩,by simp[intOf];omega⟩
   go_wp2;go_ret;exact RetOwn.mk (HF.o (by omega)) rfl rfl aa
 go_wp2;go_ret;exact RetOwn.mk (HF.o (by omega)) rfl rfl aa
theorem U.rcompare_any (A A':Option Addr) (c c' n m B:Nat) (x y:List Int) (w:World) (hB:B≤w.heap.size) (hx:x.length=n) (hy:y.length=m) (hn:n≤1000000) (hm:m≤1000000) (hA:Sl w B A (x.map (Value.int .i64))) (aj:Sl w B A' (y.map (Value.int .i64))) :
 Calls prog 59 #[.slice A n c,.slice A' m c'] w fun e w'=>e=.returned (.int .i64 (U.cmpL x y))∧Below w.heap.size w w':=by
 have HX:=hy' hx;have HY:=hy' hy;clear hx hy;go_enter func59,ntmps59;go_wp2;go_loopw [5] (fun i wr=>∃k:Nat,k≤n∧k≤m∧i=.int .i64 k∧U.cmpL (x.drop k) (y.drop k)=U.cmpL x y∧Below w.heap.size w wr) (fun i _=>n-(intOf i).toNat)
 case atStart=>exact⟨0,by omega,by omega,rfl,rfl,Zc _ _⟩
 obtain⟨k,hk,ao,rfl,ag,aa⟩:=hrel;have ap:=aa.size;have HC:=hy' ag;clear ag
 by_cases hkn:(k:Int)<n
 rotate_left
 · obtain rfl:n=k:=by omega
   have hd:x.drop n=[]:=Yh (by rw[HX.o];omega)
   by_cases hnm:(n:Int)<m
   · have af:y.drop n≠[]:=fun h=>by have:=List.drop_eq_nil_iff.1 h;rw[HY.o]at this;omega
     have hr:U.cmpL x y = -1:=by
      rw[←HC.o,hd];rcases hx':y.drop n with _|⟨a,r⟩
      · exact absurd hx' af
      rfl
     have HR:=hy' hr;clear hd af hr;go_wp2;go_ret;rw[HR.o];exact⟨rfl,aa⟩
   have af:y.drop n=[]:=Yh (by rw[HY.o];omega);have hr:U.cmpL x y=0:=by rw[←HC.o,hd,af];rfl
   have HR:=hy' hr;clear hd af hr;go_wp2;go_ret;rw[HR.o];exact⟨rfl,aa⟩
 by_cases hkm':(k:Int)<m
 · obtain⟨p,hp⟩:∃p,x[k]?=some p:=⟨_,Zb (by rw[HX.o];omega)⟩;obtain⟨q,hq⟩:∃q,y[k]?=some q:=⟨_,Zb (by rw[HY.o];omega)⟩;obtain⟨b,o,rfl,aq,hc⟩:=hA.belowN aa hB (Za _) (by rw[Ze,HX.o];omega);obtain⟨b',o',rfl,ak,ai⟩:=aj.belowN aa hB (Za _) (by rw[Ze,HY.o];omega);have d1:=hc k (by rw[Ze,HX.o];omega);have d2:=ai k (by rw[Ze,HY.o];omega);rw[Zo,hp]at d1;rw[Zo,hq]at d2;simp only[Option.map]at d1 d2
   have dx:x.drop k=p::x.drop (k+1):=by
    have ah:k<x.length:=by rw[HX.o];omega
    rw[ZR ah];rw[Zb ah]at hp;simp only[Zg]at hp;rw[hp]
   have dy:y.drop k=q::y.drop (k+1):=by
    have ah:k<y.length:=by rw[HY.o];omega
    rw[ZR ah];rw[Zb ah]at hq;simp only[Zg]at hq;rw[hq]
   have ae:U.cmpL x y=if p<q then -1 else if q<p then 1 else U.cmpL (x.drop (k+1)) (y.drop (k+1)):=by rw[←HC.o,dx,dy];rfl
   have HS:=hy' ae;have g0:(0:Int)≤(k:Int):=by omega
   clear hc ai hp hq dx dy ae
   by_cases hlt1:p<q
   · go_wp2;go_quiet (fail);go_wp2;go_ret;rw[HS.o,Zm hlt1];exact⟨rfl,below_drewN aa _⟩
   by_cases hlt2:q<p
   · go_wp2;go_quiet (fail);go_wp2;go_quiet (fail);go_wp2;go_ret;rw[HS.o,Zk (by omega),Zm hlt2];exact⟨rfl,below_drewN (below_drewN aa _) _⟩
   go_wp2;go_quiet (fail);go_wp2;go_quiet (fail);go_wp2;exact⟨⟨k+1,by omega,by omega,by go_num,by rw[HS.o,Zk (by omega),Zk (by omega)],below_drewN aa _⟩,by simp[intOf];omega⟩
 obtain rfl:m=k:=by omega
 have hd:y.drop m=[]:=Yh (by rw[HY.o];omega);have af:x.drop m≠[]:=fun h=>by have:=List.drop_eq_nil_iff.1 h;rw[HX.o]at this;omega
 have hr:U.cmpL x y=1:=by
  rw[←HC.o,hd];rcases hx':x.drop m with _|⟨a,r⟩
  · exact absurd hx' af
  rfl
 have HR:=hy' hr;clear hd af hr;go_wp2;go_ret;rw[HR.o];exact⟨rfl,aa⟩
theorem U.map_charK_is (l:List Int):∀c∈l.map U.charK,U.isC c=true:=by
 intro c hc;obtain⟨x,_,rfl⟩:=List.mem_map.1 hc;exact U.charK_is x
end Go.Proofs.YtjakbblocbicjaaGreatDoor
