/- The layer excl: char, Parse, by walking their texts. -/
import Derived.Test.YtjakbblocbicjaaGreatDoorUdOf
import Derived.Test.YtjakbblocbicjaaGreatDoorRwParse
import Derived.Deep.SlicePairs
import Derived.Deep.Strs
import Derived.ProofKit
import Derived.OpenShut
set_option maxRecDepth 100000
set_option maxHeartbeats 4000000
set_option linter.unusedVariables false
set_option linter.unusedSimpArgs false
namespace Go.Proofs.YtjakbblocbicjaaGreatDoor
open Go.Proofs.Tryz
section
open Go.RowKit
theorem zMC (A:Option Addr) (n cp B:Nat) (l:List Int) (c:Int) (w:World) (hn:l.length=n) (hN:n≤1000000) (hB:B≤w.heap.size) (hA:Sl w B A (l.map (Value.int .i32))) (hc:c∉l) :
 Calls prog 189 #[.slice A n cp,.int .i32 c] w fun e w'=>e=.returned (.int .i64 (-1))∧w'=w:=by
 have HN:=hy' hn;have HC:=hy' hc;clear hn hc;go_enter func189,ntmps189;go_wp2_with fail;go_loop [5,8] (fun _ i=>∃k:Nat,k≤n∧i=.int .i64 k) (fun _ i=>n-(intOf i).toNat)
 case atStart=>exact⟨0,ZF _,rfl⟩
 obtain⟨k,hk,rfl⟩:=hrel
 by_cases hlt:k<n
 · obtain⟨x,hx⟩:∃x,l[k]?=some x:=⟨_,Zb (by rw[HN.o];exact hlt)⟩;obtain⟨b,o,rfl,hb,hcell⟩:=hA (by rw[Ze,HN.o];omega);have h1:=hcell k (by rw[Ze,HN.o];exact hlt);rw[Zo,hx,Zz]at h1
   have hne:(c == x)=false:=by
    have:c≠x:=fun e=>HC.o (by rw[e];exact Zj hx)
    simpa using this
   have kI:(k:Int)<n:=by omega
   have k0:(0:Int)≤(k:Int):=by omega
   clear hcell hx;go_wp2_with fail;exact⟨⟨k+1,by omega,by go_num⟩,by simp[intOf];omega⟩
 obtain rfl:k=n:=by omega
 have kI:¬(k:Int)<k:=by omega
 go_wp2_with fail;go_ret;exact⟨rfl,rfl⟩
theorem zJc (A:Option Addr) (n cp B:Nat) (l:List Int) (c:Int) (w:World) (hn:l.length=n) (hN:n≤1000000) (hB:B≤w.heap.size) (hA:Sl w B A (l.map (Value.int .i32))) (hc:c∉l) :
 Calls prog 155 #[.slice A n cp,.int .i32 c] w fun e w'=>e=.returned (.bool false)∧w'=w:=by
 have h:=zMC A n cp B l c w hn hN hB hA hc;clear hn hc hA;go_enter func155,ntmps155;go_wp2_with fail;refine h.mono ?_;rintro e w1 ⟨rfl,rfl⟩;go_wp2_with fail;go_ret;exact⟨rfl,rfl⟩
theorem Ex.char_any (s:ByteArray) (A:Option Addr) (n cp B:Nat) (l:List Int) (c:Int) (w:World) (hs:s.size≤1000000) (hn:l.length=n) (hN:n≤1000000) (hB:B≤w.heap.size) (hA:Sl w B A (l.map (Value.int .i32)))
 (hx:zAF s.data.toList=some c) (hi:C.isC c=true) (hc:c∉l) :
 Calls prog 126 #[.string s,.slice A n cp] w fun e w'=>e=.returned (.tuple #[.int .i32 c,.string ⟨#[]⟩])∧w'=w:=by
 have h1:∀W:World,Calls prog 154 #[.string s] W fun e w'=>e=.returned (.tuple #[.int .i32 c,.bool true])∧w'=W:=fun W=>(zFl s W).mono fun e w' h=>⟨by
  have:=h.1;unfold zBc at this;rw[this,hx];rfl,h.2⟩
 have h2:=zBd c;rw[hi]at h2;have h3:=fun (W:World) (e:W=w)=>zJc A n cp B l c W hn hN (by rw[e];exact hB) (by rw[e];exact hA) hc
 clear hx hi hc hA hn;go_enter func126,ntmps126;go_wp2_with fail;refine (h1 _).mono ?_;rintro e w1 ⟨rfl,rfl⟩;go_wp2_with fail;refine (h2 _).mono ?_;rintro e w1 ⟨rfl,rfl⟩;go_wp2_with fail;refine (h3 _ rfl).mono ?_;rintro e w1 ⟨rfl,rfl⟩;go_wp2_with fail;go_ret2;exact⟨rfl,rfl⟩
theorem zHc (c:UInt8):∀l:List UInt8,(l.dropWhile (· == c)).length≤l.length
 | []=>Za _
 | b::l=>by
   rw[YC];split
   · have:=zHc c l;simp;omega
   exact Za _
theorem zO5 (x:List UInt8):(Lib.trimB (Lib.cut x [35]).1 32).length≤x.length:=by
 have h1:(Lib.cut x [35]).1.length≤x.length:=by unfold Lib.cut;split <;> simp <;> omega
 rw[zER];unfold Lib.trimRightB Lib.trimLeftB;rw[JG];have h2:=zHc 32 ((Lib.cut x [35]).1.dropWhile (· == 32)).reverse;have h3:=zHc 32 (Lib.cut x [35]).1;rw[JG]at h2;omega
def Ex.RetParse (cs:List Int) (w:World) (e:Ending) (w':World):Prop :=
 ∃A c,e=.returned (.tuple #[.agg #[.slice A (C.chars cs).length c],.nilIface])∧Slt w' 21 A ((C.chars cs).map (Value.int .i32))∧Below w.heap.size w w'
theorem Ex.parse_any (s:ByteArray) (hs:s.size≤300000) (cs:List Int) (hp:Ex.parse s.data.toList=some cs) (w:World) (hL:Fi.LaidM w) :
 Calls prog 94 #[.string s] w (Ex.RetParse cs w):=by
 unfold Ex.parse at hp;split at hp
 case isFalse=>cases hp
 rename_i h0;obtain⟨ay,ar⟩:=h0;have au:=zHM s (by omega) ay
 have hl:∀x∈zAN [] s.data.toList,x.length≤1000:=fun x hx=>by
  rw[Yj]at ay;have:=ay x hx;unfold zCa at this;rw[Zw,Zn]at this;exact this.1
 obtain⟨L,bk⟩:∃L,zAN [] s.data.toList=L:=⟨_,rfl⟩;rw[bk]at hp au ar hl;obtain⟨n,hn⟩:∃n,L.length=n:=⟨_,rfl⟩;have HP:=hy' hp;have bp:=hy' hl;have HN:=hy' hn;obtain⟨i0,hi,bo,b2,br⟩:=Z2 zBL;rw[hn]at ar;unfold zJ6 at au;rw[hn]at au;clear ay hp bk hl hn;go_enter func94,ntmps94;go_wp2_with fail;refine (au _).mono ?_;rintro e w1 ⟨A,c,rfl,hA,bc⟩;have a6:Below w.heap.size w w1:=((Zc _ _).alloc (Za _) _).trans (bc.mono (by simp));have bq:Rw.At w1 w.heap.size 85 [.slice none 0 0]:=(Rw.At.new w 85 [.slice none 0 0]).below bc;have bz:=hy' (hL.below a6);have HA:=hy' hA;have bl:=hy' a6;clear hA bc hL au a6;go_wp2_with fail
 go_loopw [6,7,8,9,10,22] (fun v _ _ _ _ i wr=>∃(k:Nat) (seen:List Int),k≤n∧i=.int .i64 k∧Ex.steps [] (L.take k)=some seen∧wr.ownsRow w1.heap.size 21 1 v seen.length (seen.map (Value.int .i32))∧Below w1.heap.size w1 wr)
  (fun _ _ _ _ _ i _=>n-(intOf i).toNat)
 case atStart=>exact⟨0,[],ZF _,rfl,rfl,ZE _ _ _ _,Zc _ _⟩
 obtain⟨k,seen,hk,rfl,ak,af,ae⟩:=hrel;have hz:=ae.size;have b4:=Ex.steps_len _ ak;simp only[ZY,Z1]at b4;have b5:(L.take k).length≤k:=Xs _ _
 by_cases hlt:k<n
 rotate_left
 · obtain rfl:k=n:=by omega
   have kI:¬(k:Int)<k:=by omega
   have bb:seen=cs:=by
    rw[Zi (by rw[HN.o];exact Za _),HP.o,Zg]at ak;exact ak.symm
   subst bb;obtain⟨Av,cv,rfl⟩:=zA3 af;have a1:=C.chars_any Av seen.length cv wr.heap.size seen wr rfl (by omega) (Za _) (Sl.of_own af);have aw:=bq.below ae;have ah:=hy' (bl.o.trans (ae.mono bl.o.size));clear ak af ae;go_wp2_with fail;refine a1.mono ?_;rintro e w2 ⟨A2,c2,rfl,aa,aj⟩;have ai:=aw.below aj;have z0:=ai.cell 0 rfl;have g0:=ai.frozen 0;have bm:=Slt.of_own aa;have az:=hy' (ah.o.trans (aj.mono ah.o.size));have bu:=hy' bm;clear bm aa aj a1 aw;go_wp2_with fail;have bg:=ai.set 0 (.slice A2 (C.chars seen).length c2);refine YH (zE1 rfl _ _ w.heap.size _ _ _ _ rfl bg underlying85 rfl (by kernel_rfl)) rfl ⟨A2,c2,rfl,?_,?_⟩
   · exact bu.o.setAt ai (by decide) 0 _
   exact az.o.setCell (p:=⟨w.heap.size,0,none⟩) (Za _) _
 obtain⟨x,hx⟩:∃x,L[k]?=some x:=⟨_,Zb (by rw[HN.o];exact hlt)⟩;obtain⟨bi,h1,h2⟩:=Ex.steps_take HP.o hx ak;obtain⟨ab,ao,rfl,b3,bj⟩:=HA.o (by rw[Ze,HN.o];omega);have hc:=bj k (by rw[Ze,HN.o];exact hlt);rw[Zo,hx,Zz,←(zAQ ae).1 _ _ b3]at hc;have b6:=bp.o x (Zj hx);have hS:=zMq ⟨x.toArray⟩ (by show x.toArray.size<_;simp;omega) wr (bz.o.below ae);rw[show (⟨x.toArray⟩:ByteArray).data.toList=x from rfl]at hS;obtain⟨bx,bn⟩:∃bx:ByteArray,⟨x.toArray⟩=bx:=⟨_,rfl⟩;rw[bn]at hc hS;obtain⟨sx,bf⟩:∃sx:ByteArray,⟨(zBv x).toArray⟩=sx:=⟨_,rfl⟩;rw[bf]at hS;have a8:sx.data.toList=zBv x:=by rw[←bf]
 have kI:(k:Int)<n:=by omega
 have bt:ab<wr.heap.size:=by omega
 have HX:=hy' h2;have ah:=hy' ae;have ba:=hy' af;have HH:=hy' h1;have a7:=hy' a8
 have bw:sx.size≤1000000:=by
  have h3:sx.data.toList.length=sx.size:=by simp
  have h4:(zBv x).length≤x.length:=by
   unfold zBv;exact zO5 x
  rw[a8]at h3;omega
 clear bj hx h1 h2 ae bn bf af ak a8;go_wp2_with fail;refine hS.mono ?_;rintro e w2 ⟨rfl,aj⟩;have aa:=zA4 ba.o aj (Za _);have az:=hy' (ah.o.trans (aj.mono hz));have b1:w1.heap.size≤w2.heap.size:=Zh hz aj.size;clear aj hS;rcases zHK HH.o with ⟨he,rfl⟩|⟨ch,hne,ap,ax,av,rfl⟩
 · have bh:sx.toList.isEmpty=true:=by rw[YB sx,a7.o,he];rfl
   have ag:=hy' aa;clear he aa;go_wp2_with fail;exact⟨⟨k+1,_,by omega,by go_num,HX.o,ag.o,az.o⟩,by simp[intOf];omega⟩
 have bh:sx.toList.isEmpty=false:=by
  rw[YB sx,a7.o];rcases hl:zBv x with _|⟨q,r⟩
  · exact absurd hl hne
  rfl
 obtain⟨Av,cv,rfl⟩:=zA3 aa;have a1:=Ex.char_any sx Av seen.length cv w2.heap.size seen ch w2 bw rfl (by omega) (Za _) (Sl.of_own aa) (by rw[a7.o];exact ap) ax av;have ag:=hy' aa;clear hne ap ax av aa;go_wp2_with fail;refine a1.mono ?_;rintro e w3 ⟨rfl,rfl⟩;go_wp2_with (first|(at_builtin;refine zAa _ rfl _ _ _ rfl w1.heap.size 21 i0 _ 4 underlying35 hi bo b2 br rfl _ seen.length _ rfl ag.o _ rfl rfl (by simp only[maxLen];omega) (by omega) b1 ?_;intro v1 w4 aq bs)|fail);exact⟨⟨k+1,_,by omega,by go_num,HX.o,by rw[Zd,ZL];exact aq,az.o.trans bs⟩,by simp[intOf];omega⟩
theorem Rw.Laid.max {w:World} (h:Rw.Laid w):Fi.LaidM w:=h.1.1
theorem zJd (u x:ByteArray) (hu:u.size≤1000000) (aj:x.size≤300000) (T:List Rw.Row) (cs:List Int) (hp:Rw.parse u.data.toList=some T) (hx:Ex.parse x.data.toList=some cs) (ok:Ud.Ok T (C.chars cs)) (hbd:Md.bd T) (w:World) (hL:Rw.Laid w) :
 Calls prog 68 #[.string u,.string x] w (zI7 T (C.chars cs) w):=by
 have hP:=Rw.parse_any u hu T hp w hL;have HX:=hy' (fun W (hW:Below w.heap.size w W)=>Ex.parse_any x aj cs hx W (hL.next hW).max);have HO:=hy' (fun v W h=>Ud.of_any v T (C.chars cs) W h ok hbd);unfold Ex.RetParse at HX;obtain⟨S,hS⟩:∃S,C.chars cs=S:=⟨_,rfl⟩;rw[hS]at HX HO ⊢;clear hp hx ok hbd hS hu aj hL;go_enter func68,ntmps68;go_wp2_with fail;refine hP.mono ?_;rintro e w1 ⟨A,c,rfl,aa,ai⟩;have au:=HX.o w1 ai;have HT:=hy' aa.sees;have ag:=hy' ai;clear hP HX aa ai;go_wp2_with fail;refine au.mono ?_;rintro e w2 ⟨A2,c2,rfl,ar,af⟩;have ae:Below w2.heap.size w2 (w2.alloc (.cells #[.slice A2 S.length c2] 85)):=(Zc _ _).alloc (Za _) _;have hn:=Rw.At.new w2 85 [.slice A2 S.length c2];have z0:=hn.cell 0 rfl;have ao:Md.Is (w2.alloc (.cells #[.slice A2 S.length c2] 85)) (zAX A T.length c A2 S.length c2) T S:=⟨A,c,A2,c2,rfl,(HT.o.below af).below ae,ar.sl.below ae ae.size⟩;have ah:=HO.o _ _ ao;have aq:=hy' ((ag.o.trans (af.mono ag.o.size)).trans (ae.mono (Zh ag.o.size af.size)));unfold zAX at ah;clear au ar af ae hn ao HO;go_wp2_with fail;refine ah.mono ?_;rintro e w3 ⟨p,rfl,ak,ap⟩;have HI:=hy' ak;have av:=hy' (aq.o.trans (ap.mono aq.o.size));clear ah ak ap;go_wp2_with fail;go_ret2;exact⟨p,rfl,HI.o,av.o⟩
end
section
open Go.RowKit Go.Stop
theorem zJe {u x:Nat} {s:List UInt8} (hx:0<x) (h:Lib.decDigits u=Lib.decDigits x++s) :
 Lib.decDigits u=(if x/10=0 then [] else Lib.decDigits (x/10))++(UInt8.ofNat (48+x%10)::s):=by
 rw[h,Lib.decDigits]
 by_cases hx10:x<10
 · rw[dif_pos hx10,Zm (by omega),Xv hx10];rfl
 rw[dif_neg hx10,Zk (by omega),ZD];rfl
theorem zLi (u:Nat) (w:World) (hu:u<9223372036854775808) :
 Calls prog 170 #[.int .i64 u] w fun e w'=>e=.returned (.string ⟨(Lib.decDigits u).toArray⟩)∧Below w.heap.size w w':=by
 go_enter func170,ntmps170;go_wp2;go_loopw [0,3,4] (fun vx vs vi wr=>∃(i x:Nat) (s:List UInt8),vx=.int .i64 x∧vs=.string ⟨s.toArray⟩∧vi=.int .i64 i∧i≤64∧s.length=i∧x<2 ^ (63-i)∧((i=0∧x=u∧s=[])∨(0<i∧Lib.decDigits u=(if x=0 then [] else Lib.decDigits x)++s))∧Below w.heap.size w wr) (fun _ _ vi _=>65-(intOf vi).toNat)
 case atStart=>exact⟨0,u,[],rfl,rfl,rfl,by omega,rfl,by simpa using hu,.inl ⟨rfl,rfl,rfl⟩,Below.refl _ _⟩
 obtain⟨i,x,s,rfl,rfl,rfl,hi,ar,hx,af,ae⟩:=hrel;obtain⟨w1,rfl⟩:∃w1:World,w1=wr:=⟨_,rfl⟩;have aw:=ae.size;have az:=hy' ae;have hC:=zLf w1 (48+(x:Int)%10);rw[show (48+(x:Int)%10).toNat=48+x%10 by omega]at hC;have aj:=hy' ar;have ay:¬9223372036854775807<1+s.length:=by omega
 have au:=hy' (ae.alloc aw (.cells #[.int .u8 (48+(x:Int)%10)] 5));clear ar
 have av:x<9223372036854775808:=by
  have:2 ^ (63-i)≤2 ^ 63:=Xg (by decide) (by omega);have e:(2:Nat) ^ 63=9223372036854775808:=by decide
  omega
 by_cases hgo:i=0∨0<x
 rotate_left
 · have ai:x=0:=by omega
   have ag:0<i:=by omega
   subst ai
   have hf:Lib.decDigits u=s:=by
    rcases af with ⟨h,_⟩|⟨_,h⟩
    · omega
    simpa using h
   have HF:=hy' hf;have hne:¬(i:Int)=0:=by omega
   clear af hf hx hgo hC;go_wp2;go_ret;exact⟨by rw[HF.o];rfl,ae⟩
 have aq:Lib.decDigits u=(if x/10=0 then [] else Lib.decDigits (x/10))++(UInt8.ofNat (48+x%10)::s):=by
  rcases af with ⟨rfl,rfl,rfl⟩|⟨h0,h⟩
  · rcases YF x with rfl|hp
    · rw[Lib.decDigits];rfl
    exact zJe hp (by simp)
  have hp:0<x:=by omega
  rw[Zk (by omega)]at h;exact zJe hp h
 have ax:i<63:=by
  rcases hgo with rfl|hp
  · omega
  rcases Z0 i 63 with h|h
  · exact h
  have:63-i=0:=by omega
  rw[this]at hx;omega
 have ak:x/10<2 ^ (63-(i+1)):=by
  have e:63-i=(63-(i+1))+1:=by omega
  rw[e,Xb]at hx;omega
 have ah:=hy' aq;have ao:=hy' ak;clear aq ak hx af ae;obtain⟨dg,ap⟩:∃dg,UInt8.ofNat (48+x%10)=dg:=⟨_,rfl⟩;rw[ap]at hC ah;have aa:=hy' (zAJ [dg] s);clear ap;rcases YF i with ag|hp
 · have HI:=hy' ag;subst ag;go_wp2;refine⟨⟨1,x/10,dg::s,by go_num,by first|exact Z6 Value.string aa.o|(congr 1;exact aa.o),rfl,by omega,by rw[ZB,aj.o],ao.o,.inr ⟨by omega,ah.o⟩,au.o⟩,by simp[intOf]⟩
 have hne:¬(i:Int)=0:=by omega
 have ai:0<x:=by omega
 have a1:(x:Int) > 0:=by omega
 go_wp2;refine⟨⟨i+1,x/10,dg::s,by go_num,by first|exact Z6 Value.string aa.o|(congr 1;exact aa.o),by go_num,by omega,by rw[ZB,aj.o],ao.o,.inr ⟨by omega,ah.o⟩,au.o⟩,by simp[intOf];omega⟩
end
section
open Go.RowKit
theorem zGy {P Q:Prop} {W w':World} {B:Nat} (h:P∧Q∧Below B W w'):Below B W w':=h.2.2
theorem zLj {W w':World} {B b1 b2 o1 o2:Nat} {v1 v2:Value} (d1:W.cell? ⟨b1,o1,none⟩=some v1) (d2:W.cell? ⟨b2,o2,none⟩=some v2) (h1:b1<B) (h2:b2<B) (h:Below B W w') :
 w'.cell? ⟨b1,o1,none⟩=some v1∧w'.cell? ⟨b2,o2,none⟩=some v2∧Below B W w':=⟨((zAQ h).1 _ _ h1).trans d1,((zAQ h).1 _ _ h2).trans d2,h⟩
theorem zEW (v:Int) (h0:0≤v) (h1:v<16777216) (w:World) :
 Calls prog 109 #[.int .i64 v] w fun e w'=>e=.returned (.string ⟨(Fi.text v.toNat).toArray⟩)∧Below w.heap.size w w':=by
 obtain⟨n,rfl⟩:∃n:Nat,v=n:=⟨v.toNat,by omega⟩;rw[Y9];exact Fi.rtext_any n (by omega) w
theorem zO6 (v:Int) (h0:0≤v) (h1:v<9223372036854775808) (w:World) :
 Calls prog 170 #[.int .i64 v] w fun e w'=>e=.returned (.string ⟨(Lib.decDigits v.toNat).toArray⟩)∧Below w.heap.size w w':=by
 obtain⟨n,rfl⟩:∃n:Nat,v=n:=⟨v.toNat,by omega⟩;rw[Y9];exact zLi n w (by omega)
theorem zAx (l:List UInt8):(⟨l.toArray⟩:ByteArray).size=l.length:=by show l.toArray.size=_;simp
def zB1 (m:List Int):List UInt8:=zAr 32 (m.map fun c=>Fi.text c.toNat)
theorem zGz (m:List Int) (c:Int):zB1 (m++[c])=(if m=[] then Fi.text c.toNat else zB1 m++32::Fi.text c.toNat):=by
 unfold zB1;rw[ZL,XD,zMr];rcases m with _|⟨a,t⟩ <;> simp
theorem zEX:∀(k:Nat) (m:List Int),m.length=k→(∀c∈m,0≤c∧c<16777216)→(zB1 m).length≤7*k
 | 0,m,h,_=>by
   obtain rfl:m=[]:=List.length_eq_zero_iff.1 h;simp[zB1,zAr]
 | k+1,m,h,hc=>by
   rcases YW m with rfl|⟨t,c,aa⟩
   · simp at h
   rw[YX]at aa;subst aa;have ih:=zEX k t (by simpa using h) fun x hx=>hc x (by simp[hx])
   have h1:=hc c (by simp);have h2:=zBU 5 c.toNat (by rw[show (16:Nat) ^ (5+1)=16777216 from by decide];omega);have h3:=Fi.text_len c.toNat;rw[zGz];split
   · omega
   simp;omega
theorem zMD (c k:Int) (A:Option Addr) (m:List Int) (n cp B:Nat) (w:World) (c0:0≤c) (c1:c<16777216) (k0:0≤k) (k1:k<1000000000) (hn:m.length=n) (hm:n≤1000) (hmb:∀x∈m,0≤x∧x<16777216)
 (hB:B≤w.heap.size) (hA:Sl w B A (m.map (Value.int .i64))) :
 Calls prog 139 #[.agg #[.int .i64 c,.int .i64 k,.slice A n cp]] w fun e w'=>e=.returned (.string ⟨(Rw.line (c,k,m)).toArray⟩)∧Below w.heap.size w w':=by
 have hT:=zEW c c0 c1;have hD:=zO6 k k0 (by omega)
 have l1:(Fi.text c.toNat).length≤6:=by
  have h2:=zBU 5 c.toNat (by rw[show (16:Nat) ^ (5+1)=16777216 from by decide];omega);have h3:=Fi.text_len c.toNat;omega
 have l2:=zCQ 9 k.toNat (by rw[show (10:Nat) ^ (9+1)=10000000000 from by decide];omega);obtain⟨tc,az⟩:∃x:ByteArray,⟨(Fi.text c.toNat).toArray⟩=x:=⟨_,rfl⟩;obtain⟨dk,a1⟩:∃x:ByteArray,⟨(Lib.decDigits k.toNat).toArray⟩=x:=⟨_,rfl⟩;have s1:tc.size≤6:=by rw[←az,zAx];exact l1
 have s2:dk.size≤10:=by rw[←a1,zAx];exact l2
 simp only[az]at hT;simp only[a1]at hD;obtain⟨mt,ap⟩:∃x:ByteArray,⟨(zB1 m).toArray⟩=x:=⟨_,rfl⟩
 have s3:mt.size≤7000:=by
  rw[←ap,zAx];have:=zEX n m hn hmb;omega
 have aw:(((((tc++⟨#[59,88,59,59]⟩)++dk)++⟨#[59,59]⟩)++mt)++⟨#[59,59,59,59,59,59,59,59,59]⟩:ByteArray)=⟨(Rw.line (c,k,m)).toArray⟩:=by
  rw[←az,←a1,←ap,show (⟨#[59,88,59,59]⟩:ByteArray)=⟨[59,88,59,59].toArray⟩ from rfl,show (⟨#[59,59]⟩:ByteArray)=⟨[59,59].toArray⟩ from rfl,show (⟨#[59,59,59,59,59,59,59,59,59]⟩:ByteArray)=⟨[59,59,59,59,59,59,59,59,59].toArray⟩ from rfl];simp only[zAJ];unfold Rw.line zB1;simp only[ZD]
 have HR:=hy' aw;have HN:=hy' hn;have bf:=hy' hmb;have bp:=hy' ap;clear aw az a1 hn hmb ap l1 l2;have aq:=Rw.At.new w 39 [.int .i64 c,.int .i64 k,.slice A n cp];obtain⟨d1,d2,d3,d4,d5,d6⟩:=aq.three;clear d4 d5 d6;go_enter func139,ntmps139;go_wp2_with fail;obtain⟨wa,ax⟩:∃wa,w.alloc (.cells #[.int .i64 c,.int .i64 k,.slice A n cp] 39)=wa:=⟨_,rfl⟩;have a6:w.heap.size<wa.heap.size:=by rw[←ax];simp
 have ag:Below w.heap.size w wa:=by rw[←ax];exact (Zc _ _).alloc (Za _) _
 have aj:Rw.At wa w.heap.size 39 [.int .i64 c,.int .i64 k,.slice A n cp]:=by rw[←ax];exact aq
 clear d1 d2 d3;rw[ax];have HA:=hy' (hA.below (ag.mono hB) (Z5 (Nat.lt_of_le_of_lt hB a6)));have bl:=hy' ag;clear ax aq hA ag;go_loopw [3,4,5,9] (fun v3 _ _ i wr=>∃j:Nat,j≤n∧i=.int .i64 j∧v3=.string ⟨(zB1 (m.take j)).toArray⟩∧Below wa.heap.size wa wr) (fun _ _ _ i _=>n-(intOf i).toNat)
 case atStart=>exact⟨0,ZF _,rfl,rfl,Zc _ _⟩
 obtain⟨j,hj,rfl,rfl,ae⟩:=hrel
 by_cases hlt:j<n
 · obtain⟨x,hx⟩:∃x,m[j]?=some x:=⟨_,Zb (by rw[HN.o];exact hlt)⟩;have hxb:=bf.o x (Zj hx);obtain⟨ab,ao,rfl,bo,bj⟩:=HA.o (by rw[Ze,HN.o];omega);have hc:=bj j (by rw[Ze,HN.o];exact hlt);rw[Zo,hx,Zz,←(zAQ ae).1 _ _ bo]at hc;have hX:=zEW x hxb.1 hxb.2
   have bn:(⟨(zB1 (m.take j)).toArray⟩:ByteArray).size≤7000:=by
    rw[zAx];have:=zEX (m.take j).length (m.take j) rfl (fun y hy=>bf.o y (Z8 hy));have:(m.take j).length≤j:=Xs _ _;omega
   have bk:(⟨(Fi.text x.toNat).toArray⟩:ByteArray).size≤6:=by
    rw[zAx];have h2:=zBU 5 x.toNat (by rw[show (16:Nat) ^ (5+1)=16777216 from by decide];omega);have h3:=Fi.text_len x.toNat;omega
   have ak:m.take (j+1)=m.take j++[x]:=by rw[ZA,hx];rfl
   have aa:m.take j=[]↔j=0:=by
    constructor
    · intro h;have:=Z6 List.length h;rw[Zr,HN.o,ZY]at this;omega
    rintro rfl;rfl
   obtain⟨ms,bb⟩:∃y:ByteArray,⟨(zB1 (m.take j)).toArray⟩=y:=⟨_,rfl⟩;obtain⟨tx,ai⟩:∃y:ByteArray,⟨(Fi.text x.toNat).toArray⟩=y:=⟨_,rfl⟩
   have ay:(if j=0 then ms++tx else ms++⟨#[32]⟩++tx)=⟨(zB1 (m.take (j+1))).toArray⟩:=by
    rw[ak,zGz,←bb,←ai]
    by_cases h0:j=0
    · rw[Zm h0,Zm (aa.2 h0),aa.2 h0];simp[zB1,zAr,zAJ]
    rw[Zk h0,Zk (fun h=>h0 (aa.1 h)),show (⟨#[32]⟩:ByteArray)=⟨[32].toArray⟩ from rfl];simp only[zAJ];simp
   rw[bb]at bn ⊢;rw[ai]at bk;simp only[ai]at hX;have ah:=hy' ay;have af:=hy' ae;have bh:¬9223372036854775807<ms.size+tx.size:=by omega
   have bc:¬9223372036854775807<ms.size+(⟨#[32]⟩:ByteArray).size:=by have:(⟨#[32]⟩:ByteArray).size=1:=rfl;omega
   have bi:¬9223372036854775807<(ms++⟨#[32]⟩).size+tx.size:=by
    have:(⟨#[32]⟩:ByteArray).size=1:=rfl;rw[ZU];omega
   have ba:(j:Int)<n:=by omega
   clear ak aa bb ai ay ae hx bj
   by_cases h0:j=0
   · subst h0;rw[Zm rfl]at ah;rw[YI]at hc;go_wp2_with fail;refine (hX _).mono ?_;rintro e w3 ⟨rfl,au⟩;have a7:=hy' au;clear au;go_wp2_with fail;exact⟨⟨1,by omega,rfl,by rw[ah.o],af.o.trans (a7.o.mono af.o.size)⟩,by simp[intOf];omega⟩
   rw[Zk h0]at ah;have h1:(0:Int)<(j:Int):=by omega
   go_wp2_with fail;refine (hX _).mono ?_;rintro e w3 ⟨rfl,au⟩;have a7:=hy' au;clear au;go_wp2_with fail;exact⟨⟨j+1,by omega,by go_num,by rw[ah.o],af.o.trans (a7.o.mono af.o.size)⟩,by simp[intOf];omega⟩
 obtain rfl:j=n:=by omega
 have ba:¬(j:Int)<j:=by omega
 have ap:(⟨(zB1 (m.take j)).toArray⟩:ByteArray)=mt:=by rw[Zi (by rw[HN.o];exact Za _)];exact bp.o
 rw[ap];obtain⟨d1,d2,d3,_,_,_⟩:=(aj.below ae).three;have ar:w.heap.size<wr.heap.size:=Zf a6 ae.size;have af:=hy' ae;clear ap ae aj d3;have bs:¬9223372036854775807<tc.size+(⟨#[59,88,59,59]⟩:ByteArray).size:=by have:(⟨#[59,88,59,59]⟩:ByteArray).size=4:=rfl;omega
 have bz:¬9223372036854775807<(tc++(⟨#[59,88,59,59]⟩:ByteArray)).size+dk.size:=by
  have:(⟨#[59,88,59,59]⟩:ByteArray).size=4:=rfl;rw[ZU];omega
 have bx:¬9223372036854775807<(tc++(⟨#[59,88,59,59]⟩:ByteArray)++dk).size+(⟨#[59,59]⟩:ByteArray).size:=by
  have:(⟨#[59,88,59,59]⟩:ByteArray).size=4:=rfl;have:(⟨#[59,59]⟩:ByteArray).size=2:=rfl;simp only[ZU];omega
 have bq:¬9223372036854775807<(tc++(⟨#[59,88,59,59]⟩:ByteArray)++dk++(⟨#[59,59]⟩:ByteArray)).size+mt.size:=by
  have:(⟨#[59,88,59,59]⟩:ByteArray).size=4:=rfl;have:(⟨#[59,59]⟩:ByteArray).size=2:=rfl;simp only[ZU];omega
 have b2:¬9223372036854775807<(tc++(⟨#[59,88,59,59]⟩:ByteArray)++dk++(⟨#[59,59]⟩:ByteArray)++mt).size+(⟨#[59,59,59,59,59,59,59,59,59]⟩:ByteArray).size:=by
  have:(⟨#[59,88,59,59]⟩:ByteArray).size=4:=rfl;have:(⟨#[59,59]⟩:ByteArray).size=2:=rfl;have:(⟨#[59,59,59,59,59,59,59,59,59]⟩:ByteArray).size=9:=rfl;simp only[ZU];omega
 have b1:¬9223372036854775807<tc.size+4:=by omega
 have bu:¬9223372036854775807<tc.size+4+dk.size:=by omega
 have bt:¬9223372036854775807<tc.size+4+dk.size+2:=by omega
 have bw:¬9223372036854775807<tc.size+4+dk.size+2+mt.size:=by omega
 have br:¬9223372036854775807<tc.size+4+dk.size+2+mt.size+9:=by omega
 have bg:Below wr.heap.size wr wr:=Zc _ _;go_wp2_with fail
 go_region_held3 (fun w'=>w'.cell? ⟨w.heap.size,0,none⟩=some (.int .i64 c)∧w'.cell? ⟨w.heap.size,1,none⟩=some (.int .i64 k)∧Below wr.heap.size wr w')
  (first
    | exact zLj d1 d2 ar ar bg
    | exact zLj d1 d2 ar ar bg.drew
    | exact zLj d1 d2 ar ar av
    | fail)
  (first
    | (go_at_call 109;refine (hT _).mono ?_;rintro e wq ⟨rfl,a8⟩;have av:=(zGy (W:=wr) (by assumption)).trans (a8.mono (zGy (W:=wr) (by assumption)).size))
    | (go_at_call 170;refine (hD _).mono ?_;rintro e wq ⟨rfl,a8⟩;have av:=(zGy (W:=wr) (by assumption)).trans (a8.mono (zGy (W:=wr) (by assumption)).size))
    | fail)
 all_goals
  have bm:=hy' (zGy (W:=wr) (by assumption));go_wp2_with fail;go_ret;exact⟨by rw[←HR.o];rfl,bl.o.trans ((af.o.trans (bm.out.mono af.o.size)).mono (Z5 a6))⟩
theorem Ud.rtext_any (A:Option Addr) (n c:Nat) (T:List Rw.Row) (w:World) (hn:T.length=n) (a7:n≤1000) (hr:∀r∈T,Rw.right r) (hA:Rw.SeesI w A T) :
 Calls prog 110 #[.slice A n c] w fun e w'=>e=.returned (.string ⟨(zB2 T).toArray⟩)∧Below w.heap.size w w':=by
 have HN:=hy' hn;have HR:=hy' hr;have HA:=hy' hA;clear hn hr hA;go_enter func110,ntmps110;go_wp2_with fail;go_loopw [3,5,8] (fun v3 _ i wr=>∃j:Nat,j≤n∧i=.int .i64 j∧v3=.string ⟨(zB2 (T.take j)).toArray⟩∧Below w.heap.size w wr) (fun _ _ i _=>n-(intOf i).toNat)
 case atStart=>exact⟨0,ZF _,rfl,rfl,Zc _ _⟩
 obtain⟨j,hj,rfl,rfl,aa⟩:=hrel
 by_cases hlt:j<n
 · obtain⟨r,hr⟩:∃r,T[j]?=some r:=⟨_,Zb (by rw[HN.o];exact hlt)⟩;have af:=HR.o r (Zj hr);obtain⟨b,o,a,rfl,hb,aw,ay,au,av⟩:=HA.o.row hr;have c0:=((zAQ aa).1 b (o+j*3) hb).trans aw;have c1:=((zAQ aa).1 b (o+j*3+1) hb).trans ay;have c2:=((zAQ aa).1 b (o+j*3+2) hb).trans au;have a8:b<wr.heap.size:=Zf hb aa.size;obtain⟨ml,ak⟩:∃k,r.2.2.length=k:=⟨_,rfl⟩;rw[ak]at c2;have ao:Below wr.heap.size wr (wr.alloc (.cells #[.int .i64 r.1,.int .i64 r.2.1,.slice a.1 ml a.2] 39)):=(Zc _ _).alloc (Za _) _;have ah:=Rw.At.new wr 39 [.int .i64 r.1,.int .i64 r.2.1,.slice a.1 ml a.2];have ap:ml≤2:=by rw[←ak];exact af.2.2.2.2.1
   have hL:=zMD r.1 r.2.1 a.1 r.2.2 ml a.2 w.heap.size (wr.alloc (.cells #[.int .i64 r.1,.int .i64 r.2.1,.slice a.1 ml a.2] 39)) af.1 (by have:=af.2.1;omega) af.2.2.1 (by have:=af.2.2.2.1;omega) ak (by omega) (fun x hx=>by have:=af.2.2.2.2.2 x hx;omega) (Zh aa.size ao.size) ((av.below aa (Za _)).below (ao.mono aa.size) (Za _));have ax:=zG1 r af;have a6:=zCl (T.take j) (fun q hq=>HR.o q (Z8 hq));have a1:(T.take j).length≤j:=Xs _ _
   have ae:zB2 (T.take (j+1))=zB2 (T.take j)++(Rw.line r++[10]):=by
    rw[ZA,hr,zFn];show _++zB2 [r]=_;rw[zFo]
   obtain⟨ln,aj⟩:∃y:ByteArray,⟨(Rw.line (r.1,r.2.1,r.2.2)).toArray⟩=y:=⟨_,rfl⟩;obtain⟨st,ai⟩:∃y:ByteArray,⟨(zB2 (T.take j)).toArray⟩=y:=⟨_,rfl⟩;have s1:ln.size≤1000:=by rw[←aj,zAx];exact ax
   have s2:st.size≤1001000:=by rw[←ai,zAx];omega
   have ag:st++(ln++⟨#[10]⟩)=⟨(zB2 (T.take (j+1))).toArray⟩:=by
    rw[ae,←ai,←aj,show (⟨#[10]⟩:ByteArray)=⟨[10].toArray⟩ from rfl];simp only[zAJ]
   simp only[aj]at hL;rw[ai];have jI:(j:Int)<n:=by omega
   have j0:(0:Int)≤j:=by omega
   obtain⟨d1,d2,d3,-,-,-⟩:=ah.three;have aq:=hy' ag;have HB:=hy' (aa.trans (ao.mono aa.size));clear aw ay au av hr af ak aj ai ag ae ax a6 a1 aa ao ah ap;go_wp2_with fail;refine hL.mono ?_;rintro e w2 ⟨rfl,ar⟩;have az:=hy' (HB.o.trans (ar.mono HB.o.size));clear ar hL d1 d2 d3 c0 c1 c2;go_wp2_with fail;exact⟨⟨j+1,by omega,by go_num,by rw[←aq.o],az.o⟩,by simp[intOf];omega⟩
 obtain rfl:j=n:=by omega
 have jI:¬(j:Int)<j:=by omega
 have he:zB2 (T.take j)=zB2 T:=by rw[Zi (by rw[HN.o];exact Za _)]
 rw[he];have HB:=hy' aa;clear aa he;go_wp2_with fail;go_ret;exact⟨rfl,HB.o⟩
def zAs (l:List Int):List Int:=l.foldl (fun acc c=>if c∈acc then acc else acc++[c]) []
theorem zFr:∀(l acc:List Int),acc.Nodup→(l.foldl (fun acc c=>if c∈acc then acc else acc++[c]) acc).Nodup∧∀d,d∈l.foldl (fun acc c=>if c∈acc then acc else acc++[c]) acc↔d∈acc∨d∈l
 | [],acc,h=>⟨h,fun d=>by simp⟩
 | c::l,acc,h=>by
   rw[YD]
   by_cases hc:c∈acc
   · rw[Zm hc];obtain⟨h1,h2⟩:=zFr l acc h;refine⟨h1,fun d=>?_⟩;rw[h2 d,Xe];constructor
     · rintro (h|h)
       · exact .inl h
       exact .inr (.inr h)
     rintro (h|rfl|h)
     · exact .inl h
     · exact .inl hc
     exact .inr h
   rw[Zk hc]
   obtain⟨h1,h2⟩:=zFr l (acc++[c]) (by
    rw[List.nodup_append];refine⟨h,by simp,fun a ha b hb=>?_⟩;rw[Zt]at hb;rw[hb];exact fun e=>hc (e▸ha))
   refine⟨h1,fun d=>?_⟩;rw[h2 d,Xc,Zt,Xe,or_assoc]
theorem zLk (l:List Int):(zAs l).Nodup:=(zFr l [] Kk).1
theorem zCm (l:List Int) (d:Int):d∈zAs l↔d∈l:=by
 unfold zAs;rw[(zFr l [] Kk).2 d];simp
theorem zME (l:List Int) (c:Int):zAs (l++[c])=if c∈l then zAs l else zAs l++[c]:=by
 have h:=zCm l c;unfold zAs at h ⊢;rw[Y6,YD,Jp]
 by_cases hc:c∈l
 · rw[Zm hc,Zm (h.2 hc)]
 rw[Zk hc,Zk (fun x=>hc (h.1 x))]
theorem zEl (l:List Int):(zAs l).length≤l.length:=by
 unfold zAs
 have:∀(l acc:List Int),(l.foldl (fun acc c=>if c∈acc then acc else acc++[c]) acc).length≤acc.length+l.length:=by
  intro l
  induction l with
  | nil=>intro acc;simp
  | cons c l ih =>
    intro acc;rw[YD];refine Zh (ih _) ?_;split
    · simp
    simp;omega
 simpa using this l []
theorem zMF (A:Option Addr) (n c:Nat) (XA:Option Addr) (xn xc:Nat) (T:List Rw.Row) (E:List Int) (w:World) (hn:T.length=n) (bk:n≤1000) (hxn:E.length=xn) (bj:xn≤1000) (br:xn≤xc)
 (hr:∀r∈T,Rw.right r) (hE:∀x∈E,0≤x∧x≤1114111) (hA:Rw.SeesI w A T) (hX:Sl w w.heap.size XA (E.map (Value.int .i64))) :
 Calls prog 74 #[.agg #[.slice A n c,.slice XA xn xc]] w fun e w'=>e=.returned (.tuple #[.string ⟨(zB2 T).toArray⟩,.string ⟨(zAg (zAs E)).toArray⟩])∧Below w.heap.size w w':=by
 have HT:=hy' (fun W (hW:Below w.heap.size w W)=>Ud.rtext_any A n c T W hn bk hr (hA.below hW));have HE:=hy' hE;have ax:=hy' hxn;obtain⟨t1,a1⟩:∃y:ByteArray,⟨(zB2 T).toArray⟩=y:=⟨_,rfl⟩;obtain⟨t2,az⟩:∃y:ByteArray,⟨(zAg (zAs E)).toArray⟩=y:=⟨_,rfl⟩;simp only[a1]at HT;rw[a1,az];have bn:=hy' az;have bb:=Rw.At.new w 25 [.slice A n c,.slice XA xn xc];have aw:Below w.heap.size w (w.alloc (.cells #[.slice A n c,.slice XA xn xc] 25)):=(Zc _ _).alloc (Za _) _;obtain⟨w0,av⟩:∃w0,w.alloc (.cells #[.slice A n c,.slice XA xn xc] 25)=w0:=⟨_,rfl⟩;have ah:Rw.At w0 w.heap.size 25 [.slice A n c,.slice XA xn xc]:=by rw[←av];exact bb
 rw[av]at aw;have bo:=hy' av;have bq:=hy' ah;have HB:=hy' aw;have HX:=hy' (hX.below aw (Za _));have y1:=ah.cell 1 rfl;have yl:=ah.lt;clear hn hr hE hxn hA hX bb aw av ah a1 az;go_enter func74,ntmps74;go_upto_region 1 with (fail)
 rw[bo.o];go_wp2_with fail;clear y1 yl;go_loopw [4,5,6,7,9,13] (fun v4 _ _ _ _ i wr=>∃j:Nat,j≤xn∧i=.int .i64 j∧v4=.string ⟨(zAg (zAs (E.take j))).toArray⟩∧Below w0.heap.size w0 wr) (fun _ _ _ _ _ i _=>xn-(intOf i).toNat)
 case atStart=>exact⟨0,ZF _,rfl,rfl,Zc _ _⟩
 obtain⟨j,hj,rfl,rfl,aa⟩:=hrel;have ae:=bq.o.below aa;have y0:=ae.cell 0 rfl;have y1:=ae.cell 1 rfl;have yl:=ae.lt
 by_cases hlt:j<xn
 rotate_left
 · obtain rfl:j=xn:=by omega
   have jI:¬(j:Int)<j:=by omega
   have he:(⟨(zAg (zAs (E.take j))).toArray⟩:ByteArray)=t2:=by rw[Zi (by rw[ax.o];exact Za _)];exact bn.o
   rw[he];have hT:=HT.o wr (HB.o.trans (aa.mono HB.o.size));have aj:=hy' (HB.o.trans (aa.mono HB.o.size));clear aa he ae;go_wp2_with fail;refine hT.mono ?_;rintro e w2 ⟨rfl,aq⟩;have a6:=hy' (aj.o.trans (aq.mono aj.o.size));clear aq hT;go_wp2_with fail;go_ret2;exact⟨rfl,a6.o⟩
 obtain⟨x,hx⟩:∃x,E[j]?=some x:=⟨_,Zb (by rw[ax.o];exact hlt)⟩;have ao:=HE.o x (Zj hx);obtain⟨xb,xo,rfl,hxb,a8⟩:=HX.o (by rw[Ze,ax.o];omega);have ap:xb<w0.heap.size:=Zf hxb HB.o.size
 have hcell:∀(i:Nat) (y:Int),E[i]?=some y→wr.cell? ⟨xb,xo+i,none⟩=some (.int .i64 y):=fun i y hy=>by
  have hi:=(List.getElem?_eq_some_iff.1 hy).1;have:=a8 i (by rw[Ze];exact hi);rw[Zo,hy,Zz,←(zAQ aa).1 _ _ ap]at this;exact this
 have q:=hcell j x hx;have HC:=hy' hcell;have bm:xb<wr.heap.size:=Zf ap aa.size;have jI:(j:Int)<xn:=by omega
 have j0:(0:Int)≤j:=by omega
 have jc:(j:Int)≤xc:=by omega
 have bs:=hy' hx;have aj:=hy' aa
 have bh:(⟨(zAg (zAs (E.take j))).toArray⟩:ByteArray).size≤7000:=by
  rw[zAx];have h1:=zD9 (zAs (E.take j)) (fun d hd=>HE.o d (Z8 ((zCm _ _).1 hd)));have h2:=zEl (E.take j);have h3:(E.take j).length≤j:=Xs _ _;omega
 have ai:zAg (zAs (E.take (j+1)))=if x∈E.take j then zAg (zAs (E.take j)) else zAg (zAs (E.take j))++(Fi.text x.toNat++[10]):=by
  rw[ZA,hx];show zAg (zAs (E.take j++[x]))=_;rw[zME]
  by_cases hm:x∈E.take j
  · rw[Zm hm,Zm hm]
  rw[Zk hm,Zk hm,zHP]
 obtain⟨st,ay⟩:∃y:ByteArray,⟨(zAg (zAs (E.take j))).toArray⟩=y:=⟨_,rfl⟩;rw[ay]at bh ⊢;have bc:=hy' ai;have bf:=hy' ay;have bl:=hy' ae;have a7:=zEW x ao.1 (by omega)
 have bp:(⟨(Fi.text x.toNat).toArray⟩:ByteArray).size≤6:=by
  rw[zAx];have h2:=zBU 5 x.toNat (by rw[show (16:Nat) ^ (5+1)=16777216 from by decide];omega);have h3:=Fi.text_len x.toNat;omega
 obtain⟨tx,au⟩:∃y:ByteArray,⟨(Fi.text x.toNat).toArray⟩=y:=⟨_,rfl⟩;rw[au]at bp;simp only[au]at a7;have bg:=hy' a7;have bi:=hy' au;clear hcell hx ai ay ae a7 au aa a8 ao;go_wp2_with fail;go_loop [7,9,23] (fun v7 _ k=>∃m:Nat,m≤j∧k=.int .i64 m∧v7=.bool (decide (x∈(E.take j).take m))) (fun _ _ k=>j-(intOf k).toNat)
 case atStart=>exact⟨0,ZF _,rfl,by simp⟩
 obtain⟨m,hm,rfl,rfl⟩:=hrel
 by_cases hmj:m<j
 · obtain⟨y,hy⟩:∃y,E[m]?=some y:=⟨_,Zb (by rw[ax.o];omega)⟩;have qm:=HC.o m y hy
   have af:decide (x∈(E.take j).take (m+1))=(decide (x∈(E.take j).take m)||(y == x)):=by
    rw[ZA,show (E.take j)[m]?=some y by rw[Yp,Zm hmj];exact hy,Yf];simp only[QI,Xc,Zt,Zn,X4,YT];constructor
    · rintro (h|h)
      · exact .inl h
      exact .inr h.symm
    rintro (h|h)
    · exact .inl h
    exact .inr h.symm
   obtain⟨sn,ak⟩:∃b,decide (x∈(E.take j).take m)=b:=⟨_,rfl⟩;rw[ak]at af ⊢;have HS:=hy' af;have mI:(m:Int)<j:=by omega
   have m0:(0:Int)≤m:=by omega
   clear af ak hy;cases sn
   · rcases hyx:(y == x) with _|_
     · rw[hyx]at HS;go_wp2_with fail;exact⟨⟨m+1,by omega,by go_num,by rw[HS.o];rfl⟩,by simp[intOf];omega⟩
     rw[hyx]at HS;go_wp2_with fail;exact⟨⟨m+1,by omega,by go_num,by rw[HS.o];rfl⟩,by simp[intOf];omega⟩
   go_wp2_with fail;exact⟨⟨m+1,by omega,by go_num,by rw[HS.o];rfl⟩,by simp[intOf];omega⟩
 obtain rfl:m=j:=by omega
 have mI:¬(m:Int)<m:=by omega
 obtain⟨sn,ak⟩:∃b,decide (x∈(E.take m).take m)=b:=⟨_,rfl⟩;rw[ak];have ar:decide (x∈E.take m)=sn:=by rw[←ak,Jz,J1]
 have ba:=hy' ar;clear ak ar;cases sn
 · have ag:st++(tx++⟨#[10]⟩)=⟨(zAg (zAs (E.take (m+1)))).toArray⟩:=by
    rw[bc.o,if_neg (by simpa using ba.o),←bf.o,←bi.o,show (⟨#[10]⟩:ByteArray)=⟨[10].toArray⟩ from rfl];simp only[zAJ]
   have HF:=hy' ag;clear ag;go_wp2_with (go_at_call 109;refine (bg.o _).mono ?_;rintro e w2 ⟨rfl,aq⟩;have a6:=hy' (aj.o.trans (aq.mono aj.o.size));clear aq);exact⟨⟨m+1,by omega,by go_num,by rw[←HF.o],a6.o⟩,by simp[intOf];omega⟩
 have ag:st=⟨(zAg (zAs (E.take (m+1)))).toArray⟩:=by
  rw[bc.o,if_pos (by simpa using ba.o),←bf.o]
 have HF:=hy' ag;clear ag;go_wp2_with fail;exact⟨⟨m+1,by omega,by go_num,by rw[←HF.o],aj.o⟩,by simp[intOf];omega⟩
end
section
open Go.ChangeShapes Go.WideShapes Go.RowKit Go.Deep
def zDR (r:Rw.Row):Prop:=(-9223372036854775808≤r.1∧r.1≤9223372036854775807)∧(-9223372036854775808≤r.2.1∧r.2.1≤9223372036854775807)∧r.2.2.length≤maxLen∧∀c∈r.2.2,-9223372036854775808≤c∧c≤9223372036854775807
def zQU (w:World) (a:Option Addr) (len cap:Nat) (l:List Rw.Row):Prop :=
 ∃ads,ads.length=l.length∧l.length=len∧len≤cap∧cap≤maxLen∧Sl w w.heap.size a (zBm l ads) ∧
  (∀(i:Nat) (r:Rw.Row) (a:Option Addr × Nat),l[i]?=some r→ads[i]?=some a→Sl w w.heap.size a.1 (r.2.2.map (Value.int .i64)))∧∀r∈l,zDR r
theorem zEm {α:Type} {n:Nat} {f:Nat→α} {i:Nat} {x:α} (h:((List.range n).map f)[i]?=some x):i<n∧f i=x:=by
 have aa:=(List.getElem?_eq_some_iff.1 h).1;simp at aa;rw[Zo,XU aa]at h;simp at h;exact⟨aa,h⟩
theorem zJf {w:World} {b o:Nat}:∀(l:List Rw.Row) (ads:List (Option Addr × Nat)) (k:Nat),ads.length=l.length →
 (∀i r a,l[i]?=some r→ads[i]?=some a→w.cell? ⟨b,o+(k+i)*3,none⟩=some (.int .i64 r.1)∧w.cell? ⟨b,o+(k+i)*3+1,none⟩=some (.int .i64 r.2.1)∧w.cell? ⟨b,o+(k+i)*3+2,none⟩=some (.slice a.1 r.2.2.length a.2)) →
 ∀j,j<(zBm l ads).length→w.cell? ⟨b,o+k*3+j,none⟩=(zBm l ads)[j]?
 | [],_,k,_,_,j,hj=>by simp[zBm]at hj
 | _::_,[],k,h,_,j,hj=>by simp at h
 | r::t,a::as',k,hl,h,j,hj=>by
   obtain⟨h0,h1,h2⟩:=h 0 r a rfl rfl;rw[YI]at h0 h1 h2
   have ih:=zJf t as' (k+1) (by simpa using hl) (fun i r' a' hi hi'=>by
    have:=h (i+1) r' a' (by simpa using hi) (by simpa using hi');rw[show k+(i+1)=k+1+i by omega]at this;exact this)
   rcases j with _|_|_|j
   · exact h0
   · rw[show o+k*3+(0+1)=o+k*3+1 by omega];exact h1
   · rw[show o+k*3+(0+1+1)=o+k*3+2 by omega];exact h2
   have:=ih j (by simp only[zBm,ZB]at hj;omega);rw[show o+k*3+(j+1+1+1)=o+(k+1)*3+j by omega,this];rfl
theorem zMG {H:Type} {enc:TypeId × Value→H} {P:Program} {w:World} {t e q:TypeId} {f0 f1 f2:Field} {fuel:Nat} {a:Option Addr} {len cap:Nat} {x:DataW H × List MemPlace} (ht:P.underlying t=some (.slice e)) (he:P.underlying e=some (.struct #[f0,f1,f2]))
 (ce:P.cellsOf e=3) (o0:f0.offset=0) (o1:f1.offset=1) (o2:f2.offset=2) (c0:P.cellsOf f0.type=1) (c1:P.cellsOf f1.type=1) (c2:P.cellsOf f2.type=1) (k0:P.underlying f0.type=some (.int .i64)) (k1:P.underlying f1.type=some (.int .i64))
 (k2:P.underlying f2.type=some (.slice q)) (k3:P.underlying q=some (.int .i64)) (c3:P.cellsOf q=1)
 (h:DataW.trod enc P w 0 (fun _=>true) true fuel t [.slice a len cap]=some x):∃l,zQU w a len cap l:=by
 rcases open_slice ht h with ⟨hcs,_⟩|⟨ad,l,c,m,n,D,Pl,hcs,hb,hl,hm,ak,_,hx⟩
 · simp only[Yd,ZZ,YQ]at hcs;obtain⟨rfl,rfl,rfl⟩:=hcs;exact⟨[],[],rfl,rfl,Za _,by decide,Sl.nil _ _ _,by simp,by simp⟩
 simp only[Yd,ZZ,YQ]at hcs;obtain⟨rfl,rfl,rfl⟩:=hcs;have aq:len≤m:=by rw[ak];split <;> omega
 have each:∀i,i<len→∃q:Rw.Row × Option Addr × Nat,w.cell? (ad.add (i*3))=some (.int .i64 q.1.1)∧w.cell? (ad.add (i*3+1))=some (.int .i64 q.1.2.1)∧w.cell? (ad.add (i*3+2))=some (.slice q.2.1 q.1.2.2.length q.2.2) ∧
  Sl w w.heap.size q.2.1 (q.1.2.2.map (Value.int .i64))∧zDR q.1:=by
  intro i hi;obtain⟨cs',h1,h2⟩:=hx i (by omega);rw[ce]at h1;obtain⟨_,hlen,hcell⟩:=World.cells?_some h1;obtain⟨y0,y1,y2,n',_,_,g0,g1,g2⟩:=trod_struct3 he h2
  match cs',hlen with
  | [v0,v1,v2],_ =>
    simp[o0,o1,o2,c0,c1,c2]at g0 g1 g2;obtain⟨z0,e0,_,w0⟩:=Qi k0 g0;obtain⟨z1,e1,_,w1⟩:=Qi k1 g1;simp only[Yd,YQ]at e0 e1;have d0:=hcell 0 (by omega);have d1:=hcell 1 (by omega);have d2:=hcell 2 (by omega);rw[add_add]at d0 d1 d2
    obtain⟨a2,l2,p2,zs,ev,hR⟩:∃a2 l2 p2 zs,v2=.slice a2 l2 p2∧IsRow .i64 w a2 l2 p2 zs:=by
     rcases open_ints k2 k3 c3 g2 with ⟨hcs,_⟩|⟨x,l,c,zs,hcs,_,hl,hm,hz,_,aa,ao⟩
     · simp only[Yd,YQ]at hcs;subst hcs;exact⟨none,0,0,[],rfl,.inl ⟨rfl,rfl,rfl,rfl⟩⟩
     simp only[Yd,YQ]at hcs;subst hcs;exact⟨some x,l,c,zs,rfl,.inr ⟨_,rfl,hl,hm,by simpa using hz,aa,ao⟩⟩
    subst ev;obtain⟨q1,q2,q3⟩:=hR.len_le;have ap:(zs.take l2).length=l2:=by rw[Zr,q3];omega
    refine⟨((z0,z1,zs.take l2),a2,p2),?_,?_,?_,hR.sl l2 (Za _),bounds_i64 w0,bounds_i64 w1,by show (zs.take l2).length≤maxLen;omega,fun c hc=>bounds_i64 (hR.wf c (Z8 hc))⟩
    · rw[←e0];simpa using d0
    · rw[←e1];simpa using d1
    show w.cell? (ad.add (i*3+2))=some (.slice a2 (zs.take l2).length p2);rw[ap];simpa using d2
 obtain⟨q,hq⟩:=choose_lt each;refine⟨(List.range len).map fun i=>(q i).1,(List.range len).map fun i=>(q i).2,by simp,by simp,hl,hm,?_,?_,?_⟩
 rotate_left
 · intro i r a hi hi';obtain⟨aj,ah⟩:=zEm hi;obtain⟨_,ag⟩:=zEm hi';have:=(hq i aj).2.2.2.1;rw[ah,ag]at this;exact this
 · intro r hr;obtain⟨i,hi,rfl⟩:=List.mem_map.1 hr;exact (hq i (List.mem_range.1 hi)).2.2.2.2
 intro hne;rw[zCG _ _ (by simp),Ze,JZ]at hne;obtain⟨b,off,spot⟩:=ad;have ai:=(hq 0 (by omega)).1;have af:spot=none:=by simpa [Addr.add] using World.cell?_spot ai
 subst af
 have ae:∀i,(⟨b,off,none⟩:Addr).add i=⟨b,off+i,none⟩:=by
  intro i;unfold Addr.add;split <;> simp_all
 refine⟨b,off,rfl,?_,fun j hj=>?_⟩
 · rw[ae]at ai;exact YO w _ ai
 have:=zJf (w:=w) (b:=b) (o:=off) ((List.range len).map fun i=>(q i).1) ((List.range len).map fun i=>(q i).2) 0 (by simp) (fun i r a hi hi'=>by
  obtain⟨aj,ah⟩:=zEm hi;obtain⟨_,ag⟩:=zEm hi';obtain⟨a0,a1,a2,_⟩:=hq i aj;rw[ae]at a0 a1 a2;rw[ah]at a0 a1 a2;rw[ag]at a2;rw[Z1];exact⟨a0,a1,a2⟩) j hj
 simpa using this
end
end Go.Proofs.YtjakbblocbicjaaGreatDoor
