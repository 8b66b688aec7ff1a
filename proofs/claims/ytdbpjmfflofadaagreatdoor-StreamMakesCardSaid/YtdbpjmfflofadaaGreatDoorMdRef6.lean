/- The layer excl: char, Parse, by walking their texts. -/
import Derived.Test.YtdbpjmfflofadaaGreatDoorRwParse
import Derived.Deep.SlicePairs
import Derived.Deep.Strs
import Derived.ProofKit
import Derived.OpenShut
set_option maxRecDepth 100000
set_option maxHeartbeats 8000000
set_option linter.unusedVariables false
set_option linter.unusedSimpArgs false
namespace Go.Proofs.YtdbpjmfflofadaaGreatDoor
open Go.Proofs.Tryz
section
open Go.RowKit
theorem zNn (A:Option Addr) (n cp B:Nat) (l:List Int) (c:Int) (w:World) (hn:l.length=n) (hN:n≤1000000) (hB:B≤w.heap.size) (hA:Sl w B A (l.map (Value.int .i32))) (hc:c∉l) :
 Calls prog 162 #[.slice A n cp,.int .i32 c] w fun e w'=>e=.returned (.int .i64 (-1))∧w'=w:=by
 have HN:=hy' hn;have HC:=hy' hc;clear hn hc;go_enter func162,ntmps162;go_wp2_with fail;go_loop [5,8] (fun _ i=>∃k:Nat,k≤n∧i=.int .i64 k) (fun _ i=>n-(intOf i).toNat)
 case atStart=>exact⟨0,Zq _,rfl⟩
 obtain⟨k,hk,rfl⟩:=hrel
 by_cases hlt:k<n
 · obtain⟨x,hx⟩:∃x,l[k]?=some x:=⟨_,Zb (by rw[HN.o];exact hlt)⟩;obtain⟨b,o,rfl,hb,hcell⟩:=hA (by rw[Ze,HN.o];omega);have h1:=hcell k (by rw[Ze,HN.o];exact hlt);rw[Zt,hx,Zw]at h1
   have hne:(c == x)=false:=by
    have:c≠x:=fun e=>HC.o (by rw[e];exact Zj hx)
    simpa using this
   have kI:(k:Int)<n:=by omega
   have k0:(0:Int)≤(k:Int):=by omega
   clear hcell hx;go_wp2_with fail;exact⟨⟨k+1,by omega,by go_num⟩,by simp[intOf];omega⟩
 obtain rfl:k=n:=by omega
 have kI:¬(k:Int)<k:=by omega
 go_wp2_with fail;go_ret;exact⟨rfl,rfl⟩
theorem zJL (A:Option Addr) (n cp B:Nat) (l:List Int) (c:Int) (w:World) (hn:l.length=n) (hN:n≤1000000) (hB:B≤w.heap.size) (hA:Sl w B A (l.map (Value.int .i32))) (hc:c∉l) :
 Calls prog 123 #[.slice A n cp,.int .i32 c] w fun e w'=>e=.returned (.bool false)∧w'=w:=by
 have h:=zNn A n cp B l c w hn hN hB hA hc;clear hn hc hA;go_enter func123,ntmps123;go_wp2_with fail;refine h.mono ?_;rintro e w1 ⟨rfl,rfl⟩;go_wp2_with fail;go_ret;exact⟨rfl,rfl⟩
theorem Ex.char_any (s:ByteArray) (A:Option Addr) (n cp B:Nat) (l:List Int) (c:Int) (w:World) (hs:s.size≤1000000) (hn:l.length=n) (hN:n≤1000000) (hB:B≤w.heap.size) (hA:Sl w B A (l.map (Value.int .i32)))
 (hx:zAJ s.data.toList=some c) (hi:C.isC c=true) (hc:c∉l) :
 Calls prog 83 #[.string s,.slice A n cp] w fun e w'=>e=.returned (.tuple #[.int .i32 c,.string ⟨#[]⟩])∧w'=w:=by
 have h1:∀W:World,Calls prog 122 #[.string s] W fun e w'=>e=.returned (.tuple #[.int .i32 c,.bool true])∧w'=W:=fun W=>(zFC s W).mono fun e w' h=>⟨by
  have:=h.1;unfold zBf at this;rw[this,hx];rfl,h.2⟩
 have h2:=zBv c;rw[hi]at h2;have h3:=fun (W:World) (e:W=w)=>zJL A n cp B l c W hn hN (by rw[e];exact hB) (by rw[e];exact hA) hc
 clear hx hi hc hA hn;go_enter func83,ntmps83;go_wp2_with fail;refine (h1 _).mono ?_;rintro e w1 ⟨rfl,rfl⟩;go_wp2_with fail;refine (h2 _).mono ?_;rintro e w1 ⟨rfl,rfl⟩;go_wp2_with fail;refine (h3 _ rfl).mono ?_;rintro e w1 ⟨rfl,rfl⟩;go_wp2_with fail;go_ret2;exact⟨rfl,rfl⟩
theorem zHE (c:UInt8):∀l:List UInt8,(l.dropWhile (· == c)).length≤l.length
 | []=>Za _
 | b::l=>by
   rw[Yw];split
   · have:=zHE c l;simp;omega
   exact Za _
theorem zOT (x:List UInt8):(Lib.trimB (Lib.cut x [35]).1 32).length≤x.length:=by
 have h1:(Lib.cut x [35]).1.length≤x.length:=by unfold Lib.cut;split <;> simp <;> omega
 rw[zF9];unfold Lib.trimRightB Lib.trimLeftB;rw[JS];have h2:=zHE 32 ((Lib.cut x [35]).1.dropWhile (· == 32)).reverse;have h3:=zHE 32 (Lib.cut x [35]).1;rw[JS]at h2;omega
def Ex.RetParse (cs:List Int) (w:World) (e:Ending) (w':World):Prop :=
 ∃A c,e=.returned (.tuple #[.agg #[.slice A (C.chars cs).length c],.nilIface])∧Slt w' 21 A ((C.chars cs).map (Value.int .i32))∧Below w.heap.size w w'
theorem Ex.parse_any (s:ByteArray) (hs:s.size≤300000) (cs:List Int) (hp:Ex.parse s.data.toList=some cs) (w:World) (hL:Fi.LaidM w) :
 Calls prog 46 #[.string s] w (Ex.RetParse cs w):=by
 unfold Ex.parse at hp;split at hp
 case isFalse=>cases hp
 rename_i h0;obtain⟨az,aq⟩:=h0;have ap:=zIg s (by omega) az
 have hl:∀x∈zAS [] s.data.toList,x.length≤1000:=fun x hx=>by
  rw[Yg]at az;have:=az x hx;unfold zCh at this;rw[Zr,Zo]at this;exact this.1
 obtain⟨L,bj⟩:∃L,zAS [] s.data.toList=L:=⟨_,rfl⟩;rw[bj]at hp ap aq hl;obtain⟨n,hn⟩:∃n,L.length=n:=⟨_,rfl⟩;have HP:=hy' hp;have bu:=hy' hl;have HN:=hy' hn;obtain⟨i0,hi,bz,bs,bt⟩:=Z9 zCv;rw[hn]at aq;unfold zJF at ap;rw[hn]at ap;clear az hp bj hl hn;go_enter func46,ntmps46;go_wp2_with fail;refine (ap _).mono ?_;rintro e w1 ⟨A,c,rfl,hA,a8⟩;have bh:Below w.heap.size w w1:=((Zd _ _).alloc (Za _) _).trans (a8.mono (by simp));have b2:Rw.At w1 w.heap.size 90 [.slice none 0 0]:=(Rw.At.new w 90 [.slice none 0 0]).below a8;have b4:=hy' (hL.below bh);have HA:=hy' hA;have bk:=hy' bh;clear hA a8 hL ap bh;go_wp2_with fail
 go_loopw [6,7,8,9,10,22] (fun v _ _ _ _ i wr=>∃(k:Nat) (seen:List Int),k≤n∧i=.int .i64 k∧Ex.steps [] (L.take k)=some seen∧wr.ownsRow w1.heap.size 21 1 v seen.length (seen.map (Value.int .i32))∧Below w1.heap.size w1 wr)
  (fun _ _ _ _ _ i _=>n-(intOf i).toNat)
 case atStart=>exact⟨0,[],Zq _,rfl,rfl,ZG _ _ _ _,Zd _ _⟩
 obtain⟨k,seen,hk,rfl,ak,af,ae⟩:=hrel;have hz:=ae.size;have br:=Ex.steps_len _ ak;simp only[ZY,Z4]at br;have b6:(L.take k).length≤k:=XB _ _
 by_cases hlt:k<n
 rotate_left
 · obtain rfl:k=n:=by omega
   have kI:¬(k:Int)<k:=by omega
   have bc:seen=cs:=by
    rw[Zi (by rw[HN.o];exact Za _),HP.o,Zg]at ak;exact ak.symm
   subst bc;obtain⟨Av,cv,rfl⟩:=zA3 af;have ay:=zDb Av seen.length cv wr.heap.size seen wr rfl (by omega) (Za _) (Sl.of_own af);have ar:=b2.below ae;have ah:=hy' (bk.o.trans (ae.mono bk.o.size));clear ak af ae;go_wp2_with fail;refine ay.mono ?_;rintro e w2 ⟨A2,c2,rfl,aa,aj⟩;have ai:=ar.below aj;have z0:=ai.cell 0 rfl;have g0:=ai.frozen 0;have bi:=Slt.of_own aa;have a1:=hy' (ah.o.trans (aj.mono ah.o.size));have bo:=hy' bi;clear bi aa aj ay ar;go_wp2_with fail;have ba:=ai.set 0 (.slice A2 (C.chars seen).length c2);refine YD (zEi rfl _ _ w.heap.size _ _ _ _ rfl ba underlying90 rfl (by kernel_rfl)) rfl ⟨A2,c2,rfl,?_,?_⟩
   · exact bo.o.setAt ai (by decide) 0 _
   exact a1.o.setCell (p:=⟨w.heap.size,0,none⟩) (Za _) _
 obtain⟨x,hx⟩:∃x,L[k]?=some x:=⟨_,Zb (by rw[HN.o];exact hlt)⟩;obtain⟨bn,h1,h2⟩:=Ex.steps_take HP.o hx ak;obtain⟨ab,ao,rfl,b3,bl⟩:=HA.o (by rw[Ze,HN.o];omega);have hc:=bl k (by rw[Ze,HN.o];exact hlt);rw[Zt,hx,Zw,←(zAU ae).1 _ _ b3]at hc;have b5:=bu.o x (Zj hx);have hS:=zNb ⟨x.toArray⟩ (by show x.toArray.size<_;simp;omega) wr (b4.o.below ae);rw[show (⟨x.toArray⟩:ByteArray).data.toList=x from rfl]at hS;obtain⟨bx,bm⟩:∃bx:ByteArray,⟨x.toArray⟩=bx:=⟨_,rfl⟩;rw[bm]at hc hS;obtain⟨sx,bb⟩:∃sx:ByteArray,⟨(zBA x).toArray⟩=sx:=⟨_,rfl⟩;rw[bb]at hS;have a6:sx.data.toList=zBA x:=by rw[←bb]
 have kI:(k:Int)<n:=by omega
 have bw:ab<wr.heap.size:=by omega
 have HX:=hy' h2;have ah:=hy' ae;have bf:=hy' af;have HH:=hy' h1;have a7:=hy' a6
 have b1:sx.size≤1000000:=by
  have h3:sx.data.toList.length=sx.size:=by simp
  have h4:(zBA x).length≤x.length:=by
   unfold zBA;exact zOT x
  rw[a6]at h3;omega
 clear bl hx h1 h2 ae bm bb af ak a6;go_wp2_with fail;refine hS.mono ?_;rintro e w2 ⟨rfl,aj⟩;have aa:=zA6 bf.o aj (Za _);have a1:=hy' (ah.o.trans (aj.mono hz));have bp:w1.heap.size≤w2.heap.size:=Zh hz aj.size;clear aj hS;rcases zIe HH.o with ⟨he,rfl⟩|⟨ch,hne,aw,av,ax,rfl⟩
 · have bg:sx.toList.isEmpty=true:=by rw[Yq sx,a7.o,he];rfl
   have ag:=hy' aa;clear he aa;go_wp2_with fail;exact⟨⟨k+1,_,by omega,by go_num,HX.o,ag.o,a1.o⟩,by simp[intOf];omega⟩
 have bg:sx.toList.isEmpty=false:=by
  rw[Yq sx,a7.o];rcases hl:zBA x with _|⟨q,r⟩
  · exact absurd hl hne
  rfl
 obtain⟨Av,cv,rfl⟩:=zA3 aa;have ay:=Ex.char_any sx Av seen.length cv w2.heap.size seen ch w2 b1 rfl (by omega) (Za _) (Sl.of_own aa) (by rw[a7.o];exact aw) av ax;have ag:=hy' aa;clear hne aw av ax aa;go_wp2_with fail;refine ay.mono ?_;rintro e w3 ⟨rfl,rfl⟩;go_wp2_with (first|(at_builtin;refine zAg _ rfl _ _ _ rfl w1.heap.size 21 i0 _ 4 underlying79 hi bz bs bt rfl _ seen.length _ rfl ag.o _ rfl rfl (by simp only[maxLen];omega) (by omega) bp ?_;intro v1 w4 au bq)|fail);exact⟨⟨k+1,_,by omega,by go_num,HX.o,by rw[Zc,ZL];exact au,a1.o.trans bq⟩,by simp[intOf];omega⟩
theorem Rw.Laid.max {w:World} (h:Rw.Laid w):Fi.LaidM w:=h.1.1
theorem zJM (u x:ByteArray) (hu:u.size≤1000000) (ak:x.size≤300000) (T:List Rw.Row) (cs:List Int) (hp:Rw.parse u.data.toList=some T) (hx:Ex.parse x.data.toList=some cs) (ok:Ud.Ok T (C.chars cs)) (hbd:Md.bd T) (w:World) (hL:Rw.Laid w) :
 Calls prog 23 #[.string u,.string x] w (zIC T (C.chars cs) w):=by
 have hP:=Rw.parse_any u hu T hp w hL;have HX:=hy' (fun W (hW:Below w.heap.size w W)=>Ex.parse_any x ak cs hx W (hL.next hW).max);have HO:=hy' (fun v W h=>Ud.of_any v T (C.chars cs) W h ok hbd);unfold Ex.RetParse at HX;obtain⟨S,hS⟩:∃S,C.chars cs=S:=⟨_,rfl⟩;rw[hS]at HX HO ⊢;clear hp hx ok hbd hS hu ak hL;go_enter func23,ntmps23;go_wp2_with fail;refine hP.mono ?_;rintro e w1 ⟨A,c,rfl,ae,ai⟩;have aq:=HX.o w1 ai;have HT:=hy' ae.sees;have ag:=hy' ai;clear hP HX ae ai;go_wp2_with fail;refine aq.mono ?_;rintro e w2 ⟨A2,c2,rfl,aj,af⟩;have aa:Below w2.heap.size w2 (w2.alloc (.cells #[.slice A2 S.length c2] 90)):=(Zd _ _).alloc (Za _) _;have hn:=Rw.At.new w2 90 [.slice A2 S.length c2];have z0:=hn.cell 0 rfl;have ar:Md.Is (w2.alloc (.cells #[.slice A2 S.length c2] 90)) (zB8 A T.length c A2 S.length c2) T S:=⟨A,c,A2,c2,rfl,(HT.o.below af).below aa,aj.sl.below aa aa.size⟩;have ah:=HO.o _ _ ar;have ao:=hy' ((ag.o.trans (af.mono ag.o.size)).trans (aa.mono (Zh ag.o.size af.size)));unfold zB8 at ah;clear aq aj af aa hn ar HO;go_wp2_with fail;refine ah.mono ?_;rintro e w3 ⟨p,rfl,au,ap⟩;have HI:=hy' au;have av:=hy' (ao.o.trans (ap.mono ao.o.size));clear ah au ap;go_wp2_with fail;go_ret2;exact⟨p,rfl,HI.o,av.o⟩
end
section
open Go.RowKit Go.Stop
theorem zJN {u x:Nat} {s:List UInt8} (hx:0<x) (h:Lib.decDigits u=Lib.decDigits x++s) :
 Lib.decDigits u=(if x/10=0 then [] else Lib.decDigits (x/10))++(UInt8.ofNat (48+x%10)::s):=by
 rw[h,Lib.decDigits]
 by_cases hx10:x<10
 · rw[dif_pos hx10,Zl (by omega),XE hx10];rfl
 rw[dif_neg hx10,Zk (by omega),Zz];rfl
theorem zLU (u:Nat) (w:World) (hu:u<9223372036854775808) :
 Calls prog 190 #[.int .i64 u] w fun e w'=>e=.returned (.string ⟨(Lib.decDigits u).toArray⟩)∧Below w.heap.size w w':=by
 go_enter func190,ntmps190;go_wp2;go_loopw [0,3,4] (fun vx vs vi wr=>∃(i x:Nat) (s:List UInt8),vx=.int .i64 x∧vs=.string ⟨s.toArray⟩∧vi=.int .i64 i∧i≤64∧s.length=i∧x<2 ^ (63-i)∧((i=0∧x=u∧s=[])∨(0<i∧Lib.decDigits u=(if x=0 then [] else Lib.decDigits x)++s))∧Below w.heap.size w wr) (fun _ _ vi _=>65-(intOf vi).toNat)
 case atStart=>exact⟨0,u,[],rfl,rfl,rfl,by omega,rfl,by simpa using hu,.inl ⟨rfl,rfl,rfl⟩,Below.refl _ _⟩
 obtain⟨i,x,s,rfl,rfl,rfl,hi,ao,hx,af,ae⟩:=hrel;obtain⟨w1,rfl⟩:∃w1:World,w1=wr:=⟨_,rfl⟩;have ay:=ae.size;have a1:=hy' ae;have hC:=zLR w1 (48+(x:Int)%10);rw[show (48+(x:Int)%10).toNat=48+x%10 by omega]at hC;have au:=hy' ao;have av:¬9223372036854775807<1+s.length:=by omega
 have aj:=hy' (ae.alloc ay (.cells #[.int .u8 (48+(x:Int)%10)] 5));clear ao
 have aw:x<9223372036854775808:=by
  have:2 ^ (63-i)≤2 ^ 63:=Xe (by decide) (by omega);have e:(2:Nat) ^ 63=9223372036854775808:=by decide
  omega
 by_cases hgo:i=0∨0<x
 rotate_left
 · have ai:x=0:=by omega
   have ag:0<i:=by omega
   subst ai
   have hf:Lib.decDigits u=s:=by
    rcases af with ⟨h,_⟩|⟨_,h⟩
    · omega
    simpa using h
   have HF:=hy' hf;have hne:¬(i:Int)=0:=by omega
   clear af hf hx hgo hC;go_wp2;go_ret;exact⟨by rw[HF.o];rfl,ae⟩
 have aq:Lib.decDigits u=(if x/10=0 then [] else Lib.decDigits (x/10))++(UInt8.ofNat (48+x%10)::s):=by
  rcases af with ⟨rfl,rfl,rfl⟩|⟨h0,h⟩
  · rcases YM x with rfl|hp
    · rw[Lib.decDigits];rfl
    exact zJN hp (by simp)
  have hp:0<x:=by omega
  rw[Zk (by omega)]at h;exact zJN hp h
 have ax:i<63:=by
  rcases hgo with rfl|hp
  · omega
  rcases Z3 i 63 with h|h
  · exact h
  have:63-i=0:=by omega
  rw[this]at hx;omega
 have ar:x/10<2 ^ (63-(i+1)):=by
  have e:63-i=(63-(i+1))+1:=by omega
  rw[e,Y7]at hx;omega
 have ah:=hy' aq;have ak:=hy' ar;clear aq ar hx af ae;obtain⟨dg,ap⟩:∃dg,UInt8.ofNat (48+x%10)=dg:=⟨_,rfl⟩;rw[ap]at hC ah;have aa:=hy' (zAO [dg] s);clear ap;rcases YM i with ag|hp
 · have HI:=hy' ag;subst ag;go_wp2;refine⟨⟨1,x/10,dg::s,by go_num,by first|exact ZR Value.string aa.o|(congr 1;exact aa.o),rfl,by omega,by rw[ZB,au.o],ak.o,.inr ⟨by omega,ah.o⟩,aj.o⟩,by simp[intOf]⟩
 have hne:¬(i:Int)=0:=by omega
 have ai:0<x:=by omega
 have az:(x:Int) > 0:=by omega
 go_wp2;refine⟨⟨i+1,x/10,dg::s,by go_num,by first|exact ZR Value.string aa.o|(congr 1;exact aa.o),by go_num,by omega,by rw[ZB,au.o],ak.o,.inr ⟨by omega,ah.o⟩,aj.o⟩,by simp[intOf];omega⟩
end
section
open Go.RowKit
theorem zGT {P Q:Prop} {W w':World} {B:Nat} (h:P∧Q∧Below B W w'):Below B W w':=h.2.2
theorem zLV {W w':World} {B b1 b2 o1 o2:Nat} {v1 v2:Value} (d1:W.cell? ⟨b1,o1,none⟩=some v1) (d2:W.cell? ⟨b2,o2,none⟩=some v2) (h1:b1<B) (h2:b2<B) (h:Below B W w') :
 w'.cell? ⟨b1,o1,none⟩=some v1∧w'.cell? ⟨b2,o2,none⟩=some v2∧Below B W w':=⟨((zAU h).1 _ _ h1).trans d1,((zAU h).1 _ _ h2).trans d2,h⟩
theorem zFe (v:Int) (h0:0≤v) (h1:v<16777216) (w:World) :
 Calls prog 104 #[.int .i64 v] w fun e w'=>e=.returned (.string ⟨(Fi.text v.toNat).toArray⟩)∧Below w.heap.size w w':=by
 obtain⟨n,rfl⟩:∃n:Nat,v=n:=⟨v.toNat,by omega⟩;rw[Y5];exact Fi.rtext_any n (by omega) w
theorem zOU (v:Int) (h0:0≤v) (h1:v<9223372036854775808) (w:World) :
 Calls prog 190 #[.int .i64 v] w fun e w'=>e=.returned (.string ⟨(Lib.decDigits v.toNat).toArray⟩)∧Below w.heap.size w w':=by
 obtain⟨n,rfl⟩:∃n:Nat,v=n:=⟨v.toNat,by omega⟩;rw[Y5];exact zLU n w (by omega)
theorem zAA (l:List UInt8):(⟨l.toArray⟩:ByteArray).size=l.length:=by show l.toArray.size=_;simp
def zB2 (m:List Int):List UInt8:=zAu 32 (m.map fun c=>Fi.text c.toNat)
theorem zGU (m:List Int) (c:Int):zB2 (m++[c])=(if m=[] then Fi.text c.toNat else zB2 m++32::Fi.text c.toNat):=by
 unfold zB2;rw[ZL,XL,zNc];rcases m with _|⟨a,t⟩ <;> simp
theorem zFf:∀(k:Nat) (m:List Int),m.length=k→(∀c∈m,0≤c∧c<16777216)→(zB2 m).length≤7*k
 | 0,m,h,_=>by
   obtain rfl:m=[]:=List.length_eq_zero_iff.1 h;simp[zB2,zAu]
 | k+1,m,h,hc=>by
   rcases YT m with rfl|⟨t,c,aa⟩
   · simp at h
   rw[YU]at aa;subst aa;have ih:=zFf k t (by simpa using h) fun x hx=>hc x (by simp[hx])
   have h1:=hc c (by simp);have h2:=zBY 5 c.toNat (by rw[show (16:Nat) ^ (5+1)=16777216 from by decide];omega);have h3:=Fi.text_len c.toNat;rw[zGU];split
   · omega
   simp;omega
theorem zNo (c k:Int) (A:Option Addr) (m:List Int) (n cp B:Nat) (w:World) (c0:0≤c) (c1:c<16777216) (k0:0≤k) (k1:k<1000000000) (hn:m.length=n) (hm:n≤1000) (hmb:∀x∈m,0≤x∧x<16777216)
 (hB:B≤w.heap.size) (hA:Sl w B A (m.map (Value.int .i64))) :
 Calls prog 143 #[.agg #[.int .i64 c,.int .i64 k,.slice A n cp]] w fun e w'=>e=.returned (.string ⟨(Rw.line (c,k,m)).toArray⟩)∧Below w.heap.size w w':=by
 have hT:=zFe c c0 c1;have hD:=zOU k k0 (by omega)
 have l1:(Fi.text c.toNat).length≤6:=by
  have h2:=zBY 5 c.toNat (by rw[show (16:Nat) ^ (5+1)=16777216 from by decide];omega);have h3:=Fi.text_len c.toNat;omega
 have l2:=zD0 9 k.toNat (by rw[show (10:Nat) ^ (9+1)=10000000000 from by decide];omega);obtain⟨tc,az⟩:∃x:ByteArray,⟨(Fi.text c.toNat).toArray⟩=x:=⟨_,rfl⟩;obtain⟨dk,a1⟩:∃x:ByteArray,⟨(Lib.decDigits k.toNat).toArray⟩=x:=⟨_,rfl⟩;have s1:tc.size≤6:=by rw[←az,zAA];exact l1
 have s2:dk.size≤10:=by rw[←a1,zAA];exact l2
 simp only[az]at hT;simp only[a1]at hD;obtain⟨mt,aq⟩:∃x:ByteArray,⟨(zB2 m).toArray⟩=x:=⟨_,rfl⟩
 have s3:mt.size≤7000:=by
  rw[←aq,zAA];have:=zFf n m hn hmb;omega
 have av:(((((tc++⟨#[59,88,59,59]⟩)++dk)++⟨#[59,59]⟩)++mt)++⟨#[59,59,59,59,59,59,59,59,59]⟩:ByteArray)=⟨(Rw.line (c,k,m)).toArray⟩:=by
  rw[←az,←a1,←aq,show (⟨#[59,88,59,59]⟩:ByteArray)=⟨[59,88,59,59].toArray⟩ from rfl,show (⟨#[59,59]⟩:ByteArray)=⟨[59,59].toArray⟩ from rfl,show (⟨#[59,59,59,59,59,59,59,59,59]⟩:ByteArray)=⟨[59,59,59,59,59,59,59,59,59].toArray⟩ from rfl];simp only[zAO];unfold Rw.line zB2;simp only[Zz]
 have HR:=hy' av;have HN:=hy' hn;have bg:=hy' hmb;have bm:=hy' aq;clear av az a1 hn hmb aq l1 l2;have ap:=Rw.At.new w 73 [.int .i64 c,.int .i64 k,.slice A n cp];obtain⟨d1,d2,d3,d4,d5,d6⟩:=ap.three;clear d4 d5 d6;go_enter func143,ntmps143;go_wp2_with fail;obtain⟨wa,ax⟩:∃wa,w.alloc (.cells #[.int .i64 c,.int .i64 k,.slice A n cp] 73)=wa:=⟨_,rfl⟩;have a7:w.heap.size<wa.heap.size:=by rw[←ax];simp
 have ag:Below w.heap.size w wa:=by rw[←ax];exact (Zd _ _).alloc (Za _) _
 have aj:Rw.At wa w.heap.size 73 [.int .i64 c,.int .i64 k,.slice A n cp]:=by rw[←ax];exact ap
 clear d1 d2 d3;rw[ax];have HA:=hy' (hA.below (ag.mono hB) (Z5 (Nat.lt_of_le_of_lt hB a7)));have bl:=hy' ag;clear ax ap hA ag;go_loopw [3,4,5,9] (fun v3 _ _ i wr=>∃j:Nat,j≤n∧i=.int .i64 j∧v3=.string ⟨(zB2 (m.take j)).toArray⟩∧Below wa.heap.size wa wr) (fun _ _ _ i _=>n-(intOf i).toNat)
 case atStart=>exact⟨0,Zq _,rfl,rfl,Zd _ _⟩
 obtain⟨j,hj,rfl,rfl,af⟩:=hrel
 by_cases hlt:j<n
 · obtain⟨x,hx⟩:∃x,m[j]?=some x:=⟨_,Zb (by rw[HN.o];exact hlt)⟩;have hxb:=bg.o x (Zj hx);obtain⟨ab,ao,rfl,bp,bh⟩:=HA.o (by rw[Ze,HN.o];omega);have hc:=bh j (by rw[Ze,HN.o];exact hlt);rw[Zt,hx,Zw,←(zAU af).1 _ _ bp]at hc;have hX:=zFe x hxb.1 hxb.2
   have bo:(⟨(zB2 (m.take j)).toArray⟩:ByteArray).size≤7000:=by
    rw[zAA];have:=zFf (m.take j).length (m.take j) rfl (fun y hy=>bg.o y (Z0 hy));have:(m.take j).length≤j:=XB _ _;omega
   have bk:(⟨(Fi.text x.toNat).toArray⟩:ByteArray).size≤6:=by
    rw[zAA];have h2:=zBY 5 x.toNat (by rw[show (16:Nat) ^ (5+1)=16777216 from by decide];omega);have h3:=Fi.text_len x.toNat;omega
   have ak:m.take (j+1)=m.take j++[x]:=by rw[Zy,hx];rfl
   have aa:m.take j=[]↔j=0:=by
    constructor
    · intro h;have:=ZR List.length h;rw[Zn,HN.o,ZY]at this;omega
    rintro rfl;rfl
   obtain⟨ms,a6⟩:∃y:ByteArray,⟨(zB2 (m.take j)).toArray⟩=y:=⟨_,rfl⟩;obtain⟨tx,ai⟩:∃y:ByteArray,⟨(Fi.text x.toNat).toArray⟩=y:=⟨_,rfl⟩
   have aw:(if j=0 then ms++tx else ms++⟨#[32]⟩++tx)=⟨(zB2 (m.take (j+1))).toArray⟩:=by
    rw[ak,zGU,←a6,←ai]
    by_cases h0:j=0
    · rw[Zl h0,Zl (aa.2 h0),aa.2 h0];simp[zB2,zAu,zAO]
    rw[Zk h0,Zk (fun h=>h0 (aa.1 h)),show (⟨#[32]⟩:ByteArray)=⟨[32].toArray⟩ from rfl];simp only[zAO];simp
   rw[a6]at bo ⊢;rw[ai]at bk;simp only[ai]at hX;have ah:=hy' aw;have ae:=hy' af;have bc:¬9223372036854775807<ms.size+tx.size:=by omega
   have bf:¬9223372036854775807<ms.size+(⟨#[32]⟩:ByteArray).size:=by have:(⟨#[32]⟩:ByteArray).size=1:=rfl;omega
   have bi:¬9223372036854775807<(ms++⟨#[32]⟩).size+tx.size:=by
    have:(⟨#[32]⟩:ByteArray).size=1:=rfl;rw[ZS];omega
   have bb:(j:Int)<n:=by omega
   clear ak aa a6 ai aw af hx bh
   by_cases h0:j=0
   · subst h0;rw[Zl rfl]at ah;rw[YQ]at hc;go_wp2_with fail;refine (hX _).mono ?_;rintro e w3 ⟨rfl,ay⟩;have a8:=hy' ay;clear ay;go_wp2_with fail;exact⟨⟨1,by omega,rfl,by rw[ah.o],ae.o.trans (a8.o.mono ae.o.size)⟩,by simp[intOf];omega⟩
   rw[Zk h0]at ah;have h1:(0:Int)<(j:Int):=by omega
   go_wp2_with fail;refine (hX _).mono ?_;rintro e w3 ⟨rfl,ay⟩;have a8:=hy' ay;clear ay;go_wp2_with fail;exact⟨⟨j+1,by omega,by go_num,by rw[ah.o],ae.o.trans (a8.o.mono ae.o.size)⟩,by simp[intOf];omega⟩
 obtain rfl:j=n:=by omega
 have bb:¬(j:Int)<j:=by omega
 have aq:(⟨(zB2 (m.take j)).toArray⟩:ByteArray)=mt:=by rw[Zi (by rw[HN.o];exact Za _)];exact bm.o
 rw[aq];obtain⟨d1,d2,d3,_,_,_⟩:=(aj.below af).three;have ar:w.heap.size<wr.heap.size:=Zf a7 af.size;have ae:=hy' af;clear aq af aj d3;have bw:¬9223372036854775807<tc.size+(⟨#[59,88,59,59]⟩:ByteArray).size:=by have:(⟨#[59,88,59,59]⟩:ByteArray).size=4:=rfl;omega
 have bq:¬9223372036854775807<(tc++(⟨#[59,88,59,59]⟩:ByteArray)).size+dk.size:=by
  have:(⟨#[59,88,59,59]⟩:ByteArray).size=4:=rfl;rw[ZS];omega
 have bu:¬9223372036854775807<(tc++(⟨#[59,88,59,59]⟩:ByteArray)++dk).size+(⟨#[59,59]⟩:ByteArray).size:=by
  have:(⟨#[59,88,59,59]⟩:ByteArray).size=4:=rfl;have:(⟨#[59,59]⟩:ByteArray).size=2:=rfl;simp only[ZS];omega
 have b2:¬9223372036854775807<(tc++(⟨#[59,88,59,59]⟩:ByteArray)++dk++(⟨#[59,59]⟩:ByteArray)).size+mt.size:=by
  have:(⟨#[59,88,59,59]⟩:ByteArray).size=4:=rfl;have:(⟨#[59,59]⟩:ByteArray).size=2:=rfl;simp only[ZS];omega
 have bx:¬9223372036854775807<(tc++(⟨#[59,88,59,59]⟩:ByteArray)++dk++(⟨#[59,59]⟩:ByteArray)++mt).size+(⟨#[59,59,59,59,59,59,59,59,59]⟩:ByteArray).size:=by
  have:(⟨#[59,88,59,59]⟩:ByteArray).size=4:=rfl;have:(⟨#[59,59]⟩:ByteArray).size=2:=rfl;have:(⟨#[59,59,59,59,59,59,59,59,59]⟩:ByteArray).size=9:=rfl;simp only[ZS];omega
 have bs:¬9223372036854775807<tc.size+4:=by omega
 have bt:¬9223372036854775807<tc.size+4+dk.size:=by omega
 have bz:¬9223372036854775807<tc.size+4+dk.size+2:=by omega
 have br:¬9223372036854775807<tc.size+4+dk.size+2+mt.size:=by omega
 have b1:¬9223372036854775807<tc.size+4+dk.size+2+mt.size+9:=by omega
 have bj:Below wr.heap.size wr wr:=Zd _ _;go_wp2_with fail
 go_region_held3 (fun w'=>w'.cell? ⟨w.heap.size,0,none⟩=some (.int .i64 c)∧w'.cell? ⟨w.heap.size,1,none⟩=some (.int .i64 k)∧Below wr.heap.size wr w')
  (first
    | exact zLV d1 d2 ar ar bj
    | exact zLV d1 d2 ar ar bj.drew
    | exact zLV d1 d2 ar ar au
    | fail)
  (first
    | (go_at_call 104;refine (hT _).mono ?_;rintro e wq ⟨rfl,ba⟩;have au:=(zGT (W:=wr) (by assumption)).trans (ba.mono (zGT (W:=wr) (by assumption)).size))
    | (go_at_call 190;refine (hD _).mono ?_;rintro e wq ⟨rfl,ba⟩;have au:=(zGT (W:=wr) (by assumption)).trans (ba.mono (zGT (W:=wr) (by assumption)).size))
    | fail)
 all_goals
  have bn:=hy' (zGT (W:=wr) (by assumption));go_wp2_with fail;go_ret;exact⟨by rw[←HR.o];rfl,bl.o.trans ((ae.o.trans (bn.out.mono ae.o.size)).mono (Z5 a7))⟩
theorem Ud.rtext_any (A:Option Addr) (n c:Nat) (T:List Rw.Row) (w:World) (hn:T.length=n) (a8:n≤1000) (hr:∀r∈T,Rw.right r) (hA:Rw.SeesI w A T) :
 Calls prog 105 #[.slice A n c] w fun e w'=>e=.returned (.string ⟨(zB4 T).toArray⟩)∧Below w.heap.size w w':=by
 have HN:=hy' hn;have HR:=hy' hr;have HA:=hy' hA;clear hn hr hA;go_enter func105,ntmps105;go_wp2_with fail;go_loopw [3,5,8] (fun v3 _ i wr=>∃j:Nat,j≤n∧i=.int .i64 j∧v3=.string ⟨(zB4 (T.take j)).toArray⟩∧Below w.heap.size w wr) (fun _ _ i _=>n-(intOf i).toNat)
 case atStart=>exact⟨0,Zq _,rfl,rfl,Zd _ _⟩
 obtain⟨j,hj,rfl,rfl,aa⟩:=hrel
 by_cases hlt:j<n
 · obtain⟨r,hr⟩:∃r,T[j]?=some r:=⟨_,Zb (by rw[HN.o];exact hlt)⟩;have ae:=HR.o r (Zj hr);obtain⟨b,o,a,rfl,hb,ax,aw,av,au⟩:=HA.o.row hr;have c0:=((zAU aa).1 b (o+j*3) hb).trans ax;have c1:=((zAU aa).1 b (o+j*3+1) hb).trans aw;have c2:=((zAU aa).1 b (o+j*3+2) hb).trans av;have a7:b<wr.heap.size:=Zf hb aa.size;obtain⟨ml,ak⟩:∃k,r.2.2.length=k:=⟨_,rfl⟩;rw[ak]at c2;have ai:Below wr.heap.size wr (wr.alloc (.cells #[.int .i64 r.1,.int .i64 r.2.1,.slice a.1 ml a.2] 73)):=(Zd _ _).alloc (Za _) _;have ah:=Rw.At.new wr 73 [.int .i64 r.1,.int .i64 r.2.1,.slice a.1 ml a.2];have aq:ml≤2:=by rw[←ak];exact ae.2.2.2.2.1
   have hL:=zNo r.1 r.2.1 a.1 r.2.2 ml a.2 w.heap.size (wr.alloc (.cells #[.int .i64 r.1,.int .i64 r.2.1,.slice a.1 ml a.2] 73)) ae.1 (by have:=ae.2.1;omega) ae.2.2.1 (by have:=ae.2.2.2.1;omega) ak (by omega) (fun x hx=>by have:=ae.2.2.2.2.2 x hx;omega) (Zh aa.size ai.size) ((au.below aa (Za _)).below (ai.mono aa.size) (Za _));have ar:=zGn r ae;have a1:=zCt (T.take j) (fun q hq=>HR.o q (Z0 hq));have a6:(T.take j).length≤j:=XB _ _
   have af:zB4 (T.take (j+1))=zB4 (T.take j)++(Rw.line r++[10]):=by
    rw[Zy,hr,zFF];show _++zB4 [r]=_;rw[zFG]
   obtain⟨ln,ao⟩:∃y:ByteArray,⟨(Rw.line (r.1,r.2.1,r.2.2)).toArray⟩=y:=⟨_,rfl⟩;obtain⟨st,aj⟩:∃y:ByteArray,⟨(zB4 (T.take j)).toArray⟩=y:=⟨_,rfl⟩;have s1:ln.size≤1000:=by rw[←ao,zAA];exact ar
   have s2:st.size≤1001000:=by rw[←aj,zAA];omega
   have ag:st++(ln++⟨#[10]⟩)=⟨(zB4 (T.take (j+1))).toArray⟩:=by
    rw[af,←aj,←ao,show (⟨#[10]⟩:ByteArray)=⟨[10].toArray⟩ from rfl];simp only[zAO]
   simp only[ao]at hL;rw[aj];have jI:(j:Int)<n:=by omega
   have j0:(0:Int)≤j:=by omega
   obtain⟨d1,d2,d3,-,-,-⟩:=ah.three;have ap:=hy' ag;have HB:=hy' (aa.trans (ai.mono aa.size));clear ax aw av au hr ae ak ao aj ag af ar a1 a6 aa ai ah aq;go_wp2_with fail;refine hL.mono ?_;rintro e w2 ⟨rfl,ay⟩;have az:=hy' (HB.o.trans (ay.mono HB.o.size));clear ay hL d1 d2 d3 c0 c1 c2;go_wp2_with fail;exact⟨⟨j+1,by omega,by go_num,by rw[←ap.o],az.o⟩,by simp[intOf];omega⟩
 obtain rfl:j=n:=by omega
 have jI:¬(j:Int)<j:=by omega
 have he:zB4 (T.take j)=zB4 T:=by rw[Zi (by rw[HN.o];exact Za _)]
 rw[he];have HB:=hy' aa;clear aa he;go_wp2_with fail;go_ret;exact⟨rfl,HB.o⟩
def zAv (l:List Int):List Int:=l.foldl (fun acc c=>if c∈acc then acc else acc++[c]) []
theorem zFJ:∀(l acc:List Int),acc.Nodup→(l.foldl (fun acc c=>if c∈acc then acc else acc++[c]) acc).Nodup∧∀d,d∈l.foldl (fun acc c=>if c∈acc then acc else acc++[c]) acc↔d∈acc∨d∈l
 | [],acc,h=>⟨h,fun d=>by simp⟩
 | c::l,acc,h=>by
   rw[Yy]
   by_cases hc:c∈acc
   · rw[Zl hc];obtain⟨h1,h2⟩:=zFJ l acc h;refine⟨h1,fun d=>?_⟩;rw[h2 d,XP];constructor
     · rintro (h|h)
       · exact .inl h
       exact .inr (.inr h)
     rintro (h|rfl|h)
     · exact .inl h
     · exact .inl hc
     exact .inr h
   rw[Zk hc]
   obtain⟨h1,h2⟩:=zFJ l (acc++[c]) (by
    rw[List.nodup_append];refine⟨h,by simp,fun a ha b hb=>?_⟩;rw[ZE]at hb;rw[hb];exact fun e=>hc (e▸ha))
   refine⟨h1,fun d=>?_⟩;rw[h2 d,Xj,ZE,XP,or_assoc]
theorem zLW (l:List Int):(zAv l).Nodup:=(zFJ l [] Ky).1
theorem zCu (l:List Int) (d:Int):d∈zAv l↔d∈l:=by
 unfold zAv;rw[(zFJ l [] Ky).2 d];simp
theorem zNp (l:List Int) (c:Int):zAv (l++[c])=if c∈l then zAv l else zAv l++[c]:=by
 have h:=zCu l c;unfold zAv at h ⊢;rw[Y4,Yy,QK]
 by_cases hc:c∈l
 · rw[Zl hc,Zl (h.2 hc)]
 rw[Zk hc,Zk (fun x=>hc (h.1 x))]
theorem zEE (l:List Int):(zAv l).length≤l.length:=by
 unfold zAv
 have:∀(l acc:List Int),(l.foldl (fun acc c=>if c∈acc then acc else acc++[c]) acc).length≤acc.length+l.length:=by
  intro l
  induction l with
  | nil=>intro acc;simp
  | cons c l ih =>
    intro acc;rw[Yy];refine Zh (ih _) ?_;split
    · simp
    simp;omega
 simpa using this l []
theorem zNq (A:Option Addr) (n c:Nat) (XA:Option Addr) (xn xc:Nat) (T:List Rw.Row) (E:List Int) (w:World) (hn:T.length=n) (bi:n≤1000) (hxn:E.length=xn) (bo:xn≤1000) (bp:xn≤xc)
 (hr:∀r∈T,Rw.right r) (hE:∀x∈E,0≤x∧x≤1114111) (hA:Rw.SeesI w A T) (hX:Sl w w.heap.size XA (E.map (Value.int .i64))) :
 Calls prog 67 #[.agg #[.slice A n c,.slice XA xn xc]] w fun e w'=>e=.returned (.tuple #[.string ⟨(zB4 T).toArray⟩,.string ⟨(zAk (zAv E)).toArray⟩])∧Below w.heap.size w w':=by
 have HT:=hy' (fun W (hW:Below w.heap.size w W)=>Ud.rtext_any A n c T W hn bi hr (hA.below hW));have HE:=hy' hE;have ax:=hy' hxn;obtain⟨t1,a1⟩:∃y:ByteArray,⟨(zB4 T).toArray⟩=y:=⟨_,rfl⟩;obtain⟨t2,ay⟩:∃y:ByteArray,⟨(zAk (zAv E)).toArray⟩=y:=⟨_,rfl⟩;simp only[a1]at HT;rw[a1,ay];have bq:=hy' ay;have bc:=Rw.At.new w 38 [.slice A n c,.slice XA xn xc];have av:Below w.heap.size w (w.alloc (.cells #[.slice A n c,.slice XA xn xc] 38)):=(Zd _ _).alloc (Za _) _;obtain⟨w0,aw⟩:∃w0,w.alloc (.cells #[.slice A n c,.slice XA xn xc] 38)=w0:=⟨_,rfl⟩;have ah:Rw.At w0 w.heap.size 38 [.slice A n c,.slice XA xn xc]:=by rw[←aw];exact bc
 rw[aw]at av;have bk:=hy' aw;have bj:=hy' ah;have HB:=hy' av;have HX:=hy' (hX.below av (Za _));have y1:=ah.cell 1 rfl;have yl:=ah.lt;clear hn hr hE hxn hA hX bc av aw ah a1 ay;go_enter func67,ntmps67;go_upto_region 1 with (fail)
 rw[bk.o];go_wp2_with fail;clear y1 yl;go_loopw [4,5,6,7,9,13] (fun v4 _ _ _ _ i wr=>∃j:Nat,j≤xn∧i=.int .i64 j∧v4=.string ⟨(zAk (zAv (E.take j))).toArray⟩∧Below w0.heap.size w0 wr) (fun _ _ _ _ _ i _=>xn-(intOf i).toNat)
 case atStart=>exact⟨0,Zq _,rfl,rfl,Zd _ _⟩
 obtain⟨j,hj,rfl,rfl,aa⟩:=hrel;have ae:=bj.o.below aa;have y0:=ae.cell 0 rfl;have y1:=ae.cell 1 rfl;have yl:=ae.lt
 by_cases hlt:j<xn
 rotate_left
 · obtain rfl:j=xn:=by omega
   have jI:¬(j:Int)<j:=by omega
   have he:(⟨(zAk (zAv (E.take j))).toArray⟩:ByteArray)=t2:=by rw[Zi (by rw[ax.o];exact Za _)];exact bq.o
   rw[he];have hT:=HT.o wr (HB.o.trans (aa.mono HB.o.size));have ak:=hy' (HB.o.trans (aa.mono HB.o.size));clear aa he ae;go_wp2_with fail;refine hT.mono ?_;rintro e w2 ⟨rfl,aq⟩;have a7:=hy' (ak.o.trans (aq.mono ak.o.size));clear aq hT;go_wp2_with fail;go_ret2;exact⟨rfl,a7.o⟩
 obtain⟨x,hx⟩:∃x,E[j]?=some x:=⟨_,Zb (by rw[ax.o];exact hlt)⟩;have ar:=HE.o x (Zj hx);obtain⟨xb,xo,rfl,hxb,bb⟩:=HX.o (by rw[Ze,ax.o];omega);have ap:xb<w0.heap.size:=Zf hxb HB.o.size
 have hcell:∀(i:Nat) (y:Int),E[i]?=some y→wr.cell? ⟨xb,xo+i,none⟩=some (.int .i64 y):=fun i y hy=>by
  have hi:=(List.getElem?_eq_some_iff.1 hy).1;have:=bb i (by rw[Ze];exact hi);rw[Zt,hy,Zw,←(zAU aa).1 _ _ ap]at this;exact this
 have q:=hcell j x hx;have HC:=hy' hcell;have bh:xb<wr.heap.size:=Zf ap aa.size;have jI:(j:Int)<xn:=by omega
 have j0:(0:Int)≤j:=by omega
 have jc:(j:Int)≤xc:=by omega
 have bs:=hy' hx;have ak:=hy' aa
 have br:(⟨(zAk (zAv (E.take j))).toArray⟩:ByteArray).size≤7000:=by
  rw[zAA];have h1:=zDl (zAv (E.take j)) (fun d hd=>HE.o d (Z0 ((zCu _ _).1 hd)));have h2:=zEE (E.take j);have h3:(E.take j).length≤j:=XB _ _;omega
 have ai:zAk (zAv (E.take (j+1)))=if x∈E.take j then zAk (zAv (E.take j)) else zAk (zAv (E.take j))++(Fi.text x.toNat++[10]):=by
  rw[Zy,hx];show zAk (zAv (E.take j++[x]))=_;rw[zNp]
  by_cases hm:x∈E.take j
  · rw[Zl hm,Zl hm]
  rw[Zk hm,Zk hm,zIj]
 obtain⟨st,a6⟩:∃y:ByteArray,⟨(zAk (zAv (E.take j))).toArray⟩=y:=⟨_,rfl⟩;rw[a6]at br ⊢;have ba:=hy' ai;have a8:=hy' a6;have bm:=hy' ae;have az:=zFe x ar.1 (by omega)
 have bn:(⟨(Fi.text x.toNat).toArray⟩:ByteArray).size≤6:=by
  rw[zAA];have h2:=zBY 5 x.toNat (by rw[show (16:Nat) ^ (5+1)=16777216 from by decide];omega);have h3:=Fi.text_len x.toNat;omega
 obtain⟨tx,au⟩:∃y:ByteArray,⟨(Fi.text x.toNat).toArray⟩=y:=⟨_,rfl⟩;rw[au]at bn;simp only[au]at az;have bg:=hy' az;have bl:=hy' au;clear hcell hx ai a6 ae az au aa bb ar;go_wp2_with fail;go_loop [7,9,23] (fun v7 _ k=>∃m:Nat,m≤j∧k=.int .i64 m∧v7=.bool (decide (x∈(E.take j).take m))) (fun _ _ k=>j-(intOf k).toNat)
 case atStart=>exact⟨0,Zq _,rfl,by simp⟩
 obtain⟨m,hm,rfl,rfl⟩:=hrel
 by_cases hmj:m<j
 · obtain⟨y,hy⟩:∃y,E[m]?=some y:=⟨_,Zb (by rw[ax.o];omega)⟩;have qm:=HC.o m y hy
   have af:decide (x∈(E.take j).take (m+1))=(decide (x∈(E.take j).take m)||(y == x)):=by
    rw[Zy,show (E.take j)[m]?=some y by rw[Yv,Zl hmj];exact hy,Yx];simp only[XK,Xj,ZE,Zo,XM,YV];constructor
    · rintro (h|h)
      · exact .inl h
      exact .inr h.symm
    rintro (h|h)
    · exact .inl h
    exact .inr h.symm
   obtain⟨sn,aj⟩:∃b,decide (x∈(E.take j).take m)=b:=⟨_,rfl⟩;rw[aj]at af ⊢;have HS:=hy' af;have mI:(m:Int)<j:=by omega
   have m0:(0:Int)≤m:=by omega
   clear af aj hy;cases sn
   · rcases hyx:(y == x) with _|_
     · rw[hyx]at HS;go_wp2_with fail;exact⟨⟨m+1,by omega,by go_num,by rw[HS.o];rfl⟩,by simp[intOf];omega⟩
     rw[hyx]at HS;go_wp2_with fail;exact⟨⟨m+1,by omega,by go_num,by rw[HS.o];rfl⟩,by simp[intOf];omega⟩
   go_wp2_with fail;exact⟨⟨m+1,by omega,by go_num,by rw[HS.o];rfl⟩,by simp[intOf];omega⟩
 obtain rfl:m=j:=by omega
 have mI:¬(m:Int)<m:=by omega
 obtain⟨sn,aj⟩:∃b,decide (x∈(E.take m).take m)=b:=⟨_,rfl⟩;rw[aj];have ao:decide (x∈E.take m)=sn:=by rw[←aj,JI,Kc]
 have bf:=hy' ao;clear aj ao;cases sn
 · have ag:st++(tx++⟨#[10]⟩)=⟨(zAk (zAv (E.take (m+1)))).toArray⟩:=by
    rw[ba.o,if_neg (by simpa using bf.o),←a8.o,←bl.o,show (⟨#[10]⟩:ByteArray)=⟨[10].toArray⟩ from rfl];simp only[zAO]
   have HF:=hy' ag;clear ag;go_wp2_with (go_at_call 104;refine (bg.o _).mono ?_;rintro e w2 ⟨rfl,aq⟩;have a7:=hy' (ak.o.trans (aq.mono ak.o.size));clear aq);exact⟨⟨m+1,by omega,by go_num,by rw[←HF.o],a7.o⟩,by simp[intOf];omega⟩
 have ag:st=⟨(zAk (zAv (E.take (m+1)))).toArray⟩:=by
  rw[ba.o,if_pos (by simpa using bf.o),←a8.o]
 have HF:=hy' ag;clear ag;go_wp2_with fail;exact⟨⟨m+1,by omega,by go_num,by rw[←HF.o],ak.o⟩,by simp[intOf];omega⟩
end
section
open Go.ChangeShapes Go.WideShapes Go.RowKit Go.Deep
def zEa (r:Rw.Row):Prop:=(-9223372036854775808≤r.1∧r.1≤9223372036854775807)∧(-9223372036854775808≤r.2.1∧r.2.1≤9223372036854775807)∧r.2.2.length≤maxLen∧∀c∈r.2.2,-9223372036854775808≤c∧c≤9223372036854775807
def zRP (w:World) (a:Option Addr) (len cap:Nat) (l:List Rw.Row):Prop :=
 ∃ads,ads.length=l.length∧l.length=len∧len≤cap∧cap≤maxLen∧Sl w w.heap.size a (zBr l ads) ∧
  (∀(i:Nat) (r:Rw.Row) (a:Option Addr × Nat),l[i]?=some r→ads[i]?=some a→Sl w w.heap.size a.1 (r.2.2.map (Value.int .i64)))∧∀r∈l,zEa r
theorem zEF {α:Type} {n:Nat} {f:Nat→α} {i:Nat} {x:α} (h:((List.range n).map f)[i]?=some x):i<n∧f i=x:=by
 have aa:=(List.getElem?_eq_some_iff.1 h).1;simp at aa;rw[Zt,X8 aa]at h;simp at h;exact⟨aa,h⟩
theorem zJO {w:World} {b o:Nat}:∀(l:List Rw.Row) (ads:List (Option Addr × Nat)) (k:Nat),ads.length=l.length →
 (∀i r a,l[i]?=some r→ads[i]?=some a→w.cell? ⟨b,o+(k+i)*3,none⟩=some (.int .i64 r.1)∧w.cell? ⟨b,o+(k+i)*3+1,none⟩=some (.int .i64 r.2.1)∧w.cell? ⟨b,o+(k+i)*3+2,none⟩=some (.slice a.1 r.2.2.length a.2)) →
 ∀j,j<(zBr l ads).length→w.cell? ⟨b,o+k*3+j,none⟩=(zBr l ads)[j]?
 | [],_,k,_,_,j,hj=>by simp[zBr]at hj
 | _::_,[],k,h,_,j,hj=>by simp at h
 | r::t,a::as',k,hl,h,j,hj=>by
   obtain⟨h0,h1,h2⟩:=h 0 r a rfl rfl;rw[YQ]at h0 h1 h2
   have ih:=zJO t as' (k+1) (by simpa using hl) (fun i r' a' hi hi'=>by
    have:=h (i+1) r' a' (by simpa using hi) (by simpa using hi');rw[show k+(i+1)=k+1+i by omega]at this;exact this)
   rcases j with _|_|_|j
   · exact h0
   · rw[show o+k*3+(0+1)=o+k*3+1 by omega];exact h1
   · rw[show o+k*3+(0+1+1)=o+k*3+2 by omega];exact h2
   have:=ih j (by simp only[zBr,ZB]at hj;omega);rw[show o+k*3+(j+1+1+1)=o+(k+1)*3+j by omega,this];rfl
theorem zNr {H:Type} {enc:TypeId × Value→H} {P:Program} {w:World} {t e q:TypeId} {f0 f1 f2:Field} {fuel:Nat} {a:Option Addr} {len cap:Nat} {x:DataW H × List MemPlace} (ht:P.underlying t=some (.slice e)) (he:P.underlying e=some (.struct #[f0,f1,f2]))
 (ce:P.cellsOf e=3) (o0:f0.offset=0) (o1:f1.offset=1) (o2:f2.offset=2) (c0:P.cellsOf f0.type=1) (c1:P.cellsOf f1.type=1) (c2:P.cellsOf f2.type=1) (k0:P.underlying f0.type=some (.int .i64)) (k1:P.underlying f1.type=some (.int .i64))
 (k2:P.underlying f2.type=some (.slice q)) (k3:P.underlying q=some (.int .i64)) (c3:P.cellsOf q=1)
 (h:DataW.trod enc P w 0 (fun _=>true) true fuel t [.slice a len cap]=some x):∃l,zRP w a len cap l:=by
 rcases open_slice ht h with ⟨hcs,_⟩|⟨ad,l,c,m,n,D,Pl,hcs,hb,hl,hm,ap,_,hx⟩
 · simp only[Z7,ZX,Yl]at hcs;obtain⟨rfl,rfl,rfl⟩:=hcs;exact⟨[],[],rfl,rfl,Za _,by decide,Sl.nil _ _ _,by simp,by simp⟩
 simp only[Z7,ZX,Yl]at hcs;obtain⟨rfl,rfl,rfl⟩:=hcs;have aq:len≤m:=by rw[ap];split <;> omega
 have each:∀i,i<len→∃q:Rw.Row × Option Addr × Nat,w.cell? (ad.add (i*3))=some (.int .i64 q.1.1)∧w.cell? (ad.add (i*3+1))=some (.int .i64 q.1.2.1)∧w.cell? (ad.add (i*3+2))=some (.slice q.2.1 q.1.2.2.length q.2.2) ∧
  Sl w w.heap.size q.2.1 (q.1.2.2.map (Value.int .i64))∧zEa q.1:=by
  intro i hi;obtain⟨cs',h1,h2⟩:=hx i (by omega);rw[ce]at h1;obtain⟨_,hlen,hcell⟩:=World.cells?_some h1;obtain⟨y0,y1,y2,n',_,_,g0,g1,g2⟩:=trod_struct3 he h2
  match cs',hlen with
  | [v0,v1,v2],_ =>
    simp[o0,o1,o2,c0,c1,c2]at g0 g1 g2;obtain⟨z0,e0,_,w0⟩:=Qq k0 g0;obtain⟨z1,e1,_,w1⟩:=Qq k1 g1;simp only[Z7,Yl]at e0 e1;have d0:=hcell 0 (by omega);have d1:=hcell 1 (by omega);have d2:=hcell 2 (by omega);rw[add_add]at d0 d1 d2
    obtain⟨a2,l2,p2,zs,ev,hR⟩:∃a2 l2 p2 zs,v2=.slice a2 l2 p2∧IsRow .i64 w a2 l2 p2 zs:=by
     rcases open_ints k2 k3 c3 g2 with ⟨hcs,_⟩|⟨x,l,c,zs,hcs,_,hl,hm,hz,_,aa,ak⟩
     · simp only[Z7,Yl]at hcs;subst hcs;exact⟨none,0,0,[],rfl,.inl ⟨rfl,rfl,rfl,rfl⟩⟩
     simp only[Z7,Yl]at hcs;subst hcs;exact⟨some x,l,c,zs,rfl,.inr ⟨_,rfl,hl,hm,by simpa using hz,aa,ak⟩⟩
    subst ev;obtain⟨q1,q2,q3⟩:=hR.len_le;have ao:(zs.take l2).length=l2:=by rw[Zn,q3];omega
    refine⟨((z0,z1,zs.take l2),a2,p2),?_,?_,?_,hR.sl l2 (Za _),bounds_i64 w0,bounds_i64 w1,by show (zs.take l2).length≤maxLen;omega,fun c hc=>bounds_i64 (hR.wf c (Z0 hc))⟩
    · rw[←e0];simpa using d0
    · rw[←e1];simpa using d1
    show w.cell? (ad.add (i*3+2))=some (.slice a2 (zs.take l2).length p2);rw[ao];simpa using d2
 obtain⟨q,hq⟩:=choose_lt each;refine⟨(List.range len).map fun i=>(q i).1,(List.range len).map fun i=>(q i).2,by simp,by simp,hl,hm,?_,?_,?_⟩
 rotate_left
 · intro i r a hi hi';obtain⟨ah,ai⟩:=zEF hi;obtain⟨_,aj⟩:=zEF hi';have:=(hq i ah).2.2.2.1;rw[ai,aj]at this;exact this
 · intro r hr;obtain⟨i,hi,rfl⟩:=List.mem_map.1 hr;exact (hq i (List.mem_range.1 hi)).2.2.2.2
 intro hne;rw[zCQ _ _ (by simp),Ze,Ka]at hne;obtain⟨b,off,spot⟩:=ad;have ag:=(hq 0 (by omega)).1;have af:spot=none:=by simpa [Addr.add] using World.cell?_spot ag
 subst af
 have ae:∀i,(⟨b,off,none⟩:Addr).add i=⟨b,off+i,none⟩:=by
  intro i;unfold Addr.add;split <;> simp_all
 refine⟨b,off,rfl,?_,fun j hj=>?_⟩
 · rw[ae]at ag;exact YK w _ ag
 have:=zJO (w:=w) (b:=b) (o:=off) ((List.range len).map fun i=>(q i).1) ((List.range len).map fun i=>(q i).2) 0 (by simp) (fun i r a hi hi'=>by
  obtain⟨ah,ai⟩:=zEF hi;obtain⟨_,aj⟩:=zEF hi';obtain⟨a0,a1,a2,_⟩:=hq i ah;rw[ae]at a0 a1 a2;rw[ai]at a0 a1 a2;rw[aj]at a2;rw[Z4];exact⟨a0,a1,a2⟩) j hj
 simpa using this
end
section
open Go.RowKit
def zDm (x:Int):Int:=IntKind.i32.wrap x
theorem zRQ (x:Int) : -2147483648≤zDm x∧zDm x≤2147483647:=by
 unfold zDm;rw[Qu];omega
theorem zNs (x:Int):IntKind.i64.wrap (zDm x)=zDm x:=by
 have:=zRQ x;rw[Ya];omega
def zLX (r:Rw.Row):Rw.Row:=(zDm r.1,r.2.1,(r.2.2.take 4).map zDm)
def zFg (T:List Rw.Row):List Rw.Row:=(T.take 20).map zLX
def zFh (E:List Int):List Int:=(E.take 30).map zId
theorem zOV {T:List Rw.Row} {j:Nat} {r:Rw.Row} (h:T[j]?=some r) (hj:j<20):(zFg T)[j]?=some (zLX r):=by
 unfold zFg;rw[Zt,Yv,Zl hj,h];rfl
theorem zOW {E:List Int} {j:Nat} {x:Int} (h:E[j]?=some x) (hj:j<30):(zFh E)[j]?=some (zId x):=by
 unfold zFh;rw[Zt,Yv,Zl hj,h];rfl
theorem Md.grown_below {w w' w'':World} {row:Option Nat} (h:w.grownBy w' row) (hb:Below w.heap.size w' w''):w.grownBy w'' row :=
 ⟨hb.os.trans h.os,hb.tape.trans h.tape,hb.output.trans h.output,Zh h.size hb.size,fun k hk hr=>(hb.block k hk).trans (h.block k hk hr)⟩
def Md.apart (lo hi:Nat) (ads:List (Option Addr × Nat)):Prop :=
 (ads.Pairwise fun a b=>∀p q,a.1=some p→b.1=some q→p.block<q.block)∧∀a∈ads,∀p,a.1=some p→lo≤p.block∧p.block<hi
theorem Md.apart.nil (lo hi:Nat):Md.apart lo hi []:=⟨List.Pairwise.nil,fun a h=>by simp at h⟩
theorem Md.apart.app {lo hi hi':Nat} {ads:List (Option Addr × Nat)} (h:Md.apart lo hi ads) (hh:hi≤hi') (hl:lo≤hi) {a:Option Addr × Nat} (ha:∀p,a.1=some p→hi≤p.block∧p.block<hi'):Md.apart lo hi' (ads++[a]):=by
 refine⟨List.pairwise_append.2 ⟨h.1,by simp,fun x hx y hy p q hp hq=>?_⟩,fun x hx p hp=>?_⟩
 · simp only[ZE]at hy;subst hy;have h1:=(h.2 x hx p hp).2;have h2:=(ha q hq).1;omega
 rcases List.mem_append.1 hx with hx|hx
 · have:=h.2 x hx p hp;omega
 simp only[ZE]at hx;subst hx;have:=ha p hp;omega
def Md.caps (rs:List Rw.Row) (ads:List (Option Addr × Nat)):Prop:=∀(i:Nat) (r:Rw.Row) (a:Option Addr × Nat),rs[i]?=some r→ads[i]?=some a→r.2.2.length≤a.2
theorem Md.caps.app {rs:List Rw.Row} {ads:List (Option Addr × Nat)} (h:Md.caps rs ads) (hl:ads.length=rs.length) {r:Rw.Row} {a:Option Addr × Nat} (hr:r.2.2.length≤a.2):Md.caps (rs++[r]) (ads++[a]):=by
 intro i q x hq hx;rcases Z3 i rs.length with hi|hi
 · rw[Z1 hi]at hq;rw[Z1 (by omega)]at hx;exact h i q x hq hx
 have aa:=(List.getElem?_eq_some_iff.1 hq).1;rw[Zc,Z8]at aa;obtain rfl:i=rs.length:=by omega
 rw[ZO (Za _),Yu]at hq;rw[ZO (by omega),show rs.length-ads.length=0 by omega]at hx;simp at hq hx;subst hq hx;exact hr
theorem zFK {w:World} {base:Nat} {e:TypeId} {size n m c:Nat} {A:Option Addr} {xs:List Value} (h:w.ownsRow base e size (.slice A m c) n xs):n≤c:=by
 rcases h.2 with ⟨hv,h0⟩|⟨g,cap,aa,hv,_,_,hc,_⟩
 · omega
 simp only[ZX]at hv;obtain⟨_,_,rfl⟩:=hv;exact hc
def zRR (w:World) (v:Value) (lo:Nat) (T:List Rw.Row) (E:List Int):Prop :=
 ∃A c XA xc ads,v=zB8 A T.length c XA E.length xc∧(ads.length=T.length∧Md.caps T ads)∧w.ownsRow lo 73 3 (.slice A T.length c) T.length (zBr T ads)∧Rw.MapsI w T ads ∧
  ∃mid,lo≤mid∧mid≤w.heap.size∧Md.apart lo mid ads∧w.ownsRow mid 3 1 (.slice XA E.length xc) E.length (E.map (Value.int .i64))
theorem zQC (A XA:Option Addr) (n c xn xc:Nat) (T:List Rw.Row) (E:List Int) (w:World) (hn:T.length=n) (hxn:E.length=xn) (hnb:n≤maxLen) (hxb:xn≤maxLen) (e5:∀r∈T,r.2.2.length≤maxLen) (h2:Rw.SeesI w A T) (hX:Sl w w.heap.size XA (E.map (Value.int .i64))) :
 Calls prog 102 #[.agg #[.slice A n c,.slice XA xn xc]] w fun e w'=>∃v,e=.returned v∧zRR w' v w.heap.size (zFg T) (zFh E)∧Below w.heap.size w w':=by
 obtain⟨j0,hj0,h3,gy,gx⟩:=Z9 zPl;obtain⟨i0,e7,e8,ft,eg⟩:=Z9 zG1;obtain⟨wa,b2⟩:∃wa,((w.alloc (.cells #[.slice A n c,.slice XA xn xc] 38)).alloc (.cells #[.slice none 0 0,.slice none 0 0] 38)).alloc (.cells #[.slice none 0 0,.slice none 0 0] 38)=wa:=⟨_,rfl⟩;have fe:Below w.heap.size w wa:=by rw[←b2];exact (((Zd _ _).alloc (Za _) _).alloc (by simp) _).alloc (by simp;omega) _
 have cc:Rw.At wa w.heap.size 38 [.slice A n c,.slice XA xn xc]:=by
  rw[←b2];exact ((Rw.At.new w 38 [.slice A n c,.slice XA xn xc]).alloc _).alloc _
 have ah:Rw.At wa (w.heap.size+1) 38 [.slice none 0 0,.slice none 0 0]:=by
  have h:=Rw.At.new (w.alloc (.cells #[.slice A n c,.slice XA xn xc] 38)) 38 [.slice none 0 0,.slice none 0 0];rw[ZD]at h;rw[←b2];exact h.alloc _
 have ar:Rw.At wa (w.heap.size+2) 38 [.slice none 0 0,.slice none 0 0]:=by
  have h:=Rw.At.new ((w.alloc (.cells #[.slice A n c,.slice XA xn xc] 38)).alloc (.cells #[.slice none 0 0,.slice none 0 0] 38)) 38 [.slice none 0 0,.slice none 0 0];rw[ZD,ZD]at h;rw[←b2];exact h
 have hz:w.heap.size+2<wa.heap.size:=ar.lt;obtain⟨M,hM⟩:∃M,zFg T=M:=⟨_,rfl⟩;obtain⟨F,hF⟩:∃F,zFh E=F:=⟨_,rfl⟩;have e4:M.length=min n 20:=by rw[←hM];unfold zFg;rw[List.length_map,List.length_take,hn];omega
 have ej:F.length=min xn 30:=by rw[←hF];unfold zFh;rw[List.length_map,List.length_take,hxn];omega
 rw[hM,hF];have HM:=hy' hM;have HF:=hy' hF;have fg:=hy' e4;have fz:=hy' ej;have ho:=hy' b2;have fy:=hy' fe;have HN:=hy' hn;have dr:=hy' hxn;have eb:=hy' e5;have dy:=hy' h2;have HX:=hy' hX;have ec:=hy' cc;clear b2 fe hn hxn e5 h2 hX cc hM hF e4 ej;go_enter func102,ntmps102;go_upto_region 2 with (fail)
 rw[ho.o];go_wp2_with fail
 go_loopw [4] (fun i wr=>∃(j:Nat) (v:Value) (ads:List (Option Addr × Nat)),j≤min n 20∧i=.int .i64 j∧Rw.At wr (w.heap.size+1) 38 [.slice none 0 0,.slice none 0 0]∧Rw.At wr (w.heap.size+2) 38 [v,.slice none 0 0] ∧
  (ads.length=(M.take j).length∧Md.caps (M.take j) ads)∧wr.ownsRow (w.heap.size+3) 73 3 v j (zBr (M.take j) ads)∧Rw.MapsI wr (M.take j) ads∧Md.apart (w.heap.size+3) wr.heap.size ads∧Below (w.heap.size+1) wa wr) (fun i _=>min n 20-(intOf i).toNat)
 case atStart=>exact⟨0,.slice none 0 0,[],Zq _,rfl,ah,ar,⟨rfl,fun i r a h=>by simp at h⟩,ZG _ _ _ _,fun i r a h=>by simp at h,Md.apart.nil _ _,Zd _ _⟩
 obtain⟨j,v,ads,hj,rfl,fp,e6,⟨cq,bl⟩,ag,bi,ew,ax⟩:=hrel;have fm:w.heap.size+3≤wr.heap.size:=Zh hz ax.size;have ha0:=ec.o.below' ax (ZM _);have eh:=hy' fp;have cu:=hy' e6;have a1:=hy' cq;have bg:=hy' bl;have bf:=hy' ag;have bn:=hy' bi;have ek:=hy' ew;have du:=hy' ax;have er:=hy' ha0;have e0:Below w.heap.size w wr:=fy.o.trans (ax.mono (ZZ _));have bh:=hy' e0;have z0:=ha0.cell 0 rfl;have h6:=ha0.lt;obtain⟨tb,et⟩:∃tb,decide (j<n∧j<20)=tb:=⟨_,rfl⟩;have cg:=hy' et;clear fp e6 cq bl ag bi ew ax ha0 e0 ah ar et;go_upto_region 3 with (fail)
 go_cut [16] (fun s wx=>s=.bool tb∧wx=wr)
 case first =>
  by_cases h1:j<n
  · have b9:(j:Int)<n:=by omega
    by_cases h2:j<20
    · have b5:(j:Int)<20:=by omega
      have aj:tb=true:=by rw[←cg.o];simp[h1,h2]
      subst aj;clear h1 h2;go_wp2_with fail;go_meet;exact⟨rfl,rfl⟩
    have b5:¬(j:Int)<20:=by omega
    have aj:tb=false:=by rw[←cg.o];simp[h2]
    subst aj;clear h1 h2;go_wp2_with fail;go_meet;exact⟨rfl,rfl⟩
  have b9:¬(j:Int)<n:=by omega
  have aj:tb=false:=by rw[←cg.o];simp[h1]
  subst aj;clear h1;go_wp2_with fail;go_meet;exact⟨rfl,rfl⟩
 obtain⟨rfl,rfl⟩:=hcut;obtain⟨wo,rfl⟩:∃wo:World,wo=wc:=⟨_,rfl⟩;rcases tb with _|_
 · have gw:¬(j<n∧j<20):=QQ cg.o;have gq:j=min n 20:=by omega
   have bc:M.take j=M:=Zi (by rw[fg.o];omega);have fo:M.length=j:=by rw[fg.o];omega
   have au:=bf.o;have a8:=a1.o;have aq:=bg.o;have bb:=bn.o;rw[bc]at au a8 bb aq;obtain⟨A8,c8,rfl⟩:=zA3 au;have b6:=hy' au;have ck:=hy' (And.intro a8 aq);have b4:=hy' bb;have fq:=hy' fo;clear au a8 aq bb bc fo gq gw z0;go_wp2_with fail;go_loopw [7] (fun i wr=>∃(k:Nat) (u:Value),k≤min xn 30∧i=.int .i64 k∧Rw.At wr (w.heap.size+2) 38 [.slice A8 j c8,u]∧wr.ownsRow wo.heap.size 3 1 u k ((F.take k).map (Value.int .i64))∧wo.grownBy wr (some (w.heap.size+2))) (fun i _=>min xn 30-(intOf i).toNat)
   case atStart=>exact⟨0,.slice none 0 0,Zq _,rfl,cu.o,ZG _ _ _ _,zAo (Zd _ _)⟩
   obtain⟨k,u,hk,rfl,ee,ag,hg⟩:=hrel;have h7:w.heap.size+2<wr.heap.size:=ee.lt;have hzz:wo.heap.size≤wr.heap.size:=hg.size;have h0:=er.o.grown hg (by simp);have z1:=h0.cell 1 rfl;have h9:=h0.lt;have cf:=bh.o.trans (zAj (b:=w.heap.size) hg bh.o.size fun q hq=>by cases hq;omega);obtain⟨kb,cp⟩:∃kb,decide (k<xn∧k<30)=kb:=⟨_,rfl⟩;have a7:=hy' cp;have cw:=hy' ee;have a6:=hy' ag;have HG:=hy' hg;have bw:=hy' cf;clear cp ee ag hg h0 cf;go_upto_region 12 with (fail)
   go_cut [79] (fun s wx=>s=.bool kb∧wx=wr)
   case first =>
    by_cases h1:k<xn
    · have b9:(k:Int)<xn:=by omega
      by_cases h2:k<30
      · have b5:(k:Int)<30:=by omega
        have aj:kb=true:=by rw[←a7.o];simp[h1,h2]
        subst aj;clear h1 h2;go_wp2_with fail;go_meet;exact⟨rfl,rfl⟩
      have b5:¬(k:Int)<30:=by omega
      have aj:kb=false:=by rw[←a7.o];simp[h2]
      subst aj;clear h1 h2;go_wp2_with fail;go_meet;exact⟨rfl,rfl⟩
    have b9:¬(k:Int)<xn:=by omega
    have aj:kb=false:=by rw[←a7.o];simp[h1]
    subst aj;clear h1;go_wp2_with fail;go_meet;exact⟨rfl,rfl⟩
   obtain⟨rfl,rfl⟩:=hcut;obtain⟨wq,rfl⟩:∃wq:World,wq=wc:=⟨_,rfl⟩;rcases kb with _|_
   · have dl:¬(k<xn∧k<30):=QQ a7.o;have b3:F.length=k:=by rw[fz.o];omega
     have bc:F.take k=F:=Zi (by rw[b3];omega);have ag:=a6.o;rw[bc]at ag;obtain⟨A9,c9,rfl⟩:=zA3 ag;have ar:=cw.o;have ah:=eh.o.grown HG.o (by simp);have p0:=ar.cell 0 rfl;have p1:=ar.cell 1 rfl;have r0:=ah.cell 0 rfl;have r1:=ah.cell 1 rfl;have ic:=ah.frozen 0;have ij:=ah.frozen 1;have cj:=hy' ah;have b8:=hy' ag;have ey:=hy' b3;have im:=ah.lt;clear dl b3 bc ag ah ar z1;go_wp2_with fail;have k1:=cj.o.set 0 (.slice A8 j c8);have k2:=k1.set 1 (.slice A9 k c9);refine YD (zJo rfl _ _ (w.heap.size+1) _ _ _ _ rfl k2 underlying38 rfl (by kernel_rfl)) rfl ⟨_,rfl,⟨A8,c8,A9,c9,ads,?_,ck.o,?_,?_,wo.heap.size,by omega,by rw[ZP,ZP];omega,?_,?_⟩,?_⟩
     · rw[fq.o,ey.o];rfl
     · rw[fq.o];exact own_base (Rw.own_grown (Rw.own_grown (Rw.own_grown b6.o (by omega) HG.o) (by omega) (Rw.grown_set (w.heap.size+1) 0 _)) (by omega) (Rw.grown_set (w.heap.size+1) 1 _)) (by omega)
     · exact ((b4.o.grown HG.o (by intro q hq;cases hq;exact cu.o.not (by decide))).grown (Rw.grown_set (w.heap.size+1) 0 _) (by intro q hq;cases hq;exact cj.o.not (by decide))).grown (Rw.grown_set (w.heap.size+1) 1 _) (by intro q hq;cases hq;exact k1.not (by decide))
     · have:=ek.o;exact⟨this.1,fun a ha p hp=>by have h:=this.2 a ha p hp;omega⟩
     · rw[ey.o];exact Rw.own_grown (Rw.own_grown b8.o (by omega) (Rw.grown_set (w.heap.size+1) 0 _)) (by omega) (Rw.grown_set (w.heap.size+1) 1 _)
     exact (bw.o.setCell (p:=⟨w.heap.size+1,0,none⟩) (ZZ _) _).setCell (p:=⟨w.heap.size+1,1,none⟩) (ZZ _) _
   obtain⟨cr,dh⟩:k<xn∧k<30:=Yf a7.o;obtain⟨x,hx⟩:∃x,E[k]?=some x:=⟨_,Zb (by rw[dr.o];exact cr)⟩;obtain⟨ab,ao,rfl,cx,b7⟩:=HX.o (by rw[Ze,dr.o];omega);have hc:=b7 k (by rw[Ze,dr.o];exact cr);rw[Zt,hx,Zw,←(zAU bw.o).1 _ _ cx]at hc;have b3:F[k]?=some (zId x):=by rw[←HF.o];exact zOW hx dh
   have fw:=Ch.char_any x;have eu:=(Ch.isC_iff _).1 (zLK x)
   have af:(F.take (k+1)).map (Value.int .i64)=(F.take k).map (Value.int .i64)++[.int .i64 (zId x)]:=by
    rw[Zy,b3];simp
   obtain⟨y,hy⟩:∃y,zId x=y:=⟨_,rfl⟩;rw[hy]at eu af;simp only[hy]at fw;have dv:IntKind.i64.wrap y=y:=by rw[Ya];omega
   have kI:(k:Int)<xn:=by omega
   have k0:(0:Int)≤(k:Int):=by omega
   have dx:ab<wq.heap.size:=Zf cx bw.o.size;have q0:=cw.o.cell 0 rfl;have q1:=cw.o.cell 1 rfl;have ap:=(a6.o.alloc (.cells #[.int .i64 y] 3)).drew;have bz:Rw.At (wq.alloc (.cells #[.int .i64 y] 3)).drew (w.heap.size+2) 38 [.slice A8 j c8,u]:=cw.o.alloc _;have dn:=zPC wq (.int .i64 y) 3 wq.heap.size rfl;have ba:wo.heap.size≤(wq.alloc (.cells #[.int .i64 y] 3)).drew.heap.size:=by simp;omega
   have cd:Below wq.heap.size wq (wq.alloc (.cells #[.int .i64 y] 3)).drew:=((Zd _ _).alloc (Za _) _).drew;have cn:=hy' ap;have dk:=hy' af;have di:=hy' (zBq a6.o (w.heap.size+2) (by omega));have bx:=hy' cd;clear cd hx b7 af ap b3 eu hy;go_upto_region 14 with (fail)
   go_region_law
    (first
      | (refine zKL _ (by rfl) 34 _ _ (by rfl) (C.enter func34 (by kernel_rfl) rfl) (.int .i64 x) (by rfl) _ (fw _) ?_)
      | (refine zCP _ rfl _ _ _ rfl wo.heap.size 3 i0 _ 8 underlying36 e7 e8 ft eg rfl u k _ rfl cn.o _ rfl wq.heap.size rfl dn (by simp only[maxLen];omega) (by omega) ba ?_;intro v1 w4 ak c7 aa;have ai:=bz.grown aa di.o;have ig:=ai.cell 0 rfl;have ih:=ai.cell 1 rfl;have h8:=ai.frozen 1;have ia:=ai.lt;obtain⟨A6,c6,rfl⟩:=zA3 ak)
      | fail)
   all_goals
    go_wp2_with fail
    exact⟨⟨k+1,_,by omega,by go_num,ai.set 1 _,by rw[dk.o];exact Rw.own_grown ak (by omega) (Rw.grown_set _ 1 _),
     zA0 (Md.grown_below HG.o ((bx.o.mono hzz).trans c7)) (Rw.grown_set _ 1 _)⟩,by simp[intOf];omega⟩
 obtain⟨gm,h5⟩:j<n∧j<20:=Yf cg.o;obtain⟨r,hr⟩:∃r,T[j]?=some r:=⟨_,Zb (by rw[HN.o];exact gm)⟩;have ct:=eb.o r (Zj hr);obtain⟨b,o,a,gb,hb,ei,eo,fh,dc⟩:=dy.o.row hr;have c0:=((zAU bh.o).1 b (o+j*3) hb).trans ei;have c1:=((zAU bh.o).1 b (o+j*3+1) hb).trans eo;have c2:=((zAU bh.o).1 b (o+j*3+2) hb).trans fh;have gz:b<wo.heap.size:=Zf hb bh.o.size;obtain⟨rc,rk,rm⟩:=r;obtain⟨aA,ac⟩:=a;simp only at c0 c1 c2 dc ct;obtain⟨ml,bq⟩:∃k,rm.length=k:=⟨_,rfl⟩;rw[bq]at c2 ct;obtain⟨q,hq⟩:∃q,IntKind.i32.wrap rc=q:=⟨_,rfl⟩;have gf:IntKind.i64.wrap q=q:=by rw[←hq];exact zNs rc
 have jI:(j:Int)<n:=by omega
 have il:(0:Int)≤j:=by omega
 have HR:=hy' hr;have aw:=hy' bq;have dw:=hy' (dc.below bh.o (Za _));have HQ:=hy' hq;subst gb;clear ei eo fh dc hr bq;go_upto_region 5 with (fail)
 go_cut [5] (fun s wx=>s=.pointer (some ⟨wo.heap.size,0,none⟩)∧Rw.At wx wo.heap.size 73 [.int .i64 q,.int .i64 rk,.slice none 0 0]∧Below wo.heap.size wo wx)
 case first =>
  go_region
  all_goals
   go_wp2_with fail;go_meet;exact⟨rfl,Rw.At.new _ 73 [.int .i64 q,.int .i64 rk,.slice none 0 0],((Zd _ _).drew.alloc (Za _) _)⟩
 obtain⟨rfl,bp,bs⟩:=hcut;obtain⟨wA,rfl⟩:∃wA:World,wA=wc:=⟨_,rfl⟩;have iq:wo.heap.size<wA.heap.size:=bp.lt;have gu:=hy' bs;have C2:=hy' c2;clear c0 c1 c2 z0;go_wp2_with fail;go_loopw [6] (fun i wq=>∃(k:Nat) (u:Value),k≤min ml 4∧i=.int .i64 k∧Rw.At wq wo.heap.size 73 [.int .i64 q,.int .i64 rk,u]∧wq.ownsRow (wo.heap.size+1) 3 1 u k (((rm.take k).map zDm).map (Value.int .i64))∧Below wo.heap.size wo wq) (fun i _=>min ml 4-(intOf i).toNat)
 case atStart=>exact⟨0,.slice none 0 0,Zq _,rfl,bp,ZG _ _ _ _,bs⟩
 obtain⟨k,u,hk,rfl,br,ae,cv⟩:=hrel;obtain⟨wq,rfl⟩:∃wq:World,wq=wr:=⟨_,rfl⟩;have gp:wo.heap.size<wq.heap.size:=br.lt;have dm:=er.o.below cv;have z0:=dm.cell 0 rfl;have gj:=dm.lt;have gh:b<wq.heap.size:=by omega
 have c2:=((zAU cv).1 b (o+j*3+2) gz).trans C2.o;obtain⟨kb,cp⟩:∃kb,decide (k<ml∧k<4)=kb:=⟨_,rfl⟩;have a7:=hy' cp;have bu:=hy' br;have az:=hy' ae;have ch:=hy' cv;clear cp dm br ae cv bp bs;go_upto_region 7 with (fail)
 go_cut [46] (fun s wx=>s=.bool kb∧wx=wq)
 case first =>
  by_cases h1:k<ml
  · have b9:(k:Int)<ml:=by omega
    by_cases h2:k<4
    · have b5:(k:Int)<4:=by omega
      have aj:kb=true:=by rw[←a7.o];simp[h1,h2]
      subst aj;clear h1 h2;go_wp2_with fail;go_meet;exact⟨rfl,rfl⟩
    have b5:¬(k:Int)<4:=by omega
    have aj:kb=false:=by rw[←a7.o];simp[h2]
    subst aj;clear h1 h2;go_wp2_with fail;go_meet;exact⟨rfl,rfl⟩
  have b9:¬(k:Int)<ml:=by omega
  have aj:kb=false:=by rw[←a7.o];simp[h1]
  subst aj;clear h1;go_wp2_with fail;go_meet;exact⟨rfl,rfl⟩
 obtain⟨rfl,rfl⟩:=hcut;obtain⟨wq,rfl⟩:∃wq:World,wq=wc:=⟨_,rfl⟩;rcases kb with _|_
 · have dl:¬(k<ml∧k<4):=QQ a7.o
   have fc:(rm.take k).map zDm=(rm.take 4).map zDm:=by
    by_cases h4:k=4
    · rw[h4]
    rw[Zi (by rw[aw.o];omega),Zi (by rw[aw.o];omega)]
   obtain⟨R,hR⟩:∃R,zLX (rc,rk,rm)=R:=⟨_,rfl⟩;have fu:R.1=q:=by rw[←hR];exact HQ.o
   have ez:R.2.1=rk:=by rw[←hR];rfl
   have ea:R.2.2=(rm.take k).map zDm:=by rw[←hR,fc];rfl
   have en:R.2.2.length=k:=by rw[ea,Ze,Zn,aw.o];omega
   have e9:M[j]?=some R:=by rw[←HM.o,←hR];exact zOV HR.o h5
   have ae:=az.o;rw[←ea]at ae;obtain⟨A6,c6,rfl⟩:=zA3 ae;have cy:Below wq.heap.size wq (wq.alloc (.cells #[.int .i64 q,.int .i64 rk,.slice A6 k c6] 73)):=(Zd _ _).alloc (Za _) _;have cb:=ch.o.trans (cy.mono ch.o.size);have bj:=zA6 bf.o cb (Za _);have bt:=cu.o.below cb;have bk:=cu.o.below ch.o;have p0:=bk.cell 0 rfl;have ib:=bt.cell 0 rfl;obtain⟨x0,x1,x2,_,_,_⟩:=bu.o.three;have ep:=bn.o.below cb;have ef:=(Slt.of_own ae).below cy;have dt:=hy' (Sl.lit (w:=wq.alloc (.cells #[.int .i64 q,.int .i64 rk,.slice A6 k c6] 73)) (A:=some ⟨wq.heap.size,0,none⟩) (xs:=[.int .i64 q,.int .i64 rk,.slice A6 k c6]) rfl 73 (0,0) (ZW wq _));have ed:w.heap.size+3≤(wq.alloc (.cells #[.int .i64 q,.int .i64 rk,.slice A6 k c6] 73)).heap.size:=by simp;omega
   have ay:=hy' bj;have df:=hy' bt;have gl:=hy' ep;have gi:=hy' ef;have fj:=hy' cb;have bm:=hy' ae;have hh:=hy' e9;have gg:=hy' fu;have hl:=hy' ez;have fx:=hy' en;have dz:=hy' (zBq bf.o (w.heap.size+2) (by omega));have cz:=hy' (zBq bf.o (w.heap.size+1) (by omega));have h7:w.heap.size+2<wq.heap.size:=by omega
   clear fc hR fu ez ea en e9 ae cy cb bj bt bk ep ef dl z0 c2;go_wp2_with (first|(at_builtin;refine zAh _ rfl _ _ _ rfl (w.heap.size+3) 73 j0 _ 3 40 underlying35 hj0 h3 gy gx rfl (by omega) v j _ rfl ay.o _ (some ⟨wq.heap.size,0,none⟩) 1 1 [.int .i64 q,.int .i64 rk,.slice A6 k c6] rfl rfl dt.out (by simp[Value.oneCell']) (by simp only[maxLen];omega) (by omega) ed ?_;intro v1 w6 bo fk aa;have av:=df.o.grown aa dz.o;have y0:=av.cell 0 rfl;have ie:=av.frozen 0;have ir:=av.lt;obtain⟨A8,c8,rfl⟩:=zA3 bo)|fail);have e1:=((gl.o).grown aa (zAE ay.o (by decide))).grown (Rw.grown_set (w.heap.size+2) 0 (.slice A8 (j+1) c8)) (by intro q hq;cases hq;exact av.not (by decide));have e2:=((gi.o).grown aa (zAE ay.o (by decide))).grown (Rw.grown_set (w.heap.size+2) 0 (.slice A8 (j+1) c8)) (by intro q hq;cases hq;exact av.not (by decide));have e3:=Rw.own_grown bo (ZM (w.heap.size+2)) (Rw.grown_set (w.heap.size+2) 0 (.slice A8 (j+1) c8));have bc:M.take (j+1)=M.take j++[R]:=by rw[Zy,hh.o];rfl
   have gv:wq.heap.size<w6.heap.size:=Zf (by simp) fk.size;refine⟨⟨j+1,_,ads++[(A6,c6)],by omega,by go_num,(((eh.o.below fj.o).grown aa cz.o).other (by omega) _),av.set 0 _,⟨by rw[bc];simp[a1.o],by rw[bc];exact bg.o.app a1.o (by rw[fx.o];exact zFK bm.o)⟩,?_,?_,?_,?_⟩,by simp[intOf];omega⟩
   · rw[bc,zHp _ _ R (A6,c6) a1.o,gg.o,hl.o,show R.2.2.length=k from fx.o];exact e3
   · rw[bc];exact e1.app a1.o e2
   · refine ek.o.app (hi':=(w6.setCell ⟨w.heap.size+2,0,none⟩ (.slice A8 (j+1) c8)).heap.size) ?_ fm ?_
     · rw[ZP];omega
     intro p hp;simp only at hp;subst hp;have:=bm.o.lt p.block rfl;rw[ZP];omega
   have b1:=du.o.trans (fj.o.mono (Zh (by omega) fm));exact (b1.trans (fk.mono (by omega))).setCell (p:=⟨w.heap.size+2,0,none⟩) (by show w.heap.size+1≤w.heap.size+2;omega) _
 obtain⟨cr,ik⟩:k<ml∧k<4:=Yf a7.o;obtain⟨x,hx⟩:∃x,rm[k]?=some x:=⟨_,Zb (by rw[aw.o];exact cr)⟩;obtain⟨ab,ao,rfl,dp,b7⟩:=dw.o (by rw[Ze,aw.o];omega);have cx:ab<wo.heap.size:=Zf dp bh.o.size;have hc:=b7 k (by rw[Ze,aw.o];exact cr);rw[Zt,hx,Zw,←(zAU ch.o).1 _ _ cx]at hc
 have af:((rm.take (k+1)).map zDm).map (Value.int .i64)=((rm.take k).map zDm).map (Value.int .i64)++[.int .i64 (zDm x)]:=by
  rw[Zy,hx];simp
 obtain⟨y,hy⟩:∃y,IntKind.i32.wrap x=y:=⟨_,rfl⟩;have dv:IntKind.i64.wrap y=y:=by rw[←hy];exact zNs x
 rw[show zDm x=y from hy]at af;have kI:(k:Int)<ml:=by omega
 have k0:(0:Int)≤(k:Int):=by omega
 have dx:ab<wq.heap.size:=by omega
 obtain⟨m1,m2,m3,m4,m5,m6⟩:=bu.o.three;have ap:=(az.o.alloc (.cells #[.int .i64 y] 3)).drew;have bz:Rw.At (wq.alloc (.cells #[.int .i64 y] 3)).drew wo.heap.size 73 [.int .i64 q,.int .i64 rk,u]:=bu.o.alloc _;have dn:=zPC wq (.int .i64 y) 3 wq.heap.size rfl;have ba:wo.heap.size+1≤(wq.alloc (.cells #[.int .i64 y] 3)).drew.heap.size:=by simp;omega
 have cd:Below wq.heap.size wq (wq.alloc (.cells #[.int .i64 y] 3)).drew:=((Zd _ _).alloc (Za _) _).drew;have cm:=hy' ap;have dk:=hy' af;have di:=hy' (zBq az.o wo.heap.size (ZM _));have bx:=hy' cd;clear cd hx b7 af ap;go_upto_region 9 with (fail)
 go_region_law
  (first
    | (refine zCP _ rfl _ _ _ rfl (wo.heap.size+1) 3 i0 _ 8 underlying36 e7 e8 ft eg rfl u k _ rfl cm.o _ rfl wq.heap.size rfl dn (by simp only[maxLen];omega) (by omega) ba ?_;intro v1 w4 ak c7 aa;have ai:=bz.grown aa di.o;obtain⟨z1,z2,z3,z4,z5,z6⟩:=ai.three;obtain⟨A6,c6,rfl⟩:=zA3 ak)
    | fail)
 all_goals
  go_wp2_with fail
  exact⟨⟨k+1,_,by omega,by go_num,ai.set 2 _,by rw[dk.o];exact Rw.own_grown ak (ZM _) (Rw.grown_set _ 2 _),
   ((ch.o.trans (bx.o.mono (Z5 gp))).trans (c7.mono (ZZ _))).setCell (p:=⟨wo.heap.size,2,none⟩) (Za _) _⟩,by simp[intOf];omega⟩
def Md.xs (E:List Int) (d:Int):Bool:=decide (d∈E)
def zLY (T:List Rw.Row) (E:List Int) (c:Int):Bool:=decide (0<(zA9 c).length)||(decide ((Md.mp T c).length=2)&&(decide (Md.cls T c=0)&&(decide (Md.cls T ((Md.mp T c).headD 0)=0)&&!Md.xs E c)))
theorem zQD (T:List Rw.Row) (E:List Int) (c:Int):zLY T E c=zAt T (Md.xs E) c:=by
 unfold zLY zAt
 by_cases h:(zAl c).2.2=true
 · have hs:0<(zA9 c).length:=by
    unfold zAl at h;unfold zA9;split at h
    · rename_i h4;rw[Zl h4];simp
    split at h
    · rename_i h4 h5;rw[Zk h4,Zl h5];simp
    cases h
   rw[h,Zs hs,Xv,Xv]
 have hp:(zAl c).2.2=false:=by simpa using h
 have hs:(zA9 c).length=0:=by
  unfold zAl at h;unfold zA9;split at h
  · exact absurd rfl h
  split at h
  · exact absurd rfl h
  rename_i h4 h5;rw[Zk h4,Zk h5];rfl
 have hm:Md.mp T c=zB3 T c:=by
  unfold Md.mp;rw[Zk h]
 rw[hp,Zp (by omega),Y3,Y3,hm];unfold zB3;cases hf:Md.find T c with
 | none=>simp
 | some r =>
   have he:=(zAx hf).2;have hc:Md.cls T c=r.2.1:=by unfold Md.cls;rw[hf];rfl
   simp only[Zw,Kd];unfold zAf;rw[hc,he];cases decide (r.2.1=0) <;> cases decide (r.2.2.length=2) <;> rfl
theorem zIk (v:Value) (T:List Rw.Row) (E:List Int) (d:Int) (w:World) (b3:T.length≤100000) (b4:E.length≤1000000) (h:Md.Doc w v T E) (ay:∀r∈T,r.2.2.length≤1000) (h3 : -2147483648≤d) (h4:d≤2147483647) :
 Calls prog 108 #[v,.int .i64 d] w fun e w'=>e=.returned (.bool (zAt T (Md.xs E) d))∧Below w.heap.size w w':=by
 rw[←zQD];have a6:=zMS ay d;have ar:=hy' h;obtain⟨AT,cT,XA,xc,rfl,h2,hX⟩:=h;obtain⟨tn,a8⟩:∃k,T.length=k:=⟨_,rfl⟩;obtain⟨xn,hxn⟩:∃k,E.length=k:=⟨_,rfl⟩;have aa:zLY T E d=(decide (0<(zA9 d).length)||(decide ((Md.mp T d).length=2)&&(decide (Md.cls T d=0)&&(decide (Md.cls T ((Md.mp T d).headD 0)=0)&&!Md.xs E d)))):=rfl;obtain⟨o,ho⟩:∃o,zLY T E d=o:=⟨_,rfl⟩;rw[ho]at aa ⊢;have bp:Below w.heap.size w (w.alloc (.cells #[.slice AT tn cT,.slice XA xn xc] 38)):=(Zd _ _).alloc (Za _) _;have bs:Rw.At (w.alloc (.cells #[.slice AT tn cT,.slice XA xn xc] 38)) w.heap.size 38 [.slice AT tn cT,.slice XA xn xc]:=Rw.At.new w 38 [.slice AT tn cT,.slice XA xn xc];have HP:=hy' (zHH d (w.alloc (.cells #[.slice AT tn cT,.slice XA xn xc] 38)) h3 h4)
 have aw:Hy (∀W,Below w.heap.size w W→Calls prog 106 #[.agg #[.slice AT tn cT,.slice XA xn xc],.int .i64 d] W (zD1 .i64 (Md.mp T d) W)):=hy' fun W hW=>by
  have:=zJj _ T E d W (by omega) (ar.o.below hW) h3 h4;rw[a8,hxn]at this;exact this
 have bb:Hy (∀x W,Below w.heap.size w W→Calls prog 70 #[.agg #[.slice AT tn cT,.slice XA xn xc],.int .i64 x] W fun e w'=>e=.returned (.int .i64 (Md.cls T x))∧Below W.heap.size W w'):=hy' fun x W hW=>by
  have:=zGf _ T E x W (by omega) (ar.o.below hW);rw[a8,hxn]at this;exact this
 have bl:Hy (∀W,Below w.heap.size w W→Calls prog 145 #[.slice XA xn xc,.int .i64 d] W fun e w'=>e=.returned (.bool (Md.xs E d))∧W=w'):=hy' fun W hW =>
  Md.in_any XA xn xc E d W hxn (by omega) (hX.below hW hW.size)
 have bc:=hy' bp;have bm:=hy' bs;have az:=hy' aa;rw[a8,hxn];obtain⟨sp,bh⟩:∃s,zA9 d=s:=⟨_,rfl⟩;obtain⟨m,hm⟩:∃m,Md.mp T d=m:=⟨_,rfl⟩;rw[bh]at HP az;rw[hm]at aw az a6;clear bp bs aa ho a8 hxn h2 hX bh hm ar ay;unfold zB8;go_enter func108,ntmps108;go_wp2_with fail;refine HP.o.mono ?_;rintro e w1 ⟨A1,c1,rfl,_,ap⟩;have ai:=bm.o.below ap;have z0:=ai.cell 0 rfl;have z1:=ai.cell 1 rfl;have ba:=hy' ai;have a7:=hy' (bc.o.trans (ap.mono bc.o.size));obtain⟨sl,bj⟩:∃k,sp.length=k:=⟨_,rfl⟩;rw[bj]at az ⊢;clear ap ai HP bj bm
 by_cases hs0:0<sl
 · have ag:o=true:=by rw[az.o,Zs hs0,Xv]
   have ah:=hy' ag;have bz:(0:Int)<sl:=by omega
   clear ag;go_wp2_with fail;go_ret;exact⟨by rw[ah.o];rfl,a7.o⟩
 have aa:=az.o;rw[Zp hs0,Y3]at aa;have aj:=hy' aa;have bz:¬(0:Int)<sl:=by omega
 clear aa az;go_wp2_with fail;refine (aw.o w1 a7.o).mono ?_;rintro e w2 ⟨A2,c2,rfl,bn,ax⟩;have af:=ba.o.below ax;have y0:=af.cell 0 rfl;have y1:=af.cell 1 rfl;have bq:=af.lt;have ae:=hy' (a7.o.trans (ax.mono a7.o.size));have bt:=hy' bn;have bx:=hy' af;obtain⟨ml,ay⟩:∃k,m.length=k:=⟨_,rfl⟩;rw[ay]at aj a6 ⊢;have bu:=hy' ay;clear bn ax af z0 z1 aw ay;rcases hd2:((ml:Int) == 2) with _|_
 · have hne:¬ml=2:=fun e=>by rw[e]at hd2;simp at hd2
   have ag:o=false:=by rw[aj.o,Zp hne,Xp]
   have ah:=hy' ag;clear ag hne;go_wp2_with fail;go_quiet (fail);go_wp2_with fail;go_ret;exact⟨by rw[ah.o];rfl,below_drewN ae.o _⟩
 have bi:ml=2:=by have:=beq_iff_eq.1 hd2;omega
 obtain⟨x,y,rfl⟩:∃x y,m=[x,y]:=by
  have h2:m.length=2:=by rw[bu.o,bi]
  match m,h2 with
  | [x,y],_=>exact⟨x,y,rfl⟩
 obtain⟨ab,ao,hA,b2,bo⟩:=bt.o (by simp);have bg:w2.cell? ⟨ab,ao,none⟩=some (.int .i64 x):=by simpa using bo 0 (by simp)
 subst hA;have b1:0<ml:=by omega
 have bw:(0:Int)<ml:=by omega
 have aa:=aj.o;rw[Zs bi,Xc,List.headD_cons]at aa;have av:=Ext.call fun W hW=>bb.o d W (ae.o.trans (hW.mono ae.o.size))
 have aq:=Ext.call fun W hW=>bb.o x W (ae.o.trans (hW.mono ae.o.size))
 have au:=Ext.same fun W hW=>bl.o W (ae.o.trans (hW.mono ae.o.size))
 have e0:=Ext.cells y0 bq;have e1:=Ext.cells y1 bq;have e2:=Ext.cells bg b2;obtain⟨q1,br⟩:∃q,Md.cls T d=q:=⟨_,rfl⟩;obtain⟨q2,bk⟩:∃q,Md.cls T x=q:=⟨_,rfl⟩;obtain⟨xi,bf⟩:∃b,Md.xs E d=b:=⟨_,rfl⟩;rw[br]at av aa;rw[bk]at aq aa;rw[bf]at au aa;have C1:=hy' av;have C2:=hy' aq;have C3:=hy' au;have ak:=hy' aa;clear aa aj bb bo br bk bf av aq au y0 y1 bg bl;rcases ap:(q1 == 0) with _|_
 · have ag:o=false:=by rw[ak.o,show decide (q1=0)=false by simpa using ap,Bool.false_and]
   have ah:=hy' ag;clear ag;go_wp2_with fail;refine zAa (by kernel_rfl) (by kernel_rfl) ?_
   repeat (go_big_quiet_step ((first|(go_at_call 70;first|with_reducible exact C1.o _|with_reducible exact C2.o _)|(go_at_call 145;with_reducible exact C3.o _))))
   refine wpQuiet_nil ?_;intro xw;have a1:=hy' (ae.o.trans (xw.below.mono ae.o.size));go_wp2_with fail;go_ret;exact⟨by rw[ah.o];rfl,a1.o⟩
 have h0:q1=0:=beq_iff_eq.1 ap;subst h0;have aa:=ak.o;rw[show decide ((0:Int)=0)=true from rfl,Xc]at aa;clear ak ap;rcases ax:(q2 == 0) with _|_
 · have ag:o=false:=by rw[aa,show decide (q2=0)=false by simpa using ax,Bool.false_and]
   have ah:=hy' ag;clear ag aa;go_wp2_with fail;refine zAa (by kernel_rfl) (by kernel_rfl) ?_
   repeat (go_big_quiet_step ((first|(go_at_call 70;first|with_reducible exact C1.o _|with_reducible exact C2.o _)|(go_at_call 145;with_reducible exact C3.o _))))
   refine wpQuiet_nil ?_;intro xw;have a1:=hy' (ae.o.trans (xw.below.mono ae.o.size));go_wp2_with fail;go_ret;exact⟨by rw[ah.o];rfl,a1.o⟩
 have h0:q2=0:=beq_iff_eq.1 ax;subst h0;rw[show decide ((0:Int)=0)=true from rfl,Xc]at aa;have ah:=hy' aa;clear aa ax;go_wp2_with fail;refine zAa (by kernel_rfl) (by kernel_rfl) ?_
 repeat (go_big_quiet_step ((first|(go_at_call 70;first|with_reducible exact C1.o _|with_reducible exact C2.o _)|(go_at_call 145;with_reducible exact C3.o _))))
 refine wpQuiet_nil ?_;intro xw;have a1:=hy' (ae.o.trans (xw.below.mono ae.o.size));go_wp2_with fail;go_ret;exact⟨by rw[ah.o];rfl,a1.o⟩
theorem zQE (w:World) (e:TypeId) (u:Value):(w.alloc (.cells #[u] e)).ownsRow w.heap.size e 1 (.slice (some ⟨w.heap.size,0,none⟩) 1 1) 1 [u] :=
 ⟨rfl,.inr ⟨w.heap.size,1,#[u],rfl,Za _,ZW w _,Za _,by decide,rfl,rfl⟩⟩
theorem zEb {last:Int} {r:Rw.Row} (h:(!C.isC r.1||decide (r.1≤last)||decide (r.2.1<0)||decide (254<r.2.1)||decide (2<r.2.2.length))=true):Md.bad last r=1:=by
 unfold Md.bad;rw[Zl h]
theorem zLZ {last:Int} {r:Rw.Row} {x:Int} {j:Nat} (h:(!C.isC r.1||decide (r.1≤last)||decide (r.2.1<0)||decide (254<r.2.1)||decide (2<r.2.2.length))=false) (hx:(r.1::r.2.2)[j]?=some x) (hk:zA2 x≠0):Md.bad last r=2:=by
 unfold Md.bad;rw[Zk (by rw[h];decide),Zl];rw[YG];exact⟨x,List.mem_of_getElem? hx,by simpa using hk⟩
theorem zM0 {last:Int} {r:Rw.Row} {x:Int} {j:Nat} (h:(!C.isC r.1||decide (r.1≤last)||decide (r.2.1<0)||decide (254<r.2.1)||decide (2<r.2.2.length))=false) (h2:∀x∈r.1::r.2.2,zA2 x=0) (hx:r.2.2[j]?=some x) (hk:C.isC x=false):Md.bad last r=3:=by
 unfold Md.bad;rw[Zk (by rw[h];decide),Zk,Zl]
 · rw[YG];exact⟨x,Zj hx,by rw[hk];rfl⟩
 rw[YG];rintro⟨y,hy,aa⟩;rw[Zo]at aa;exact aa (h2 y hy)
theorem zOX {last:Int} {r:Rw.Row} (h:(!C.isC r.1||decide (r.1≤last)||decide (r.2.1<0)||decide (254<r.2.1)||decide (2<r.2.2.length))=false) (h2:∀x∈r.1::r.2.2,zA2 x=0) (h3:∀x∈r.2.2,C.isC x=true):Md.bad last r=0:=by
 unfold Md.bad;rw[Zk (by rw[h];decide),Zk,Zk]
 · rw[YG];rintro⟨y,hy,aa⟩;rw[h3 y hy]at aa;cases aa
 rw[YG];rintro⟨y,hy,aa⟩;rw[Zo]at aa;exact aa (h2 y hy)
theorem zRS (c:Int):0≤zA2 c:=by
 unfold zA2
 repeat' split
 all_goals decide
theorem zJP {l:List Int} {P:Int→Prop} {k:Nat} {x:Int} (hx:l[k]?=some x) (h:∀y∈l.take k,P y) (hp:P x):∀y∈l.take (k+1),P y:=by
 rw[Zy,hx];intro y hy;rcases List.mem_append.1 hy with hy|hy
 · exact h y hy
 simp at hy;subst hy;exact hp
theorem zM1 (v:Value) (T:List Rw.Row) (E:List Int) (w:World) (fg:T.length≤100000) (iq:E.length≤1000000) (hbd:Md.bd T) (ea:∀r∈T,r.2.2.length≤1000) (gh:∀r∈T,-9223372036854775808≤r.2.1∧r.2.1≤9223372036854775807) (h:Md.Doc w v T E) (cn:∀A n c x,v=.agg #[.slice A n c,x]→n≤c) :
 Calls prog 103 #[v] w fun e w'=>e=.returned (.string (zBg (Md.chk T (Md.xs E))))∧Below w.heap.size w w':=by
 obtain⟨i0,iv,ix,jd,h4⟩:=Z9 zG1;have ik:=hy' h;obtain⟨A,c,XA,xc,rfl,h2,hX⟩:=id h;have cn:=cn _ _ _ _ rfl;obtain⟨xn,hxn⟩:∃k,E.length=k:=⟨_,rfl⟩;obtain⟨n,hn⟩:∃k,T.length=k:=⟨_,rfl⟩;obtain⟨res,cr⟩:∃k,Md.chk T (Md.xs E)=k:=⟨_,rfl⟩
 have c6:Hy (∀(d:Int) (W:World),Below w.heap.size w W → -2147483648≤d→d≤2147483647→Calls prog 35 #[.agg #[.slice A n c,.slice XA xn xc],.int .i64 d] W (zFz (Md.full T d) W)):=hy' fun d W hW a b=>by
  have:=zHU _ T E d W fg (h.below hW) hbd ea a b;rw[hn,hxn]at this;exact this
 have b4:Hy (∀(d:Int) (W:World),Below w.heap.size w W → -2147483648≤d→d≤2147483647→Calls prog 108 #[.agg #[.slice A n c,.slice XA xn xc],.int .i64 d] W fun e w'=>e=.returned (.bool (zAt T (Md.xs E) d))∧Below W.heap.size W w'):=hy' fun d W hW a b=>by
  have:=zIk _ T E d W fg iq (h.below hW) ea a b;rw[hn,hxn]at this;exact this
 rw[hn]at fg cn;rw[hn,hxn,cr];obtain⟨wa,dz⟩:∃wa,w.alloc (.cells #[.slice A n c,.slice XA xn xc] 38)=wa:=⟨_,rfl⟩;have e8:Below w.heap.size w wa:=by rw[←dz];exact (Zd _ _).alloc (Za _) _
 have fe:Rw.At wa w.heap.size 38 [.slice A n c,.slice XA xn xc]:=by rw[←dz];exact Rw.At.new w 38 [.slice A n c,.slice XA xn xc]
 have iy:=hy' dz;have bn:=hy' e8;have ij:=hy' fe;have bt:=hy' (h2.below e8);have HN:=hy' hn;have cj:=hy' cr;have eb:=hy' hbd;have i1:=hy' ea;have je:=hy' gh;have z0:=fe.cell 0 rfl;clear dz e8 fe hn hxn cr hbd ea gh h h2 hX;unfold zB8 at *;go_enter func103,ntmps103;go_upto_region 1 with (fail)
 rw[iy.o];go_wp2_with fail;go_loopw [3,21] (fun v3 i wr=>∃(k:Nat) (last:Int),k≤n∧i=.int .i64 k∧v3=.int .i64 last∧(-2147483648≤last∧last≤2147483647)∧zAz (-1) T=zAz last (T.drop k)∧Below wa.heap.size wa wr) (fun _ i _=>n-(intOf i).toNat)
 case atStart=>exact⟨0,-1,Zq _,rfl,rfl,by omega,rfl,Zd _ _⟩
 obtain⟨k,last,hk,rfl,rfl,gl,ak,bc⟩:=hrel;have aa:=ij.o.below bc;have z0:=aa.cell 0 rfl;have z1:=aa.cell 1 rfl;have fz:=hy' ak;have br:=hy' bc;have eo:=hy' aa;clear ak aa
 by_cases hlt:k<n
 · obtain⟨r,hr⟩:∃r,T[k]?=some r:=⟨_,Zb (by rw[HN.o];exact hlt)⟩;have aj:=Zj hr;have ak:=eb.o r aj;have e7:=je.o r aj;have h6:=i1.o r aj;obtain⟨b,o,a,dh,hb,c0,c1,c2,cf⟩:=(bt.o.below bc).row hr;obtain⟨ml,cg⟩:∃k,r.2.2.length=k:=⟨_,rfl⟩;rw[cg]at c2 h6;have az:Below wr.heap.size wr (wr.alloc (.cells #[.int .i64 r.1,.int .i64 r.2.1,.slice a.1 ml a.2] 73)):=(Zd _ _).alloc (Za _) _;have af:=Rw.At.new wr 73 [.int .i64 r.1,.int .i64 r.2.1,.slice a.1 ml a.2];obtain⟨x0,x1,x2,_,_,_⟩:=af.three;have ji:=hy' (cf.below az (Za _));have bw:=hy' (bc.trans (az.mono bc.size));have hd:=zDz hr;have cu:=fz.o;rw[hd,zAz]at cu;have cy:=hy' cu;have fw:=hy' ak;have bf:=hy' cg;have ir:(k:Int)<n:=by omega
   have i6:(0:Int)≤k:=by omega
   obtain⟨iw,jc⟩:=ak.1
   have df:∀j,Md.bad last r=j→j≠0→res=j:=by
    intro j hj h0;rw[←cj.o];unfold Md.chk;rw[cy.o,hj,Zk h0,Zl h0]
   have aw:=hy' df;have ch:=zFE r.1 (wr.alloc (.cells #[.int .i64 r.1,.int .i64 r.2.1,.slice a.1 ml a.2] 73));obtain⟨ic,e6⟩:∃b,C.isC r.1=b:=⟨_,rfl⟩;rw[e6]at ch;have cv:=hy' e6;subst dh;clear hr aj ak cf az af hd cu bc cg df e6
   have dt:∀(j:Nat) (W:World) (e:Ending) (w':World),res=j→e=.returned (.string (zBg j))→Below wa.heap.size wa W→W=w'→e=.returned (.string (zBg res))∧Below w.heap.size w w':=by
    rintro j W e w' rfl rfl hW rfl;exact⟨rfl,bn.o.trans (hW.mono bn.o.size)⟩
   have ah:=hy' dt;clear dt;cases ic
   · have ai:=aw.o 1 (zEb (by rw[cv.o,JE,Xv,Xv,Xv,Xv])) (by decide);have ax:=hy' ai;clear ai;go_wp2_with (first|(go_at_call 68;refine ch.mono ?_;rintro e w' ⟨rfl,rfl⟩)|fail);go_ret;exact ah.o 1 _ _ _ ax.o rfl bw.o rfl
   rcases hb2:decide (r.1≤last) with _|_
   rotate_left
   · have ai:=aw.o 1 (zEb (by rw[cv.o,hb2];simp)) (by decide);have ax:=hy' ai;clear ai;go_wp2_with (first|(go_at_call 68;refine ch.mono ?_;rintro e w' ⟨rfl,rfl⟩)|fail);go_ret;exact ah.o 1 _ _ _ ax.o rfl bw.o rfl
   rcases hb3:decide (r.2.1<0) with _|_
   rotate_left
   · have ai:=aw.o 1 (zEb (by rw[cv.o,hb2,hb3];simp)) (by decide);have ax:=hy' ai;clear ai;go_wp2_with (first|(go_at_call 68;refine ch.mono ?_;rintro e w' ⟨rfl,rfl⟩)|fail);go_ret;exact ah.o 1 _ _ _ ax.o rfl bw.o rfl
   rcases bx:decide (254<r.2.1) with _|_
   rotate_left
   · have ai:=aw.o 1 (zEb (by rw[cv.o,hb2,hb3,bx];simp)) (by decide);have ax:=hy' ai;clear ai;go_wp2_with (first|(go_at_call 68;refine ch.mono ?_;rintro e w' ⟨rfl,rfl⟩)|fail);go_ret;exact ah.o 1 _ _ _ ax.o rfl bw.o rfl
   rcases hb5:decide (2<(ml:Int)) with _|_
   rotate_left
   · have h5:decide (2<r.2.2.length)=true:=by rw[bf.o];simp at hb5 ⊢;omega
     have ai:=aw.o 1 (zEb (by rw[cv.o,hb2,hb3,bx,h5];rfl)) (by decide);have ax:=hy' ai;clear ai h5;go_wp2_with (first|(go_at_call 68;refine ch.mono ?_;rintro e w' ⟨rfl,rfl⟩)|fail);go_ret;exact ah.o 1 _ _ _ ax.o rfl bw.o rfl
   have h5:decide (2<r.2.2.length)=false:=by rw[bf.o];simp at hb5 ⊢;omega
   have h3:(!C.isC r.1||decide (r.1≤last)||decide (r.2.1<0)||decide (254<r.2.1)||decide (2<r.2.2.length))=false:=by rw[cv.o,hb2,hb3,bx,h5];rfl
   have ez:=hy' h3;clear h3 h5;obtain⟨wn,bo⟩:∃wn,(wr.alloc (.cells #[.int .i64 r.1,.int .i64 r.2.1,.slice a.1 ml a.2] 73)).alloc (.cells #[.int .i64 r.1] 3)=wn:=⟨_,rfl⟩
   have dv:wn.ownsRow (wr.heap.size+1) 3 1 (.slice (some ⟨wr.heap.size+1,0,none⟩) 1 1) 1 [.int .i64 r.1]:=by
    have:=zQE (wr.alloc (.cells #[.int .i64 r.1,.int .i64 r.2.1,.slice a.1 ml a.2] 73)) 3 (.int .i64 r.1);rw[ZD]at this;rw[←bo];exact this
   have ew:Below (wr.heap.size+1) (wr.alloc (.cells #[.int .i64 r.1,.int .i64 r.2.1,.slice a.1 ml a.2] 73)) wn:=by rw[←bo];exact (Zd _ _).alloc (by simp) _
   have fu:=ji.o.belowN ew (ZZ _) (Za _);have af:Rw.At wn wr.heap.size 73 [.int .i64 r.1,.int .i64 r.2.1,.slice a.1 ml a.2]:=by rw[←bo];exact (Rw.At.new wr 73 [.int .i64 r.1,.int .i64 r.2.1,.slice a.1 ml a.2]).alloc _
   have e3:wr.heap.size+1≤wn.heap.size:=af.lt;have fc:=hy' dv;have fp:=hy' fu;have cm:=hy' af;have e9:=hy' bo;have dy:=hy' (bw.o.trans (ew.mono (Zh br.o.size (ZZ _))));have h8:Hy (∀u∈r.2.2.map (Value.int .i64),u.oneCell'=true):=hy' (zFq .i64 _);have e2:Hy ((r.2.2.map (Value.int .i64)).length=ml*1):=hy' (by rw[Ze,bf.o,Y0]);clear dv ew fu af bo;go_wp2_with (first|(go_at_call 68;refine ch.mono ?_;rintro e w' ⟨rfl,rfl⟩)|(at_builtin;(rw[e9.o]);refine zAh _ rfl _ _ _ rfl (wr.heap.size+1) 3 i0 _ 1 8 underlying36 iv ix jd h4 rfl (by omega) _ 1 _ rfl fc.o _ a.1 ml a.2 (r.2.2.map (Value.int .i64)) rfl e2.o fp.o h8.o (by simp only[maxLen];omega) (by omega) e3 ?_;intro v1 w4 bk bx h9;obtain⟨A4,c4,rfl⟩:=zA3 bk)|fail);have dk:=cm.o.below' bx (ZM _);obtain⟨y0,y1,y2,_,_,_⟩:=dk.three;have fm:=hy' (Sl.of_own bk);have dm:=hy' (dy.o.trans (bx.mono (Zh br.o.size (ZZ _))));have ia:=hy' (fp.o.belowN bx (ZZ _) (Za _));obtain⟨L,hL⟩:∃L,r.1::r.2.2=L:=⟨_,rfl⟩;have HL:=hy' hL;have gq:[.int .i64 r.1]++r.2.2.map (Value.int .i64)=L.map (Value.int .i64):=by rw[←hL];rfl
   rw[gq]at fm;have gi:Hy (L.length=1+ml):=hy' (by rw[←hL,ZB,bf.o];omega)
   have ja:Hy (∀x∈L,-2147483648≤x∧x≤2147483647):=hy' (by
    rw[←hL];intro x hx;rcases List.mem_cons.1 hx with rfl|hx
    · exact fw.o.1
    exact fw.o.2 x hx)
   clear dk bk bx h9 hL gq x0 x1 x2 c0 c1 c2 z0 z1;go_loop [60] (fun i=>∃j:Nat,j≤1+ml∧i=.int .i64 j∧∀x∈L.take j,zA2 x=0) (fun i=>1+ml-(intOf i).toNat)
   case atStart=>exact⟨0,Zq _,rfl,by simp⟩
   obtain⟨j,hj,rfl,bj⟩:=hrel;have ay:=hy' bj;clear bj
   by_cases hlt2:j<1+ml
   · obtain⟨x,hx⟩:∃x,L[j]?=some x:=⟨_,Zb (by rw[gi.o];exact hlt2)⟩;obtain⟨g,go,rfl,hg,im,_⟩:=fm.o.ints hx;have hxb:=ja.o x (Zj hx);have hK:=zG3 x w4 hxb.1 hxb.2;have ef:=zRS x;obtain⟨kx,ck⟩:∃q,zA2 x=q:=⟨_,rfl⟩;rw[ck]at hK ef;have iu:(j:Int)<((1+ml:Nat):Int):=by omega
     have hj0:(0:Int)≤j:=by omega
     have HX:=hy' hx;have dx:=hy' ck;have HK:=hy' hK;clear hx hxb ck hK;rcases hd:decide (0<kx) with _|_
     · have hz:kx=0:=by simp at hd;omega
       have HZ:=hy' hz;clear hz ef;go_wp2_with (first|(go_at_call 107;refine HK.o.mono ?_;rintro e w' ⟨rfl,rfl⟩)|fail);exact⟨⟨j+1,by omega,by go_num,zJP HX.o ay.o (by rw[dx.o,HZ.o])⟩,by simp[intOf];omega⟩
     have hz:kx≠0:=by simp at hd;omega
     have ai:=aw.o 2 (zLZ ez.o (by rw[HL.o];exact HX.o) (by rw[dx.o];exact hz)) (by decide);have ax:=hy' ai;clear hz ef ai;go_wp2_with (first|(go_at_call 107;refine HK.o.mono ?_;rintro e w' ⟨rfl,rfl⟩)|fail);go_ret;exact ah.o 2 _ _ _ ax.o rfl dm.o rfl
   have b5:∀x∈r.1::r.2.2,zA2 x=0:=by
    rw[HL.o];intro x hx;exact ay.o x (by rw[Zi (by rw[gi.o];omega)];exact hx)
   have b1:=hy' b5;have hge:¬(j:Int)<((1+ml:Nat):Int):=by omega
   clear b5 ay hlt2;go_wp2_with fail;clear hge;go_loop [71] (fun i=>∃j:Nat,j≤ml∧i=.int .i64 j∧∀x∈r.2.2.take j,C.isC x=true) (fun i=>ml-(intOf i).toNat)
   case atStart=>exact⟨0,Zq _,rfl,by simp⟩
   obtain⟨j,hj,rfl,bj⟩:=hrel;have ay:=hy' bj;clear bj
   by_cases hlt2:j<ml
   · obtain⟨x,hx⟩:∃x,r.2.2[j]?=some x:=⟨_,Zb (by rw[bf.o];exact hlt2)⟩;obtain⟨g,go,gg,hg,im,_⟩:=ia.o.ints hx;have hK:=zFE x w4;obtain⟨kx,ck⟩:∃q,C.isC x=q:=⟨_,rfl⟩;rw[ck]at hK;have iu:(j:Int)<(ml:Int):=by omega
     have hj0:(0:Int)≤j:=by omega
     have HX:=hy' hx;have dx:=hy' ck;have HK:=hy' hK;obtain⟨a1,a2⟩:=a;simp only at gg;subst gg;clear hx ck hK;cases kx
     · have ai:=aw.o 3 (zM0 ez.o b1.o HX.o dx.o) (by decide);have ax:=hy' ai;clear ai;go_wp2_with (first|(go_at_call 68;refine HK.o.mono ?_;rintro e w' ⟨rfl,rfl⟩)|fail);go_ret;exact ah.o 3 _ _ _ ax.o rfl dm.o rfl
     go_wp2_with (first|(go_at_call 68;refine HK.o.mono ?_;rintro e w' ⟨rfl,rfl⟩)|fail);exact⟨⟨j+1,by omega,by go_num,zJP HX.o ay.o dx.o⟩,by simp[intOf];omega⟩
   have gb:Md.bad last r=0:=zOX ez.o b1.o (fun x hx=>ay.o x (by rw[Zi (by rw[bf.o];omega)];exact hx));have b6:zAz (-1) T=zAz r.1 (T.drop (k+1)):=by rw[cy.o,gb];rfl
   have dl:=hy' b6;have hge:¬(j:Int)<(ml:Int):=by omega
   clear gb b6 hlt2 ay;go_wp2_with fail;exact⟨⟨k+1,r.1,by omega,by go_num,rfl,⟨iw,jc⟩,dl.o,dm.o⟩,by simp[intOf];omega⟩
 obtain rfl:n=k:=by omega
 have hz:zAz (-1) T=0:=by
  rw[fz.o,XJ (by rw[HN.o];exact Za _)];rfl
 obtain⟨bz,cc⟩:=zCd T (-1) hz;have HZ:=hy' hz;have b7:=hy' bz;have cd:=hy' cc
 have ah:Hy (∀(j:Nat) (W:World) (e:Ending) (w':World),res=j→e=.returned (.string (zBg j))→Below wa.heap.size wa W→W=w'→e=.returned (.string (zBg res))∧Below w.heap.size w w'):=hy' (by
  rintro j W e w' rfl rfl hW rfl;exact⟨rfl,bn.o.trans (hW.mono bn.o.size)⟩)
 obtain⟨wb,rfl⟩:∃wb:World,wb=wr:=⟨_,rfl⟩;clear hz bz cc hlt;go_wp2_with fail;go_loopw [83] (fun i wr=>∃k:Nat,k≤n∧i=.int .i64 k∧(∀r∈T.take k,(Md.full T r.1).isSome=true)∧Below wb.heap.size wb wr) (fun i _=>n-(intOf i).toNat)
 case atStart=>exact⟨0,Zq _,rfl,fun r hr=>by simp at hr,Zd _ _⟩
 obtain⟨k,hk,rfl,bh,a8⟩:=hrel;have aa:=eo.o.below a8;have y0:=aa.cell 0 rfl;have y1:=aa.cell 1 rfl;have cp:=hy' bh;have b3:=br.o.trans (a8.mono br.o.size);have a7:=hy' b3;have du:=hy' aa;have cb:=hy' a8;have jb:=aa.lt;clear bh aa a8 z0 z1
 by_cases hlt:k<n
 · obtain⟨r,hr⟩:∃r,T[k]?=some r:=⟨_,Zb (by rw[HN.o];exact hlt)⟩;have aj:=Zj hr;have ak:=eb.o r aj;obtain⟨b,o,a,dh,hb,c0,c1,c2,cf⟩:=(bt.o.below b3).row hr;have az:Below wr.heap.size wr (wr.alloc (.cells #[.int .i64 r.1,.int .i64 r.2.1,.slice a.1 r.2.2.length a.2] 73)):=(Zd _ _).alloc (Za _) _;have eg:=a7.o.trans (az.mono a7.o.size);have hE:=c6.o r.1 _ (bn.o.trans (eg.mono bn.o.size)) ak.1.1 ak.1.2;have dw:=hy' eg;have dy:=hy' (cb.o.trans (az.mono cb.o.size));have af:=Rw.At.new wr 73 [.int .i64 r.1,.int .i64 r.2.1,.slice a.1 r.2.2.length a.2];obtain⟨x0,x1,x2,_,_,_⟩:=af.three;have ir:(k:Int)<n:=by omega
   have i6:(0:Int)≤k:=by omega
   obtain⟨fo,et⟩:∃fo,Md.full T r.1=fo:=⟨_,rfl⟩;rw[et]at hE;have gm:=hy' et;have HR:=hy' hr;have dp:=hy' aj;subst dh;clear hr aj ak cf az eg af et;go_wp2_with fail;refine hE.mono ?_;rintro e w2 ⟨A1,jr,rfl,_,hg⟩;have dm:=hy' (dy.o.trans (hg.mono dy.o.size));have jg:=hy' (dw.out.trans (hg.mono dw.out.size));clear hg hE x0 x1 x2 y0 y1 c0 c1 c2;rcases fo with _|fl
   · have fx:res=4:=by
      rw[←cj.o];unfold Md.chk
      have:zBn T=true:=by
       unfold zBn;rw[YG];exact⟨r,dp.o,by rw[gm.o];rfl⟩
      rw[Zk (by rw[HZ.o];simp),Zl this]
     have ib:=hy' fx;clear fx;go_wp2_with fail;go_ret;exact ah.o 4 _ _ _ ib.o rfl jg.o rfl
   have bh:∀r∈T.take (k+1),(Md.full T r.1).isSome=true:=by
    rw[Zy,HR.o];intro q hq;rcases List.mem_append.1 hq with hq|hq
    · exact cp.o q hq
    simp at hq;subst hq;rw[gm.o];rfl
   have c7:=hy' bh;clear bh;go_wp2_with fail;exact⟨⟨k+1,by omega,by go_num,c7.o,dm.o⟩,by simp[intOf];omega⟩
 obtain rfl:n=k:=by omega
 have fy:zBn T=false:=by
  unfold zBn;rw[XT];intro r hr;have:=cp.o r (by rw[Zi (by rw[HN.o];exact Za _)];exact hr);cases hf:Md.full T r.1 with
  | none=>rw[hf]at this;cases this
  | some l=>simp
 have gx:res=if zB5 T (Md.xs E) [] T=true then 5 else 0:=by
  rw[←cj.o];unfold Md.chk;rw[Zk (by rw[HZ.o];simp),Zk (by rw[fy];simp),←zDt];rfl
 have hl:=hy' gx;obtain⟨wz,rfl⟩:∃wz:World,wz=wr:=⟨_,rfl⟩;clear fy gx hlt cp;go_wp2_with fail;go_loopw [100] (fun i wr=>∃k:Nat,k≤n∧i=.int .i64 k∧zB5 T (Md.xs E) [] T=zB5 T (Md.xs E) (T.take k) (T.drop k)∧Below wz.heap.size wz wr) (fun i _=>n-(intOf i).toNat)
 case atStart=>exact⟨0,Zq _,rfl,rfl,Zd _ _⟩
 obtain⟨k,hk,rfl,bu,bb⟩:=hrel;have aa:=du.o.below bb;have y0:=aa.cell 0 rfl;have y1:=aa.cell 1 rfl;have gf:=hy' bu;have au:=a7.o.trans (bb.mono a7.o.size);have b8:=hy' bb;have dn:=hy' au;have il:=aa.lt;have dr:=hy' aa;clear bu aa bb
 by_cases hlt:k<n
 rotate_left
 · obtain rfl:n=k:=by omega
   have fk:res=0:=by
    rw[hl.o,gf.o,XJ (by rw[HN.o];exact Za _)];rfl
   have jf:=hy' fk;clear fk hlt;go_wp2_with fail;go_ret;exact ah.o 0 _ _ _ jf.o rfl dn.o rfl
 obtain⟨r,hr⟩:∃r,T[k]?=some r:=⟨_,Zb (by rw[HN.o];exact hlt)⟩;have aj:=Zj hr;have ak:=eb.o r aj;obtain⟨b,o,a,dh,hb,c0,c1,c2,cf⟩:=(bt.o.below au).row hr;obtain⟨wn,bo⟩:∃wn,wr.alloc (.cells #[.int .i64 r.1,.int .i64 r.2.1,.slice a.1 r.2.2.length a.2] 73)=wn:=⟨_,rfl⟩;have az:Below wr.heap.size wr wn:=by rw[←bo];exact (Zd _ _).alloc (Za _) _
 have af:Rw.At wn wr.heap.size 73 [.int .i64 r.1,.int .i64 r.2.1,.slice a.1 r.2.2.length a.2]:=by rw[←bo];exact Rw.At.new wr 73 [.int .i64 r.1,.int .i64 r.2.1,.slice a.1 r.2.2.length a.2]
 have ig:=af.lt;have e9:=hy' bo;have bw:=hy' az;have cm:=hy' af;have ar:=hy' (au.trans (az.mono au.size));have b2:=hy' (dr.o.below az);have ep:=hy' (cf.below az az.size);have bu:=gf.o;rw[zDz hr,zB5]at bu;have cz:=hy' bu;have gw:T.take (k+1)=T.take k++[r]:=by rw[Zy,hr];rfl
 have ih:=hy' gw;have e7:=zD3 (X:=Md.xs E) cd.o aj (b7.o r aj).1
 have ie:Hy (∀W,Below wn.heap.size wn W→Calls prog 108 #[.agg #[.slice A n c,.slice XA xn xc],.int .i64 r.1] W fun e w'=>e=.returned (.bool (zAf T (Md.xs E) r))∧Below W.heap.size W w'):=hy' fun W hW=>by
  rw[←e7];exact b4.o r.1 W (bn.o.trans ((ar.o.trans (hW.mono ar.o.size)).mono bn.o.size)) ak.1.1 ak.1.2
 have x0:=af.cell 0 rfl;have i7:=b2.o.cell 0 rfl;have kI:(k:Int)<n:=by omega
 have k0:(0:Int)≤k:=by omega
 have kc:(k:Int)≤c:=by omega
 have jn:k≤c:=by omega
 subst dh;clear hr aj ak cf bo az af bu gw e7 au;go_wp2_with fail;go_upto_region 31 with (fail)
 rw[e9.o];go_wp2_with fail;clear c0 c1 c2 x0 y0 y1 i7;go_loopw [110] (fun i wq=>∃m:Nat,m≤k∧i=.int .i64 m∧Md.ahead T (Md.xs E) (T.take m) r=false∧Below wn.heap.size wn wq) (fun i _=>k-(intOf i).toNat)
 case atStart=>exact⟨0,Zq _,rfl,rfl,Zd _ _⟩
 obtain⟨m,hm,rfl,gz,ae⟩:=hrel;have av:=b2.o.below ae;have ba:=cm.o.below' ae ig;have bl:=ep.o.below ae ae.size;have bi:=ar.o.trans (ae.mono ar.o.size);have fj:=hy' gz;have y0:=av.cell 0 rfl;have fq:=av.lt;have ft:=ba.lt;clear gz
 by_cases hlt2:m<k
 rotate_left
 · obtain rfl:k=m:=by omega
   have bu:zB5 T (Md.xs E) [] T=zB5 T (Md.xs E) (T.take (k+1)) (T.drop (k+1)):=by rw[cz.o,ih.o,fj.o,Y3]
   have eh:=hy' bu;have bm:=hy' (b8.o.trans ((bw.o.trans (ae.mono bw.o.size)).mono b8.o.size));clear bu ae bi av ba bl y0;go_wp2_with fail;exact⟨⟨k+1,by omega,by go_num,eh.o,bm.o⟩,by simp[intOf];omega⟩
 obtain⟨q,hq⟩:∃q,T[m]?=some q:=⟨_,Zb (by rw[HN.o];omega)⟩;have gu:(T.take k)[m]?=some q:=by rw[Yv,Zl hlt2];exact hq
 have bs:=Zj hq;have cw:=eb.o q bs;obtain⟨bq,oq,aq,gv,js,c0,c1,c2,cx⟩:=(bt.o.below bi).row hq;simp only[Zg,YH,Yl]at gv;obtain⟨rfl,rfl⟩:=gv;obtain⟨wp,ec⟩:∃wp,wr.alloc (.cells #[.int .i64 q.1,.int .i64 q.2.1,.slice aq.1 q.2.2.length aq.2] 73)=wp:=⟨_,rfl⟩;have b9:Below wr.heap.size wr wp:=by rw[←ec];exact (Zd _ _).alloc (Za _) _
 have bg:Rw.At wp wr.heap.size 73 [.int .i64 q.1,.int .i64 q.2.1,.slice aq.1 q.2.2.length aq.2]:=by rw[←ec];exact Rw.At.new wr 73 [.int .i64 q.1,.int .i64 q.2.1,.slice aq.1 q.2.2.length aq.2]
 have iz:=hy' ec;have a6:=hy' (ae.trans (b9.mono ae.size));have ao:=av.below b9;have ap:=ba.below b9;have jh:=hy' (bl.below b9 b9.size);have h7:=hy' (cx.below b9 b9.size);have gy:=zD3 (X:=Md.xs E) cd.o bs (b7.o q bs).1;have C1:=hy' (Ext.call (w:=wp) fun W hW=>ie.o W (a6.o.trans (hW.mono a6.o.size)))
 have gj:∀W,Below wp.heap.size wp W→Calls prog 108 #[.agg #[.slice (some ⟨b,o,none⟩) n c,.slice XA xn xc],.int .i64 q.1] W fun e w'=>e=.returned (.bool (zAf T (Md.xs E) q))∧Below W.heap.size W w':=fun W hW=>by
  rw[←gy];have h1:=a6.o.trans (hW.mono a6.o.size);exact b4.o q.1 W (bn.o.trans ((ar.o.trans (h1.mono ar.o.size)).mono bn.o.size)) cw.1.1 cw.1.2
 have C2:=hy' (Ext.call (w:=wp) gj);have e0:=Ext.cells (ao.cell 0 rfl) ao.lt;have e1:=Ext.cells (ao.cell 1 rfl) ao.lt;have r0:=Ext.cells (ap.cell 0 rfl) ap.lt;have r2:=Ext.cells (ap.cell 2 rfl) ap.lt;have q0:=Ext.cells (bg.cell 0 rfl) bg.lt;have q2:=Ext.cells (bg.cell 2 rfl) bg.lt
 have cq:(zAf T (Md.xs E) r&&(zAf T (Md.xs E) q&&decide (q.2.2=r.2.2)))=false→Md.ahead T (Md.xs E) (T.take (m+1)) r=false:=by
  intro h0;have h1:=fj.o;unfold Md.ahead at h1 ⊢;rw[Zy,hq,QD,h1,Y3];simp only[XK,Kz,List.any_nil,Bool.or_false];exact h0
 have ct:(zAf T (Md.xs E) r&&(zAf T (Md.xs E) q&&decide (q.2.2=r.2.2)))=true→res=5:=by
  intro h0;rw[hl.o,Zl];rw[cz.o]
  have:Md.ahead T (Md.xs E) (T.take k) r=true:=by
   unfold Md.ahead;rw[YG];exact⟨q,Zj gu,h0⟩
  rw[this,Xv]
 have ek:∀r:Rw.Row,zAf T (Md.xs E) r=true→∃x y,r.2.2=[x,y]:=by
  intro r hc;unfold zAf at hc;simp only[Zr,Zo]at hc;have h2:=hc.2.1
  match hh:r.2.2,h2 with
  | [x,y],_=>exact⟨x,y,rfl⟩
 have di:=hy' (ek r);have c8:=hy' (ek q);obtain⟨pr,ey⟩:∃p,zAf T (Md.xs E) r=p:=⟨_,rfl⟩;obtain⟨pq,fh⟩:∃p,zAf T (Md.xs E) q=p:=⟨_,rfl⟩;rw[ey,fh]at cq ct;rw[ey]at C1 di;rw[fh]at C2 c8;have bp:=hy' cq;have e4:=hy' ct;have mI:(m:Int)<k:=by omega
 have m0:(0:Int)≤m:=by omega
 clear hq gu bs cw cx ec b9 bg av ba bl ao ap gy gj cq ct ek ey fh ae bi;go_upto_region 34 with (fail)
 rw[iz.o];clear c0 c1 c2 y0;cases pr
 · have ag:=hy' (bp.o (Xp _));refine zAa (by kernel_rfl) (by kernel_rfl) ?_
   repeat (go_big_quiet_step ((first|(go_at_call 108;first|with_reducible exact C1.o _|with_reducible exact C2.o _))))
   refine wpQuiet_nil ?_;intro xw;have bm:=hy' (a6.o.trans (xw.below.mono a6.o.size));go_wp2_with fail;exact⟨⟨m+1,by omega,by go_num,ag.o,bm.o⟩,by simp[intOf];omega⟩
 cases pq
 · have ag:=hy' (bp.o rfl);refine zAa (by kernel_rfl) (by kernel_rfl) ?_
   repeat (go_big_quiet_step ((first|(go_at_call 108;first|with_reducible exact C1.o _|with_reducible exact C2.o _))))
   refine wpQuiet_nil ?_;intro xw;have bm:=hy' (a6.o.trans (xw.below.mono a6.o.size));go_wp2_with fail;exact⟨⟨m+1,by omega,by go_num,ag.o,bm.o⟩,by simp[intOf];omega⟩
 obtain⟨x,y,aj⟩:=di.o rfl;obtain⟨x',y',bs⟩:=c8.o rfl;obtain⟨rl,e5⟩:∃k,r.2.2.length=k:=⟨_,rfl⟩;obtain⟨ql,ej⟩:∃k,q.2.2.length=k:=⟨_,rfl⟩;have ed:rl=2:=by rw[←e5,aj];rfl
 have dc:ql=2:=by rw[←ej,bs];rfl
 rw[e5]at r2;rw[ej]at q2;have ee:=jh.o;have eu:=h7.o;rw[aj]at ee;rw[bs]at eu;obtain⟨rb,ro,gp,ak,er⟩:=ee (by simp);obtain⟨qb,qo,ho,cw,ei⟩:=eu (by simp);rw[gp]at r2;rw[ho]at q2;have jv:=Ext.cells (w:=wp) (b:=rb) (o:=ro) (v:=.int .i64 x) (by simpa using er 0 (by simp)) ak;have jy:=Ext.cells (w:=wp) (b:=rb) (o:=ro+1) (v:=.int .i64 y) (by simpa using er 1 (by simp)) ak;have jt:=Ext.cells (w:=wp) (b:=qb) (o:=qo) (v:=.int .i64 x') (by simpa using ei 0 (by simp)) cw;have j0:=Ext.cells (w:=wp) (b:=qb) (o:=qo+1) (v:=.int .i64 y') (by simpa using ei 1 (by simp)) cw;have jm:((ql:Int) == 2)=true:=by rw[dc];rfl
 have jl:0<rl:=by omega
 have jz:(0:Int)<rl:=by omega
 have j1:1<rl:=by omega
 have ju:(1:Int)<rl:=by omega
 have jq:0<ql:=by omega
 have jo:(0:Int)<ql:=by omega
 have jw:1<ql:=by omega
 have jx:(1:Int)<ql:=by omega
 have en:=hy' bs;have dp:=hy' aj;clear e5 ej ed dc ee eu er ei gp ho aj bs;rcases he1:(x' == x) with _|_
 · have ag:=hy' (bp.o (by rw[en.o,dp.o];simp at he1 ⊢;intro e;exact absurd e he1));refine zAa (by kernel_rfl) (by kernel_rfl) ?_
   repeat (go_big_quiet_step ((first|(go_at_call 108;first|with_reducible exact C1.o _|with_reducible exact C2.o _))))
   refine wpQuiet_nil ?_;intro xw;have bm:=hy' (a6.o.trans (xw.below.mono a6.o.size));go_wp2_with fail;exact⟨⟨m+1,by omega,by go_num,ag.o,bm.o⟩,by simp[intOf];omega⟩
 rcases he2:(y' == y) with _|_
 · have ag:=hy' (bp.o (by rw[en.o,dp.o];simp at he2 ⊢;intro _ e;exact absurd e he2));refine zAa (by kernel_rfl) (by kernel_rfl) ?_
   repeat (go_big_quiet_step ((first|(go_at_call 108;first|with_reducible exact C1.o _|with_reducible exact C2.o _))))
   refine wpQuiet_nil ?_;intro xw;have bm:=hy' (a6.o.trans (xw.below.mono a6.o.size));go_wp2_with fail;exact⟨⟨m+1,by omega,by go_num,ag.o,bm.o⟩,by simp[intOf];omega⟩
 have ax:=hy' (e4.o (by rw[en.o,dp.o];simp at he1 he2 ⊢;exact⟨he1,he2⟩));refine zAa (by kernel_rfl) (by kernel_rfl) ?_
 repeat (go_big_quiet_step ((first|(go_at_call 108;first|with_reducible exact C1.o _|with_reducible exact C2.o _))))
 refine wpQuiet_nil ?_;intro xw;have bm:=hy' (a6.o.trans (xw.below.mono a6.o.size));go_wp2_with fail;go_ret;exact ah.o 5 _ _ _ ax.o rfl (ar.o.trans (bm.o.mono ar.o.size)) rfl
end
end Go.Proofs.YtdbpjmfflofadaaGreatDoor
