/- The layer excl: char, Parse, by walking their texts. -/
import Derived.Test.YtddbccflcekdpaaGreatDoorExPlain
set_option maxRecDepth 100000
set_option maxHeartbeats 4000000
set_option linter.unusedVariables false
set_option linter.unusedSimpArgs false
namespace Go.Proofs.YtddbccflcekdpaaGreatDoor
open Go.Proofs.Tryz
section
open Go.RowKit
theorem zMM (A:Option Addr) (n cp B:Nat) (l:List Int) (c:Int) (w:World) (hn:l.length=n) (hN:n≤1000000) (hB:B≤w.heap.size) (hA:Sl w B A (l.map (Value.int .i32))) (hc:c∉l) :
 Calls prog 185 #[.slice A n cp,.int .i32 c] w fun e w'=>e=.returned (.int .i64 (-1))∧w'=w:=by
 have HN:=hy' hn;have HC:=hy' hc;clear hn hc;go_enter func185,ntmps185;go_wp2_with fail;go_loop [5,8] (fun _ i=>∃k:Nat,k≤n∧i=.int .i64 k) (fun _ i=>n-(intOf i).toNat)
 case atStart=>exact⟨0,ZG _,rfl⟩
 obtain⟨k,hk,rfl⟩:=hrel
 by_cases hlt:k<n
 · obtain⟨x,hx⟩:∃x,l[k]?=some x:=⟨_,Zb (by rw[HN.o];exact hlt)⟩;obtain⟨b,o,rfl,hb,hcell⟩:=hA (by rw[Ze,HN.o];omega);have h1:=hcell k (by rw[Ze,HN.o];exact hlt);rw[Zs,hx,ZA]at h1
   have hne:(c == x)=false:=by
    have:c≠x:=fun e=>HC.o (by rw[e];exact Zn hx)
    simpa using this
   have kI:(k:Int)<n:=by omega
   have k0:(0:Int)≤(k:Int):=by omega
   clear hcell hx;go_wp2_with fail;exact⟨⟨k+1,by omega,by go_num⟩,by simp[intOf];omega⟩
 obtain rfl:k=n:=by omega
 have kI:¬(k:Int)<k:=by omega
 go_wp2_with fail;go_ret;exact⟨rfl,rfl⟩
theorem zJp (A:Option Addr) (n cp B:Nat) (l:List Int) (c:Int) (w:World) (hn:l.length=n) (hN:n≤1000000) (hB:B≤w.heap.size) (hA:Sl w B A (l.map (Value.int .i32))) (hc:c∉l) :
 Calls prog 153 #[.slice A n cp,.int .i32 c] w fun e w'=>e=.returned (.bool false)∧w'=w:=by
 have h:=zMM A n cp B l c w hn hN hB hA hc;clear hn hc hA;go_enter func153,ntmps153;go_wp2_with fail;refine h.mono ?_;rintro e w1 ⟨rfl,rfl⟩;go_wp2_with fail;go_ret;exact⟨rfl,rfl⟩
theorem Ex.char_any (s:ByteArray) (A:Option Addr) (n cp B:Nat) (l:List Int) (c:Int) (w:World) (hs:s.size≤1000000) (hn:l.length=n) (hN:n≤1000000) (hB:B≤w.heap.size) (hA:Sl w B A (l.map (Value.int .i32)))
 (hx:zAH s.data.toList=some c) (hi:C.isC c=true) (hc:c∉l) :
 Calls prog 122 #[.string s,.slice A n cp] w fun e w'=>e=.returned (.tuple #[.int .i32 c,.string ⟨#[]⟩])∧w'=w:=by
 have h1:∀W:World,Calls prog 152 #[.string s] W fun e w'=>e=.returned (.tuple #[.int .i32 c,.bool true])∧w'=W:=fun W=>(zFu s W).mono fun e w' h=>⟨by
  have:=h.1;unfold zBe at this;rw[this,hx];rfl,h.2⟩
 have h2:=zBu c;rw[hi]at h2;have h3:=fun (W:World) (e:W=w)=>zJp A n cp B l c W hn hN (by rw[e];exact hB) (by rw[e];exact hA) hc
 clear hx hi hc hA hn;go_enter func122,ntmps122;go_wp2_with fail;refine (h1 _).mono ?_;rintro e w1 ⟨rfl,rfl⟩;go_wp2_with fail;refine (h2 _).mono ?_;rintro e w1 ⟨rfl,rfl⟩;go_wp2_with fail;refine (h3 _ rfl).mono ?_;rintro e w1 ⟨rfl,rfl⟩;go_wp2_with fail;go_ret2;exact⟨rfl,rfl⟩
theorem zHk (c:UInt8):∀l:List UInt8,(l.dropWhile (· == c)).length≤l.length
 | []=>Za _
 | b::l=>by
   rw[YD];split
   · have:=zHk c l;simp;omega
   exact Za _
theorem zOb (x:List UInt8):(Lib.trimB (Lib.cut x [35]).1 32).length≤x.length:=by
 have h1:(Lib.cut x [35]).1.length≤x.length:=by unfold Lib.cut;split <;> simp <;> omega
 rw[zF0];unfold Lib.trimRightB Lib.trimLeftB;rw[JN];have h2:=zHk 32 ((Lib.cut x [35]).1.dropWhile (· == 32)).reverse;have h3:=zHk 32 (Lib.cut x [35]).1;rw[JN]at h2;omega
def Ex.RetParse (cs:List Int) (w:World) (e:Ending) (w':World):Prop :=
 ∃A c,e=.returned (.tuple #[.agg #[.slice A (C.chars cs).length c],.nilIface])∧Slt w' 21 A ((C.chars cs).map (Value.int .i32))∧Below w.heap.size w w'
theorem Ex.parse_any (s:ByteArray) (hs:s.size≤300000) (cs:List Int) (hp:Ex.parse s.data.toList=some cs) (w:World) (hL:Fi.LaidM w) :
 Calls prog 96 #[.string s] w (Ex.RetParse cs w):=by
 unfold Ex.parse at hp;split at hp
 case isFalse=>cases hp
 rename_i h0;obtain⟨az,ar⟩:=h0;have av:=zHX s (by omega) az
 have hl:∀x∈zAS [] s.data.toList,x.length≤1000:=fun x hx=>by
  rw[Yi]at az;have:=az x hx;unfold zCh at this;rw[Zy,Zp]at this;exact this.1
 obtain⟨L,bk⟩:∃L,zAS [] s.data.toList=L:=⟨_,rfl⟩;rw[bk]at hp av ar hl;obtain⟨n,hn⟩:∃n,L.length=n:=⟨_,rfl⟩;have HP:=hy' hp;have bw:=hy' hl;have HN:=hy' hn;obtain⟨i0,hi,b3,bp,bz⟩:=Z7 zCw;rw[hn]at ar;unfold zJj at av;rw[hn]at av;clear az hp bk hl hn;go_enter func96,ntmps96;go_wp2_with fail;refine (av _).mono ?_;rintro e w1 ⟨A,c,rfl,hA,bg⟩;have a7:Below w.heap.size w w1:=((Zc _ _).alloc (Za _) _).trans (bg.mono (by simp));have b4:Rw.At w1 w.heap.size 89 [.slice none 0 0]:=(Rw.At.new w 89 [.slice none 0 0]).below bg;have bu:=hy' (hL.below a7);have HA:=hy' hA;have bn:=hy' a7;clear hA bg hL av a7;go_wp2_with fail
 go_loopw [6,7,8,9,10,22] (fun v _ _ _ _ i wr=>∃(k:Nat) (seen:List Int),k≤n∧i=.int .i64 k∧Ex.steps [] (L.take k)=some seen∧wr.ownsRow w1.heap.size 21 1 v seen.length (seen.map (Value.int .i32))∧Below w1.heap.size w1 wr)
  (fun _ _ _ _ _ i _=>n-(intOf i).toNat)
 case atStart=>exact⟨0,[],ZG _,rfl,rfl,ZI _ _ _ _,Zc _ _⟩
 obtain⟨k,seen,hk,rfl,ak,ag,ae⟩:=hrel;have hz:=ae.size;have bo:=Ex.steps_len _ ak;simp only[Z2,ZU]at bo;have b5:(L.take k).length≤k:=Xu _ _
 by_cases hlt:k<n
 rotate_left
 · obtain rfl:k=n:=by omega
   have kI:¬(k:Int)<k:=by omega
   have ba:seen=cs:=by
    rw[Zm (by rw[HN.o];exact Za _),HP.o,Zh]at ak;exact ak.symm
   subst ba;obtain⟨Av,cv,rfl⟩:=zA2 ag;have a1:=zDe Av seen.length cv wr.heap.size seen wr rfl (by omega) (Za _) (Sl.of_own ag);have au:=b4.below ae;have ah:=hy' (bn.o.trans (ae.mono bn.o.size));clear ak ag ae;go_wp2_with fail;refine a1.mono ?_;rintro e w2 ⟨A2,c2,rfl,aa,aj⟩;have ai:=au.below aj;have z0:=ai.cell 0 rfl;have g0:=ai.frozen 0;have bj:=Slt.of_own aa;have ay:=hy' (ah.o.trans (aj.mono ah.o.size));have bs:=hy' bj;clear bj aa aj a1 au;go_wp2_with fail;have a6:=ai.set 0 (.slice A2 (C.chars seen).length c2);refine YH (zEc rfl _ _ w.heap.size _ _ _ _ rfl a6 underlying89 rfl (by kernel_rfl)) rfl ⟨A2,c2,rfl,?_,?_⟩
   · exact bs.o.setAt ai (by decide) 0 _
   exact ay.o.setCell (p:=⟨w.heap.size,0,none⟩) (Za _) _
 obtain⟨x,hx⟩:∃x,L[k]?=some x:=⟨_,Zb (by rw[HN.o];exact hlt)⟩;obtain⟨bm,h1,h2⟩:=Ex.steps_take HP.o hx ak;obtain⟨ab,ao,rfl,b1,bi⟩:=HA.o (by rw[Ze,HN.o];omega);have hc:=bi k (by rw[Ze,HN.o];exact hlt);rw[Zs,hx,ZA,←(zAI ae).1 _ _ b1]at hc;have b6:=bw.o x (Zn hx);have hS:=zMB ⟨x.toArray⟩ (by show x.toArray.size<_;simp;omega) wr (bu.o.below ae);rw[show (⟨x.toArray⟩:ByteArray).data.toList=x from rfl]at hS;obtain⟨bx,bl⟩:∃bx:ByteArray,⟨x.toArray⟩=bx:=⟨_,rfl⟩;rw[bl]at hc hS;obtain⟨sx,bc⟩:∃sx:ByteArray,⟨(zBx x).toArray⟩=sx:=⟨_,rfl⟩;rw[bc]at hS;have bb:sx.data.toList=zBx x:=by rw[←bc]
 have kI:(k:Int)<n:=by omega
 have bt:ab<wr.heap.size:=by omega
 have HX:=hy' h2;have ah:=hy' ae;have bh:=hy' ag;have HH:=hy' h1;have bf:=hy' bb
 have bq:sx.size≤1000000:=by
  have h3:sx.data.toList.length=sx.size:=by simp
  have h4:(zBx x).length≤x.length:=by
   unfold zBx;exact zOb x
  rw[bb]at h3;omega
 clear bi hx h1 h2 ae bl bc ag ak bb;go_wp2_with fail;refine hS.mono ?_;rintro e w2 ⟨rfl,aj⟩;have aa:=zA4 bh.o aj (Za _);have ay:=hy' (ah.o.trans (aj.mono hz));have b2:w1.heap.size≤w2.heap.size:=Zi hz aj.size;clear aj hS;rcases zI0 HH.o with ⟨he,rfl⟩|⟨ch,hne,aq,ax,aw,rfl⟩
 · have a8:sx.toList.isEmpty=true:=by rw[YC sx,bf.o,he];rfl
   have af:=hy' aa;clear he aa;go_wp2_with fail;exact⟨⟨k+1,_,by omega,by go_num,HX.o,af.o,ay.o⟩,by simp[intOf];omega⟩
 have a8:sx.toList.isEmpty=false:=by
  rw[YC sx,bf.o];rcases hl:zBx x with _|⟨q,r⟩
  · exact absurd hl hne
  rfl
 obtain⟨Av,cv,rfl⟩:=zA2 aa;have a1:=Ex.char_any sx Av seen.length cv w2.heap.size seen ch w2 bq rfl (by omega) (Za _) (Sl.of_own aa) (by rw[bf.o];exact aq) ax aw;have af:=hy' aa;clear hne aq ax aw aa;go_wp2_with fail;refine a1.mono ?_;rintro e w3 ⟨rfl,rfl⟩;go_wp2_with (first|(at_builtin;refine zAj _ rfl _ _ _ rfl w1.heap.size 21 i0 _ 4 underlying70 hi b3 bp bz rfl _ seen.length _ rfl af.o _ rfl rfl (by simp only[maxLen];omega) (by omega) b2 ?_;intro v1 w4 ap br)|fail);exact⟨⟨k+1,_,by omega,by go_num,HX.o,by rw[Zd,ZK];exact ap,ay.o.trans br⟩,by simp[intOf];omega⟩
theorem Rw.Laid.max {w:World} (h:Rw.Laid w):Fi.LaidM w:=h.1.1
theorem zJq (u x:ByteArray) (hu:u.size≤1000000) (au:x.size≤300000) (T:List Rw.Row) (cs:List Int) (hp:Rw.parse u.data.toList=some T) (hx:Ex.parse x.data.toList=some cs) (ok:Ud.Ok T (C.chars cs)) (hbd:Md.bd T) (w:World) (hL:Rw.Laid w) :
 Calls prog 68 #[.string u,.string x] w (zIi T (C.chars cs) w):=by
 have hP:=Rw.parse_any u hu T hp w hL;have HX:=hy' (fun W (hW:Below w.heap.size w W)=>Ex.parse_any x au cs hx W (hL.next hW).max);have HO:=hy' (fun v W h=>Ud.of_any v T (C.chars cs) W h ok hbd);unfold Ex.RetParse at HX;obtain⟨S,hS⟩:∃S,C.chars cs=S:=⟨_,rfl⟩;rw[hS]at HX HO ⊢;clear hp hx ok hbd hS hu au hL;go_enter func68,ntmps68;go_wp2_with fail;refine hP.mono ?_;rintro e w1 ⟨A,c,rfl,ae,ah⟩;have aq:=HX.o w1 ah;have HT:=hy' ae.sees;have ai:=hy' ah;clear hP HX ae ah;go_wp2_with fail;refine aq.mono ?_;rintro e w2 ⟨A2,c2,rfl,aj,af⟩;have aa:Below w2.heap.size w2 (w2.alloc (.cells #[.slice A2 S.length c2] 89)):=(Zc _ _).alloc (Za _) _;have hn:=Rw.At.new w2 89 [.slice A2 S.length c2];have z0:=hn.cell 0 rfl;have ao:Md.Is (w2.alloc (.cells #[.slice A2 S.length c2] 89)) (zBs A T.length c A2 S.length c2) T S:=⟨A,c,A2,c2,rfl,(HT.o.below af).below aa,aj.sl.below aa aa.size⟩;have ag:=HO.o _ _ ao;have ak:=hy' ((ai.o.trans (af.mono ai.o.size)).trans (aa.mono (Zi ai.o.size af.size)));unfold zBs at ag;clear aq aj af aa hn ao HO;go_wp2_with fail;refine ag.mono ?_;rintro e w3 ⟨p,rfl,ar,ap⟩;have HI:=hy' ar;have av:=hy' (ak.o.trans (ap.mono ak.o.size));clear ag ar ap;go_wp2_with fail;go_ret2;exact⟨p,rfl,HI.o,av.o⟩
end
section
open Go.RowKit Go.Stop
theorem zJr {u x:Nat} {s:List UInt8} (hx:0<x) (h:Lib.decDigits u=Lib.decDigits x++s) :
 Lib.decDigits u=(if x/10=0 then [] else Lib.decDigits (x/10))++(UInt8.ofNat (48+x%10)::s):=by
 rw[h,Lib.decDigits]
 by_cases hx10:x<10
 · rw[dif_pos hx10,Zo (by omega),Xy hx10];rfl
 rw[dif_neg hx10,Zl (by omega),ZC];rfl
theorem zLn (u:Nat) (w:World) (hu:u<9223372036854775808) :
 Calls prog 159 #[.int .i64 u] w fun e w'=>e=.returned (.string ⟨(Lib.decDigits u).toArray⟩)∧Below w.heap.size w w':=by
 go_enter func159,ntmps159;go_wp2;go_loopw [0,3,4] (fun vx vs vi wr=>∃(i x:Nat) (s:List UInt8),vx=.int .i64 x∧vs=.string ⟨s.toArray⟩∧vi=.int .i64 i∧i≤64∧s.length=i∧x<2 ^ (63-i)∧((i=0∧x=u∧s=[])∨(0<i∧Lib.decDigits u=(if x=0 then [] else Lib.decDigits x)++s))∧Below w.heap.size w wr) (fun _ _ vi _=>65-(intOf vi).toNat)
 case atStart=>exact⟨0,u,[],rfl,rfl,rfl,by omega,rfl,by simpa using hu,.inl ⟨rfl,rfl,rfl⟩,Below.refl _ _⟩
 obtain⟨i,x,s,rfl,rfl,rfl,hi,aj,hx,af,ae⟩:=hrel;obtain⟨w1,rfl⟩:∃w1:World,w1=wr:=⟨_,rfl⟩;have av:=ae.size;have a1:=hy' ae;have hC:=zLl w1 (48+(x:Int)%10);rw[show (48+(x:Int)%10).toNat=48+x%10 by omega]at hC;have ai:=hy' aj;have aw:¬9223372036854775807<1+s.length:=by omega
 have aq:=hy' (ae.alloc av (.cells #[.int .u8 (48+(x:Int)%10)] 5));clear aj
 have ay:x<9223372036854775808:=by
  have:2 ^ (63-i)≤2 ^ 63:=Xh (by decide) (by omega);have e:(2:Nat) ^ 63=9223372036854775808:=by decide
  omega
 by_cases hgo:i=0∨0<x
 rotate_left
 · have ao:x=0:=by omega
   have ah:0<i:=by omega
   subst ao
   have hf:Lib.decDigits u=s:=by
    rcases af with ⟨h,_⟩|⟨_,h⟩
    · omega
    simpa using h
   have HF:=hy' hf;have hne:¬(i:Int)=0:=by omega
   clear af hf hx hgo hC;go_wp2;go_ret;exact⟨by rw[HF.o];rfl,ae⟩
 have ap:Lib.decDigits u=(if x/10=0 then [] else Lib.decDigits (x/10))++(UInt8.ofNat (48+x%10)::s):=by
  rcases af with ⟨rfl,rfl,rfl⟩|⟨h0,h⟩
  · rcases Yy x with rfl|hp
    · rw[Lib.decDigits];rfl
    exact zJr hp (by simp)
  have hp:0<x:=by omega
  rw[Zl (by omega)]at h;exact zJr hp h
 have ax:i<63:=by
  rcases hgo with rfl|hp
  · omega
  rcases ZY i 63 with h|h
  · exact h
  have:63-i=0:=by omega
  rw[this]at hx;omega
 have ar:x/10<2 ^ (63-(i+1)):=by
  have e:63-i=(63-(i+1))+1:=by omega
  rw[e,Xb]at hx;omega
 have ag:=hy' ap;have au:=hy' ar;clear ap ar hx af ae;obtain⟨dg,ak⟩:∃dg,UInt8.ofNat (48+x%10)=dg:=⟨_,rfl⟩;rw[ak]at hC ag;have aa:=hy' (zAN [dg] s);clear ak;rcases Yy i with ah|hp
 · have HI:=hy' ah;subst ah;go_wp2;refine⟨⟨1,x/10,dg::s,by go_num,by first|exact Yb Value.string aa.o|(congr 1;exact aa.o),rfl,by omega,by rw[ZE,ai.o],au.o,.inr ⟨by omega,ag.o⟩,aq.o⟩,by simp[intOf]⟩
 have hne:¬(i:Int)=0:=by omega
 have ao:0<x:=by omega
 have az:(x:Int) > 0:=by omega
 go_wp2;refine⟨⟨i+1,x/10,dg::s,by go_num,by first|exact Yb Value.string aa.o|(congr 1;exact aa.o),by go_num,by omega,by rw[ZE,ai.o],au.o,.inr ⟨by omega,ag.o⟩,aq.o⟩,by simp[intOf];omega⟩
end
section
open Go.RowKit
theorem zGD {P Q:Prop} {W w':World} {B:Nat} (h:P∧Q∧Below B W w'):Below B W w':=h.2.2
theorem zLo {W w':World} {B b1 b2 o1 o2:Nat} {v1 v2:Value} (d1:W.cell? ⟨b1,o1,none⟩=some v1) (d2:W.cell? ⟨b2,o2,none⟩=some v2) (h1:b1<B) (h2:b2<B) (h:Below B W w') :
 w'.cell? ⟨b1,o1,none⟩=some v1∧w'.cell? ⟨b2,o2,none⟩=some v2∧Below B W w':=⟨((zAI h).1 _ _ h1).trans d1,((zAI h).1 _ _ h2).trans d2,h⟩
theorem zF4 (v:Int) (h0:0≤v) (h1:v<16777216) (w:World) :
 Calls prog 98 #[.int .i64 v] w fun e w'=>e=.returned (.string ⟨(Fi.text v.toNat).toArray⟩)∧Below w.heap.size w w':=by
 obtain⟨n,rfl⟩:∃n:Nat,v=n:=⟨v.toNat,by omega⟩;rw[Y9];exact Fi.rtext_any n (by omega) w
theorem zOc (v:Int) (h0:0≤v) (h1:v<9223372036854775808) (w:World) :
 Calls prog 159 #[.int .i64 v] w fun e w'=>e=.returned (.string ⟨(Lib.decDigits v.toNat).toArray⟩)∧Below w.heap.size w w':=by
 obtain⟨n,rfl⟩:∃n:Nat,v=n:=⟨v.toNat,by omega⟩;rw[Y9];exact zLn n w (by omega)
theorem zAy (l:List UInt8):(⟨l.toArray⟩:ByteArray).size=l.length:=by show l.toArray.size=_;simp
def zB1 (m:List Int):List UInt8:=zAt 32 (m.map fun c=>Fi.text c.toNat)
theorem zGE (m:List Int) (c:Int):zB1 (m++[c])=(if m=[] then Fi.text c.toNat else zB1 m++32::Fi.text c.toNat):=by
 unfold zB1;rw[ZK,Xo,zMC];rcases m with _|⟨a,t⟩ <;> simp
theorem zF5:∀(k:Nat) (m:List Int),m.length=k→(∀c∈m,0≤c∧c<16777216)→(zB1 m).length≤7*k
 | 0,m,h,_=>by
   obtain rfl:m=[]:=List.length_eq_zero_iff.1 h;simp[zB1,zAt]
 | k+1,m,h,hc=>by
   rcases YY m with rfl|⟨t,c,aa⟩
   · simp at h
   rw[YZ]at aa;subst aa;have ih:=zF5 k t (by simpa using h) fun x hx=>hc x (by simp[hx])
   have h1:=hc c (by simp);have h2:=zBV 5 c.toNat (by rw[show (16:Nat) ^ (5+1)=16777216 from by decide];omega);have h3:=Fi.text_len c.toNat;rw[zGE];split
   · omega
   simp;omega
theorem zMN (c k:Int) (A:Option Addr) (m:List Int) (n cp B:Nat) (w:World) (c0:0≤c) (c1:c<16777216) (k0:0≤k) (k1:k<1000000000) (hn:m.length=n) (hm:n≤1000) (hmb:∀x∈m,0≤x∧x<16777216)
 (hB:B≤w.heap.size) (hA:Sl w B A (m.map (Value.int .i64))) :
 Calls prog 128 #[.agg #[.int .i64 c,.int .i64 k,.slice A n cp]] w fun e w'=>e=.returned (.string ⟨(Rw.line (c,k,m)).toArray⟩)∧Below w.heap.size w w':=by
 have hT:=zF4 c c0 c1;have hD:=zOc k k0 (by omega)
 have l1:(Fi.text c.toNat).length≤6:=by
  have h2:=zBV 5 c.toNat (by rw[show (16:Nat) ^ (5+1)=16777216 from by decide];omega);have h3:=Fi.text_len c.toNat;omega
 have l2:=zD2 9 k.toNat (by rw[show (10:Nat) ^ (9+1)=10000000000 from by decide];omega);obtain⟨tc,a1⟩:∃x:ByteArray,⟨(Fi.text c.toNat).toArray⟩=x:=⟨_,rfl⟩;obtain⟨dk,az⟩:∃x:ByteArray,⟨(Lib.decDigits k.toNat).toArray⟩=x:=⟨_,rfl⟩;have s1:tc.size≤6:=by rw[←a1,zAy];exact l1
 have s2:dk.size≤10:=by rw[←az,zAy];exact l2
 simp only[a1]at hT;simp only[az]at hD;obtain⟨mt,ap⟩:∃x:ByteArray,⟨(zB1 m).toArray⟩=x:=⟨_,rfl⟩
 have s3:mt.size≤7000:=by
  rw[←ap,zAy];have:=zF5 n m hn hmb;omega
 have ax:(((((tc++⟨#[59,88,59,59]⟩)++dk)++⟨#[59,59]⟩)++mt)++⟨#[59,59,59,59,59,59,59,59,59]⟩:ByteArray)=⟨(Rw.line (c,k,m)).toArray⟩:=by
  rw[←a1,←az,←ap,show (⟨#[59,88,59,59]⟩:ByteArray)=⟨[59,88,59,59].toArray⟩ from rfl,show (⟨#[59,59]⟩:ByteArray)=⟨[59,59].toArray⟩ from rfl,show (⟨#[59,59,59,59,59,59,59,59,59]⟩:ByteArray)=⟨[59,59,59,59,59,59,59,59,59].toArray⟩ from rfl];simp only[zAN];unfold Rw.line zB1;simp only[ZC]
 have HR:=hy' ax;have HN:=hy' hn;have bg:=hy' hmb;have bl:=hy' ap;clear ax a1 az hn hmb ap l1 l2;have aq:=Rw.At.new w 68 [.int .i64 c,.int .i64 k,.slice A n cp];obtain⟨d1,d2,d3,d4,d5,d6⟩:=aq.three;clear d4 d5 d6;go_enter func128,ntmps128;go_wp2_with fail;obtain⟨wa,ay⟩:∃wa,w.alloc (.cells #[.int .i64 c,.int .i64 k,.slice A n cp] 68)=wa:=⟨_,rfl⟩;have a8:w.heap.size<wa.heap.size:=by rw[←ay];simp
 have ag:Below w.heap.size w wa:=by rw[←ay];exact (Zc _ _).alloc (Za _) _
 have ak:Rw.At wa w.heap.size 68 [.int .i64 c,.int .i64 k,.slice A n cp]:=by rw[←ay];exact aq
 clear d1 d2 d3;rw[ay];have HA:=hy' (hA.below (ag.mono hB) (Z8 (Nat.lt_of_le_of_lt hB a8)));have bn:=hy' ag;clear ay aq hA ag;go_loopw [3,4,5,9] (fun v3 _ _ i wr=>∃j:Nat,j≤n∧i=.int .i64 j∧v3=.string ⟨(zB1 (m.take j)).toArray⟩∧Below wa.heap.size wa wr) (fun _ _ _ i _=>n-(intOf i).toNat)
 case atStart=>exact⟨0,ZG _,rfl,rfl,Zc _ _⟩
 obtain⟨j,hj,rfl,rfl,af⟩:=hrel
 by_cases hlt:j<n
 · obtain⟨x,hx⟩:∃x,m[j]?=some x:=⟨_,Zb (by rw[HN.o];exact hlt)⟩;have hxb:=bg.o x (Zn hx);obtain⟨ab,ao,rfl,bp,bc⟩:=HA.o (by rw[Ze,HN.o];omega);have hc:=bc j (by rw[Ze,HN.o];exact hlt);rw[Zs,hx,ZA,←(zAI af).1 _ _ bp]at hc;have hX:=zF4 x hxb.1 hxb.2
   have bk:(⟨(zB1 (m.take j)).toArray⟩:ByteArray).size≤7000:=by
    rw[zAy];have:=zF5 (m.take j).length (m.take j) rfl (fun y hy=>bg.o y (Z5 hy));have:(m.take j).length≤j:=Xu _ _;omega
   have bo:(⟨(Fi.text x.toNat).toArray⟩:ByteArray).size≤6:=by
    rw[zAy];have h2:=zBV 5 x.toNat (by rw[show (16:Nat) ^ (5+1)=16777216 from by decide];omega);have h3:=Fi.text_len x.toNat;omega
   have aj:m.take (j+1)=m.take j++[x]:=by rw[ZB,hx];rfl
   have aa:m.take j=[]↔j=0:=by
    constructor
    · intro h;have:=Yb List.length h;rw[Zq,HN.o,Z2]at this;omega
    rintro rfl;rfl
   obtain⟨ms,ba⟩:∃y:ByteArray,⟨(zB1 (m.take j)).toArray⟩=y:=⟨_,rfl⟩;obtain⟨tx,ah⟩:∃y:ByteArray,⟨(Fi.text x.toNat).toArray⟩=y:=⟨_,rfl⟩
   have av:(if j=0 then ms++tx else ms++⟨#[32]⟩++tx)=⟨(zB1 (m.take (j+1))).toArray⟩:=by
    rw[aj,zGE,←ba,←ah]
    by_cases h0:j=0
    · rw[Zo h0,Zo (aa.2 h0),aa.2 h0];simp[zB1,zAt,zAN]
    rw[Zl h0,Zl (fun h=>h0 (aa.1 h)),show (⟨#[32]⟩:ByteArray)=⟨[32].toArray⟩ from rfl];simp only[zAN];simp
   rw[ba]at bk ⊢;rw[ah]at bo;simp only[ah]at hX;have ai:=hy' av;have ae:=hy' af;have bf:¬9223372036854775807<ms.size+tx.size:=by omega
   have bi:¬9223372036854775807<ms.size+(⟨#[32]⟩:ByteArray).size:=by have:(⟨#[32]⟩:ByteArray).size=1:=rfl;omega
   have bh:¬9223372036854775807<(ms++⟨#[32]⟩).size+tx.size:=by
    have:(⟨#[32]⟩:ByteArray).size=1:=rfl;rw[ZV];omega
   have a7:(j:Int)<n:=by omega
   clear aj aa ba ah av af hx bc
   by_cases h0:j=0
   · subst h0;rw[Zo rfl]at ai;rw[YV]at hc;go_wp2_with fail;refine (hX _).mono ?_;rintro e w3 ⟨rfl,aw⟩;have a6:=hy' aw;clear aw;go_wp2_with fail;exact⟨⟨1,by omega,rfl,by rw[ai.o],ae.o.trans (a6.o.mono ae.o.size)⟩,by simp[intOf];omega⟩
   rw[Zl h0]at ai;have h1:(0:Int)<(j:Int):=by omega
   go_wp2_with fail;refine (hX _).mono ?_;rintro e w3 ⟨rfl,aw⟩;have a6:=hy' aw;clear aw;go_wp2_with fail;exact⟨⟨j+1,by omega,by go_num,by rw[ai.o],ae.o.trans (a6.o.mono ae.o.size)⟩,by simp[intOf];omega⟩
 obtain rfl:j=n:=by omega
 have a7:¬(j:Int)<j:=by omega
 have ap:(⟨(zB1 (m.take j)).toArray⟩:ByteArray)=mt:=by rw[Zm (by rw[HN.o];exact Za _)];exact bl.o
 rw[ap];obtain⟨d1,d2,d3,_,_,_⟩:=(ak.below af).three;have ar:w.heap.size<wr.heap.size:=Zg a8 af.size;have ae:=hy' af;clear ap af ak d3;have bx:¬9223372036854775807<tc.size+(⟨#[59,88,59,59]⟩:ByteArray).size:=by have:(⟨#[59,88,59,59]⟩:ByteArray).size=4:=rfl;omega
 have bt:¬9223372036854775807<(tc++(⟨#[59,88,59,59]⟩:ByteArray)).size+dk.size:=by
  have:(⟨#[59,88,59,59]⟩:ByteArray).size=4:=rfl;rw[ZV];omega
 have b2:¬9223372036854775807<(tc++(⟨#[59,88,59,59]⟩:ByteArray)++dk).size+(⟨#[59,59]⟩:ByteArray).size:=by
  have:(⟨#[59,88,59,59]⟩:ByteArray).size=4:=rfl;have:(⟨#[59,59]⟩:ByteArray).size=2:=rfl;simp only[ZV];omega
 have bs:¬9223372036854775807<(tc++(⟨#[59,88,59,59]⟩:ByteArray)++dk++(⟨#[59,59]⟩:ByteArray)).size+mt.size:=by
  have:(⟨#[59,88,59,59]⟩:ByteArray).size=4:=rfl;have:(⟨#[59,59]⟩:ByteArray).size=2:=rfl;simp only[ZV];omega
 have bz:¬9223372036854775807<(tc++(⟨#[59,88,59,59]⟩:ByteArray)++dk++(⟨#[59,59]⟩:ByteArray)++mt).size+(⟨#[59,59,59,59,59,59,59,59,59]⟩:ByteArray).size:=by
  have:(⟨#[59,88,59,59]⟩:ByteArray).size=4:=rfl;have:(⟨#[59,59]⟩:ByteArray).size=2:=rfl;have:(⟨#[59,59,59,59,59,59,59,59,59]⟩:ByteArray).size=9:=rfl;simp only[ZV];omega
 have b1:¬9223372036854775807<tc.size+4:=by omega
 have bu:¬9223372036854775807<tc.size+4+dk.size:=by omega
 have bw:¬9223372036854775807<tc.size+4+dk.size+2:=by omega
 have bq:¬9223372036854775807<tc.size+4+dk.size+2+mt.size:=by omega
 have br:¬9223372036854775807<tc.size+4+dk.size+2+mt.size+9:=by omega
 have bj:Below wr.heap.size wr wr:=Zc _ _;go_wp2_with fail
 go_region_held3 (fun w'=>w'.cell? ⟨w.heap.size,0,none⟩=some (.int .i64 c)∧w'.cell? ⟨w.heap.size,1,none⟩=some (.int .i64 k)∧Below wr.heap.size wr w')
  (first
    | exact zLo d1 d2 ar ar bj
    | exact zLo d1 d2 ar ar bj.drew
    | exact zLo d1 d2 ar ar au
    | fail)
  (first
    | (go_at_call 98;refine (hT _).mono ?_;rintro e wq ⟨rfl,bb⟩;have au:=(zGD (W:=wr) (by assumption)).trans (bb.mono (zGD (W:=wr) (by assumption)).size))
    | (go_at_call 159;refine (hD _).mono ?_;rintro e wq ⟨rfl,bb⟩;have au:=(zGD (W:=wr) (by assumption)).trans (bb.mono (zGD (W:=wr) (by assumption)).size))
    | fail)
 all_goals
  have bm:=hy' (zGD (W:=wr) (by assumption));go_wp2_with fail;go_ret;exact⟨by rw[←HR.o];rfl,bn.o.trans ((ae.o.trans (bm.out.mono ae.o.size)).mono (Z8 a8))⟩
end
end Go.Proofs.YtddbccflcekdpaaGreatDoor
