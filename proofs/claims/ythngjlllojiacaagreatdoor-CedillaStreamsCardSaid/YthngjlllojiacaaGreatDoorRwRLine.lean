/- The layer excl: char, Parse, by walking their texts. -/
import Derived.Test.YthngjlllojiacaaGreatDoorExPlain
import Derived.Test.YthngjlllojiacaaGreatDoorUdOf
set_option maxRecDepth 100000
set_option maxHeartbeats 4000000
set_option linter.unusedVariables false
set_option linter.unusedSimpArgs false
namespace Go.Proofs.YthngjlllojiacaaGreatDoor
open Go.Proofs.Tryz
section
open Go.RowKit
theorem zMh (A:Option Addr) (n cp B:Nat) (l:List Int) (c:Int) (w:World) (hn:l.length=n) (hN:n≤1000000) (hB:B≤w.heap.size) (hA:Sl w B A (l.map (Value.int .i32))) (hc:c∉l) :
 Calls prog 167 #[.slice A n cp,.int .i32 c] w fun e w'=>e=.returned (.int .i64 (-1))∧w'=w:=by
 have HN:=hy' hn;have HC:=hy' hc;clear hn hc;go_enter func167,ntmps167;go_wp2_with fail;go_loop [5,8] (fun _ i=>∃k:Nat,k≤n∧i=.int .i64 k) (fun _ i=>n-(intOf i).toNat)
 case atStart=>exact⟨0,ZG _,rfl⟩
 obtain⟨k,hk,rfl⟩:=hrel
 by_cases hlt:k<n
 · obtain⟨x,hx⟩:∃x,l[k]?=some x:=⟨_,Zb (by rw[HN.o];exact hlt)⟩;obtain⟨b,o,rfl,hb,hcell⟩:=hA (by rw[Ze,HN.o];omega);have h1:=hcell k (by rw[Ze,HN.o];exact hlt);rw[Zw,hx,Zx]at h1
   have hne:(c == x)=false:=by
    have:c≠x:=fun e=>HC.o (by rw[e];exact Zk hx)
    simpa using this
   have kI:(k:Int)<n:=by omega
   have k0:(0:Int)≤(k:Int):=by omega
   clear hcell hx;go_wp2_with fail;exact⟨⟨k+1,by omega,by go_num⟩,by simp[intOf];omega⟩
 obtain rfl:k=n:=by omega
 have kI:¬(k:Int)<k:=by omega
 go_wp2_with fail;go_ret;exact⟨rfl,rfl⟩
theorem zIU (A:Option Addr) (n cp B:Nat) (l:List Int) (c:Int) (w:World) (hn:l.length=n) (hN:n≤1000000) (hB:B≤w.heap.size) (hA:Sl w B A (l.map (Value.int .i32))) (hc:c∉l) :
 Calls prog 127 #[.slice A n cp,.int .i32 c] w fun e w'=>e=.returned (.bool false)∧w'=w:=by
 have h:=zMh A n cp B l c w hn hN hB hA hc;clear hn hc hA;go_enter func127,ntmps127;go_wp2_with fail;refine h.mono ?_;rintro e w1 ⟨rfl,rfl⟩;go_wp2_with fail;go_ret;exact⟨rfl,rfl⟩
theorem Ex.char_any (s:ByteArray) (A:Option Addr) (n cp B:Nat) (l:List Int) (c:Int) (w:World) (hs:s.size≤1000000) (hn:l.length=n) (hN:n≤1000000) (hB:B≤w.heap.size) (hA:Sl w B A (l.map (Value.int .i32)))
 (hx:zAE s.data.toList=some c) (hi:C.isC c=true) (hc:c∉l) :
 Calls prog 87 #[.string s,.slice A n cp] w fun e w'=>e=.returned (.tuple #[.int .i32 c,.string ⟨#[]⟩])∧w'=w:=by
 have h1:∀W:World,Calls prog 126 #[.string s] W fun e w'=>e=.returned (.tuple #[.int .i32 c,.bool true])∧w'=W:=fun W=>(zFf s W).mono fun e w' h=>⟨by
  have:=h.1;unfold zB8 at this;rw[this,hx];rfl,h.2⟩
 have h2:=zBq c;rw[hi]at h2;have h3:=fun (W:World) (e:W=w)=>zIU A n cp B l c W hn hN (by rw[e];exact hB) (by rw[e];exact hA) hc
 clear hx hi hc hA hn;go_enter func87,ntmps87;go_wp2_with fail;refine (h1 _).mono ?_;rintro e w1 ⟨rfl,rfl⟩;go_wp2_with fail;refine (h2 _).mono ?_;rintro e w1 ⟨rfl,rfl⟩;go_wp2_with fail;refine (h3 _ rfl).mono ?_;rintro e w1 ⟨rfl,rfl⟩;go_wp2_with fail;go_ret2;exact⟨rfl,rfl⟩
theorem zGX (c:UInt8):∀l:List UInt8,(l.dropWhile (· == c)).length≤l.length
 | []=>Za _
 | b::l=>by
   rw[Yy];split
   · have:=zGX c l;simp;omega
   exact Za _
theorem zNE (x:List UInt8):(Lib.trimB (Lib.cut x [35]).1 32).length≤x.length:=by
 have h1:(Lib.cut x [35]).1.length≤x.length:=by unfold Lib.cut;split <;> simp <;> omega
 rw[zEM];unfold Lib.trimRightB Lib.trimLeftB;rw[JB];have h2:=zGX 32 ((Lib.cut x [35]).1.dropWhile (· == 32)).reverse;have h3:=zGX 32 (Lib.cut x [35]).1;rw[JB]at h2;omega
def Ex.RetParse (cs:List Int) (w:World) (e:Ending) (w':World):Prop :=
 ∃A c,e=.returned (.tuple #[.agg #[.slice A (C.chars cs).length c],.nilIface])∧Slt w' 21 A ((C.chars cs).map (Value.int .i32))∧Below w.heap.size w w'
theorem Ex.parse_any (s:ByteArray) (hs:s.size≤300000) (cs:List Int) (hp:Ex.parse s.data.toList=some cs) (w:World) (hL:Fi.LaidM w) :
 Calls prog 51 #[.string s] w (Ex.RetParse cs w):=by
 unfold Ex.parse at hp;split at hp
 case isFalse=>cases hp
 rename_i h0;obtain⟨az,ax⟩:=h0;have aq:=zHu s (by omega) az
 have hl:∀x∈zAM [] s.data.toList,x.length≤1000:=fun x hx=>by
  rw[Yf]at az;have:=az x hx;unfold zC8 at this;rw[Zs,Zm]at this;exact this.1
 obtain⟨L,bj⟩:∃L,zAM [] s.data.toList=L:=⟨_,rfl⟩;rw[bj]at hp aq ax hl;obtain⟨n,hn⟩:∃n,L.length=n:=⟨_,rfl⟩;have HP:=hy' hp;have bo:=hy' hl;have HN:=hy' hn;obtain⟨i0,hi,b1,b4,bp⟩:=Z7 zCl;rw[hn]at ax;unfold zIO at aq;rw[hn]at aq;clear az hp bj hl hn;go_enter func51,ntmps51;go_wp2_with fail;refine (aq _).mono ?_;rintro e w1 ⟨A,c,rfl,hA,a8⟩;have ba:Below w.heap.size w w1:=((Zc _ _).alloc (Za _) _).trans (a8.mono (by simp));have bs:Rw.At w1 w.heap.size 96 [.slice none 0 0]:=(Rw.At.new w 96 [.slice none 0 0]).below a8;have b2:=hy' (hL.below ba);have HA:=hy' hA;have bn:=hy' ba;clear hA a8 hL aq ba;go_wp2_with fail
 go_loopw [6,7,8,9,10,22] (fun v _ _ _ _ i wr=>∃(k:Nat) (seen:List Int),k≤n∧i=.int .i64 k∧Ex.steps [] (L.take k)=some seen∧wr.ownsRow w1.heap.size 21 1 v seen.length (seen.map (Value.int .i32))∧Below w1.heap.size w1 wr)
  (fun _ _ _ _ _ i _=>n-(intOf i).toNat)
 case atStart=>exact⟨0,[],ZG _,rfl,rfl,ZI _ _ _ _,Zc _ _⟩
 obtain⟨k,seen,hk,rfl,ak,ag,ae⟩:=hrel;have hz:=ae.size;have bu:=Ex.steps_len _ ak;simp only[Z0,Z1]at bu;have b5:(L.take k).length≤k:=Xs _ _
 by_cases hlt:k<n
 rotate_left
 · obtain rfl:k=n:=by omega
   have kI:¬(k:Int)<k:=by omega
   have a6:seen=cs:=by
    rw[Zi (by rw[HN.o];exact Za _),HP.o,Zg]at ak;exact ak.symm
   subst a6;obtain⟨Av,cv,rfl⟩:=zA3 ag;have ay:=zD2 Av seen.length cv wr.heap.size seen wr rfl (by omega) (Za _) (Sl.of_own ag);have av:=bs.below ae;have ai:=hy' (bn.o.trans (ae.mono bn.o.size));clear ak ag ae;go_wp2_with fail;refine ay.mono ?_;rintro e w2 ⟨A2,c2,rfl,aa,aj⟩;have ah:=av.below aj;have z0:=ah.cell 0 rfl;have g0:=ah.frozen 0;have bm:=Slt.of_own aa;have a1:=hy' (ai.o.trans (aj.mono ai.o.size));have bq:=hy' bm;clear bm aa aj ay av;go_wp2_with fail;have bf:=ah.set 0 (.slice A2 (C.chars seen).length c2);refine YF (zE0 rfl _ _ w.heap.size _ _ _ _ rfl bf underlying96 rfl (by kernel_rfl)) rfl ⟨A2,c2,rfl,?_,?_⟩
   · exact bq.o.setAt ah (by decide) 0 _
   exact a1.o.setCell (p:=⟨w.heap.size,0,none⟩) (Za _) _
 obtain⟨x,hx⟩:∃x,L[k]?=some x:=⟨_,Zb (by rw[HN.o];exact hlt)⟩;obtain⟨bk,h1,h2⟩:=Ex.steps_take HP.o hx ak;obtain⟨ab,ao,rfl,br,bi⟩:=HA.o (by rw[Ze,HN.o];omega);have hc:=bi k (by rw[Ze,HN.o];exact hlt);rw[Zw,hx,Zx,←(zAP ae).1 _ _ br]at hc;have b6:=bo.o x (Zk hx);have hS:=zM5 ⟨x.toArray⟩ (by show x.toArray.size<_;simp;omega) wr (b2.o.below ae);rw[show (⟨x.toArray⟩:ByteArray).data.toList=x from rfl]at hS;obtain⟨bx,bl⟩:∃bx:ByteArray,⟨x.toArray⟩=bx:=⟨_,rfl⟩;rw[bl]at hc hS;obtain⟨sx,bc⟩:∃sx:ByteArray,⟨(zBu x).toArray⟩=sx:=⟨_,rfl⟩;rw[bc]at hS;have a7:sx.data.toList=zBu x:=by rw[←bc]
 have kI:(k:Int)<n:=by omega
 have bw:ab<wr.heap.size:=by omega
 have HX:=hy' h2;have ai:=hy' ae;have bh:=hy' ag;have HH:=hy' h1;have bb:=hy' a7
 have bz:sx.size≤1000000:=by
  have h3:sx.data.toList.length=sx.size:=by simp
  have h4:(zBu x).length≤x.length:=by
   unfold zBu;exact zNE x
  rw[a7]at h3;omega
 clear bi hx h1 h2 ae bl bc ag ak a7;go_wp2_with fail;refine hS.mono ?_;rintro e w2 ⟨rfl,aj⟩;have aa:=zA4 bh.o aj (Za _);have a1:=hy' (ai.o.trans (aj.mono hz));have b3:w1.heap.size≤w2.heap.size:=Zh hz aj.size;clear aj hS;rcases zHx HH.o with ⟨he,rfl⟩|⟨ch,hne,au,ap,ar,rfl⟩
 · have bg:sx.toList.isEmpty=true:=by rw[Yx sx,bb.o,he];rfl
   have af:=hy' aa;clear he aa;go_wp2_with fail;exact⟨⟨k+1,_,by omega,by go_num,HX.o,af.o,a1.o⟩,by simp[intOf];omega⟩
 have bg:sx.toList.isEmpty=false:=by
  rw[Yx sx,bb.o];rcases hl:zBu x with _|⟨q,r⟩
  · exact absurd hl hne
  rfl
 obtain⟨Av,cv,rfl⟩:=zA3 aa;have ay:=Ex.char_any sx Av seen.length cv w2.heap.size seen ch w2 bz rfl (by omega) (Za _) (Sl.of_own aa) (by rw[bb.o];exact au) ap ar;have af:=hy' aa;clear hne au ap ar aa;go_wp2_with fail;refine ay.mono ?_;rintro e w3 ⟨rfl,rfl⟩;go_wp2_with (first|(at_builtin;refine zAi _ rfl _ _ _ rfl w1.heap.size 21 i0 _ 4 underlying80 hi b1 b4 bp rfl _ seen.length _ rfl af.o _ rfl rfl (by simp only[maxLen];omega) (by omega) b3 ?_;intro v1 w4 aw bt)|fail);exact⟨⟨k+1,_,by omega,by go_num,HX.o,by rw[Zd,ZO];exact aw,a1.o.trans bt⟩,by simp[intOf];omega⟩
theorem Rw.Laid.max {w:World} (h:Rw.Laid w):Fi.LaidM w:=h.1.1
theorem zIV (u x:ByteArray) (hu:u.size≤1000000) (ap:x.size≤300000) (T:List Rw.Row) (cs:List Int) (hp:Rw.parse u.data.toList=some T) (hx:Ex.parse x.data.toList=some cs) (ok:Ud.Ok T (C.chars cs)) (hbd:Md.bd T) (w:World) (hL:Rw.Laid w) :
 Calls prog 26 #[.string u,.string x] w (zHR T (C.chars cs) w):=by
 have hP:=Rw.parse_any u hu T hp w hL;have HX:=hy' (fun W (hW:Below w.heap.size w W)=>Ex.parse_any x ap cs hx W (hL.next hW).max);have HO:=hy' (fun v W h=>Ud.of_any v T (C.chars cs) W h ok hbd);unfold Ex.RetParse at HX;obtain⟨S,hS⟩:∃S,C.chars cs=S:=⟨_,rfl⟩;rw[hS]at HX HO ⊢;clear hp hx ok hbd hS hu ap hL;go_enter func26,ntmps26;go_wp2_with fail;refine hP.mono ?_;rintro e w1 ⟨A,c,rfl,ae,ai⟩;have au:=HX.o w1 ai;have HT:=hy' ae.sees;have ag:=hy' ai;clear hP HX ae ai;go_wp2_with fail;refine au.mono ?_;rintro e w2 ⟨A2,c2,rfl,ar,af⟩;have aa:Below w2.heap.size w2 (w2.alloc (.cells #[.slice A2 S.length c2] 96)):=(Zc _ _).alloc (Za _) _;have hn:=Rw.At.new w2 96 [.slice A2 S.length c2];have z0:=hn.cell 0 rfl;have ak:Md.Is (w2.alloc (.cells #[.slice A2 S.length c2] 96)) (zBd A T.length c A2 S.length c2) T S:=⟨A,c,A2,c2,rfl,(HT.o.below af).below aa,ar.sl.below aa aa.size⟩;have ah:=HO.o _ _ ak;have aq:=hy' ((ag.o.trans (af.mono ag.o.size)).trans (aa.mono (Zh ag.o.size af.size)));unfold zBd at ah;clear au ar af aa hn ak HO;go_wp2_with fail;refine ah.mono ?_;rintro e w3 ⟨p,rfl,aj,ao⟩;have HI:=hy' aj;have av:=hy' (aq.o.trans (ao.mono aq.o.size));clear ah aj ao;go_wp2_with fail;go_ret2;exact⟨p,rfl,HI.o,av.o⟩
end
section
open Go.RowKit Go.Stop
theorem zIW {u x:Nat} {s:List UInt8} (hx:0<x) (h:Lib.decDigits u=Lib.decDigits x++s) :
 Lib.decDigits u=(if x/10=0 then [] else Lib.decDigits (x/10))++(UInt8.ofNat (48+x%10)::s):=by
 rw[h,Lib.decDigits]
 by_cases hx10:x<10
 · rw[dif_pos hx10,Zl (by omega),Xv hx10];rfl
 rw[dif_neg hx10,Zj (by omega),Zz];rfl
theorem zKT (u:Nat) (w:World) (hu:u<9223372036854775808) :
 Calls prog 191 #[.int .i64 u] w fun e w'=>e=.returned (.string ⟨(Lib.decDigits u).toArray⟩)∧Below w.heap.size w w':=by
 go_enter func191,ntmps191;go_wp2;go_loopw [0,3,4] (fun vx vs vi wr=>∃(i x:Nat) (s:List UInt8),vx=.int .i64 x∧vs=.string ⟨s.toArray⟩∧vi=.int .i64 i∧i≤64∧s.length=i∧x<2 ^ (63-i)∧((i=0∧x=u∧s=[])∨(0<i∧Lib.decDigits u=(if x=0 then [] else Lib.decDigits x)++s))∧Below w.heap.size w wr) (fun _ _ vi _=>65-(intOf vi).toNat)
 case atStart=>exact⟨0,u,[],rfl,rfl,rfl,by omega,rfl,by simpa using hu,.inl ⟨rfl,rfl,rfl⟩,Below.refl _ _⟩
 obtain⟨i,x,s,rfl,rfl,rfl,hi,aq,hx,af,ae⟩:=hrel;obtain⟨w1,rfl⟩:∃w1:World,w1=wr:=⟨_,rfl⟩;have ax:=ae.size;have az:=hy' ae;have hC:=zKR w1 (48+(x:Int)%10);rw[show (48+(x:Int)%10).toNat=48+x%10 by omega]at hC;have aj:=hy' aq;have av:¬9223372036854775807<1+s.length:=by omega
 have ap:=hy' (ae.alloc ax (.cells #[.int .u8 (48+(x:Int)%10)] 5));clear aq
 have ay:x<9223372036854775808:=by
  have:2 ^ (63-i)≤2 ^ 63:=Xg (by decide) (by omega);have e:(2:Nat) ^ 63=9223372036854775808:=by decide
  omega
 by_cases hgo:i=0∨0<x
 rotate_left
 · have ao:x=0:=by omega
   have ag:0<i:=by omega
   subst ao
   have hf:Lib.decDigits u=s:=by
    rcases af with ⟨h,_⟩|⟨_,h⟩
    · omega
    simpa using h
   have HF:=hy' hf;have hne:¬(i:Int)=0:=by omega
   clear af hf hx hgo hC;go_wp2;go_ret;exact⟨by rw[HF.o];rfl,ae⟩
 have ai:Lib.decDigits u=(if x/10=0 then [] else Lib.decDigits (x/10))++(UInt8.ofNat (48+x%10)::s):=by
  rcases af with ⟨rfl,rfl,rfl⟩|⟨h0,h⟩
  · rcases YP x with rfl|hp
    · rw[Lib.decDigits];rfl
    exact zIW hp (by simp)
  have hp:0<x:=by omega
  rw[Zj (by omega)]at h;exact zIW hp h
 have aw:i<63:=by
  rcases hgo with rfl|hp
  · omega
  rcases ZZ i 63 with h|h
  · exact h
  have:63-i=0:=by omega
  rw[this]at hx;omega
 have ar:x/10<2 ^ (63-(i+1)):=by
  have e:63-i=(63-(i+1))+1:=by omega
  rw[e,Xa]at hx;omega
 have ah:=hy' ai;have au:=hy' ar;clear ai ar hx af ae;obtain⟨dg,ak⟩:∃dg,UInt8.ofNat (48+x%10)=dg:=⟨_,rfl⟩;rw[ak]at hC ah;have aa:=hy' (zAI [dg] s);clear ak;rcases YP i with ag|hp
 · have HI:=hy' ag;subst ag;go_wp2;refine⟨⟨1,x/10,dg::s,by go_num,by first|exact ZT Value.string aa.o|(congr 1;exact aa.o),rfl,by omega,by rw[ZF,aj.o],au.o,.inr ⟨by omega,ah.o⟩,ap.o⟩,by simp[intOf]⟩
 have hne:¬(i:Int)=0:=by omega
 have ao:0<x:=by omega
 have a1:(x:Int) > 0:=by omega
 go_wp2;refine⟨⟨i+1,x/10,dg::s,by go_num,by first|exact ZT Value.string aa.o|(congr 1;exact aa.o),by go_num,by omega,by rw[ZF,aj.o],au.o,.inr ⟨by omega,ah.o⟩,ap.o⟩,by simp[intOf];omega⟩
end
section
open Go.RowKit
theorem zGl {P Q:Prop} {W w':World} {B:Nat} (h:P∧Q∧Below B W w'):Below B W w':=h.2.2
theorem zKU {W w':World} {B b1 b2 o1 o2:Nat} {v1 v2:Value} (d1:W.cell? ⟨b1,o1,none⟩=some v1) (d2:W.cell? ⟨b2,o2,none⟩=some v2) (h1:b1<B) (h2:b2<B) (h:Below B W w') :
 w'.cell? ⟨b1,o1,none⟩=some v1∧w'.cell? ⟨b2,o2,none⟩=some v2∧Below B W w':=⟨((zAP h).1 _ _ h1).trans d1,((zAP h).1 _ _ h2).trans d2,h⟩
theorem zEQ (v:Int) (h0:0≤v) (h1:v<16777216) (w:World) :
 Calls prog 105 #[.int .i64 v] w fun e w'=>e=.returned (.string ⟨(Fi.text v.toNat).toArray⟩)∧Below w.heap.size w w':=by
 obtain⟨n,rfl⟩:∃n:Nat,v=n:=⟨v.toNat,by omega⟩;rw[Y8];exact Fi.rtext_any n (by omega) w
theorem zNF (v:Int) (h0:0≤v) (h1:v<9223372036854775808) (w:World) :
 Calls prog 191 #[.int .i64 v] w fun e w'=>e=.returned (.string ⟨(Lib.decDigits v.toNat).toArray⟩)∧Below w.heap.size w w':=by
 obtain⟨n,rfl⟩:∃n:Nat,v=n:=⟨v.toNat,by omega⟩;rw[Y8];exact zKT n w (by omega)
theorem zAv (l:List UInt8):(⟨l.toArray⟩:ByteArray).size=l.length:=by show l.toArray.size=_;simp
def zAW (m:List Int):List UInt8:=zAr 32 (m.map fun c=>Fi.text c.toNat)
theorem zGm (m:List Int) (c:Int):zAW (m++[c])=(if m=[] then Fi.text c.toNat else zAW m++32::Fi.text c.toNat):=by
 unfold zAW;rw[ZO,XC,zM6];rcases m with _|⟨a,t⟩ <;> simp
theorem zER:∀(k:Nat) (m:List Int),m.length=k→(∀c∈m,0≤c∧c<16777216)→(zAW m).length≤7*k
 | 0,m,h,_=>by
   obtain rfl:m=[]:=List.length_eq_zero_iff.1 h;simp[zAW,zAr]
 | k+1,m,h,hc=>by
   rcases YZ m with rfl|⟨t,c,aa⟩
   · simp at h
   rw[Y0]at aa;subst aa;have ih:=zER k t (by simpa using h) fun x hx=>hc x (by simp[hx])
   have h1:=hc c (by simp);have h2:=zBQ 5 c.toNat (by rw[show (16:Nat) ^ (5+1)=16777216 from by decide];omega);have h3:=Fi.text_len c.toNat;rw[zGm];split
   · omega
   simp;omega
theorem zMi (c k:Int) (A:Option Addr) (m:List Int) (n cp B:Nat) (w:World) (c0:0≤c) (c1:c<16777216) (k0:0≤k) (k1:k<1000000000) (hn:m.length=n) (hm:n≤1000) (hmb:∀x∈m,0≤x∧x<16777216)
 (hB:B≤w.heap.size) (hA:Sl w B A (m.map (Value.int .i64))) :
 Calls prog 144 #[.agg #[.int .i64 c,.int .i64 k,.slice A n cp]] w fun e w'=>e=.returned (.string ⟨(Rw.line (c,k,m)).toArray⟩)∧Below w.heap.size w w':=by
 have hT:=zEQ c c0 c1;have hD:=zNF k k0 (by omega)
 have l1:(Fi.text c.toNat).length≤6:=by
  have h2:=zBQ 5 c.toNat (by rw[show (16:Nat) ^ (5+1)=16777216 from by decide];omega);have h3:=Fi.text_len c.toNat;omega
 have l2:=zCQ 9 k.toNat (by rw[show (10:Nat) ^ (9+1)=10000000000 from by decide];omega);obtain⟨tc,a1⟩:∃x:ByteArray,⟨(Fi.text c.toNat).toArray⟩=x:=⟨_,rfl⟩;obtain⟨dk,az⟩:∃x:ByteArray,⟨(Lib.decDigits k.toNat).toArray⟩=x:=⟨_,rfl⟩;have s1:tc.size≤6:=by rw[←a1,zAv];exact l1
 have s2:dk.size≤10:=by rw[←az,zAv];exact l2
 simp only[a1]at hT;simp only[az]at hD;obtain⟨mt,ap⟩:∃x:ByteArray,⟨(zAW m).toArray⟩=x:=⟨_,rfl⟩
 have s3:mt.size≤7000:=by
  rw[←ap,zAv];have:=zER n m hn hmb;omega
 have aw:(((((tc++⟨#[59,88,59,59]⟩)++dk)++⟨#[59,59]⟩)++mt)++⟨#[59,59,59,59,59,59,59,59,59]⟩:ByteArray)=⟨(Rw.line (c,k,m)).toArray⟩:=by
  rw[←a1,←az,←ap,show (⟨#[59,88,59,59]⟩:ByteArray)=⟨[59,88,59,59].toArray⟩ from rfl,show (⟨#[59,59]⟩:ByteArray)=⟨[59,59].toArray⟩ from rfl,show (⟨#[59,59,59,59,59,59,59,59,59]⟩:ByteArray)=⟨[59,59,59,59,59,59,59,59,59].toArray⟩ from rfl];simp only[zAI];unfold Rw.line zAW;simp only[Zz]
 have HR:=hy' aw;have HN:=hy' hn;have bh:=hy' hmb;have bm:=hy' ap;clear aw a1 az hn hmb ap l1 l2;have aq:=Rw.At.new w 74 [.int .i64 c,.int .i64 k,.slice A n cp];obtain⟨d1,d2,d3,d4,d5,d6⟩:=aq.three;clear d4 d5 d6;go_enter func144,ntmps144;go_wp2_with fail;obtain⟨wa,ay⟩:∃wa,w.alloc (.cells #[.int .i64 c,.int .i64 k,.slice A n cp] 74)=wa:=⟨_,rfl⟩;have a7:w.heap.size<wa.heap.size:=by rw[←ay];simp
 have ag:Below w.heap.size w wa:=by rw[←ay];exact (Zc _ _).alloc (Za _) _
 have aj:Rw.At wa w.heap.size 74 [.int .i64 c,.int .i64 k,.slice A n cp]:=by rw[←ay];exact aq
 clear d1 d2 d3;rw[ay];have HA:=hy' (hA.below (ag.mono hB) (Z4 (Nat.lt_of_le_of_lt hB a7)));have bl:=hy' ag;clear ay aq hA ag;go_loopw [3,4,5,9] (fun v3 _ _ i wr=>∃j:Nat,j≤n∧i=.int .i64 j∧v3=.string ⟨(zAW (m.take j)).toArray⟩∧Below wa.heap.size wa wr) (fun _ _ _ i _=>n-(intOf i).toNat)
 case atStart=>exact⟨0,ZG _,rfl,rfl,Zc _ _⟩
 obtain⟨j,hj,rfl,rfl,af⟩:=hrel
 by_cases hlt:j<n
 · obtain⟨x,hx⟩:∃x,m[j]?=some x:=⟨_,Zb (by rw[HN.o];exact hlt)⟩;have hxb:=bh.o x (Zk hx);obtain⟨ab,ao,rfl,bk,bf⟩:=HA.o (by rw[Ze,HN.o];omega);have hc:=bf j (by rw[Ze,HN.o];exact hlt);rw[Zw,hx,Zx,←(zAP af).1 _ _ bk]at hc;have hX:=zEQ x hxb.1 hxb.2
   have bn:(⟨(zAW (m.take j)).toArray⟩:ByteArray).size≤7000:=by
    rw[zAv];have:=zER (m.take j).length (m.take j) rfl (fun y hy=>bh.o y (Yd hy));have:(m.take j).length≤j:=Xs _ _;omega
   have bp:(⟨(Fi.text x.toNat).toArray⟩:ByteArray).size≤6:=by
    rw[zAv];have h2:=zBQ 5 x.toNat (by rw[show (16:Nat) ^ (5+1)=16777216 from by decide];omega);have h3:=Fi.text_len x.toNat;omega
   have ak:m.take (j+1)=m.take j++[x]:=by rw[ZA,hx];rfl
   have aa:m.take j=[]↔j=0:=by
    constructor
    · intro h;have:=ZT List.length h;rw[Zr,HN.o,Z0]at this;omega
    rintro rfl;rfl
   obtain⟨ms,a8⟩:∃y:ByteArray,⟨(zAW (m.take j)).toArray⟩=y:=⟨_,rfl⟩;obtain⟨tx,ah⟩:∃y:ByteArray,⟨(Fi.text x.toNat).toArray⟩=y:=⟨_,rfl⟩
   have av:(if j=0 then ms++tx else ms++⟨#[32]⟩++tx)=⟨(zAW (m.take (j+1))).toArray⟩:=by
    rw[ak,zGm,←a8,←ah]
    by_cases h0:j=0
    · rw[Zl h0,Zl (aa.2 h0),aa.2 h0];simp[zAW,zAr,zAI]
    rw[Zj h0,Zj (fun h=>h0 (aa.1 h)),show (⟨#[32]⟩:ByteArray)=⟨[32].toArray⟩ from rfl];simp only[zAI];simp
   rw[a8]at bn ⊢;rw[ah]at bp;simp only[ah]at hX;have ai:=hy' av;have ae:=hy' af;have bc:¬9223372036854775807<ms.size+tx.size:=by omega
   have bi:¬9223372036854775807<ms.size+(⟨#[32]⟩:ByteArray).size:=by have:(⟨#[32]⟩:ByteArray).size=1:=rfl;omega
   have bg:¬9223372036854775807<(ms++⟨#[32]⟩).size+tx.size:=by
    have:(⟨#[32]⟩:ByteArray).size=1:=rfl;rw[ZU];omega
   have a6:(j:Int)<n:=by omega
   clear ak aa a8 ah av af hx bf
   by_cases h0:j=0
   · subst h0;rw[Zl rfl]at ai;rw[YT]at hc;go_wp2_with fail;refine (hX _).mono ?_;rintro e w3 ⟨rfl,ax⟩;have ba:=hy' ax;clear ax;go_wp2_with fail;exact⟨⟨1,by omega,rfl,by rw[ai.o],ae.o.trans (ba.o.mono ae.o.size)⟩,by simp[intOf];omega⟩
   rw[Zj h0]at ai;have h1:(0:Int)<(j:Int):=by omega
   go_wp2_with fail;refine (hX _).mono ?_;rintro e w3 ⟨rfl,ax⟩;have ba:=hy' ax;clear ax;go_wp2_with fail;exact⟨⟨j+1,by omega,by go_num,by rw[ai.o],ae.o.trans (ba.o.mono ae.o.size)⟩,by simp[intOf];omega⟩
 obtain rfl:j=n:=by omega
 have a6:¬(j:Int)<j:=by omega
 have ap:(⟨(zAW (m.take j)).toArray⟩:ByteArray)=mt:=by rw[Zi (by rw[HN.o];exact Za _)];exact bm.o
 rw[ap];obtain⟨d1,d2,d3,_,_,_⟩:=(aj.below af).three;have ar:w.heap.size<wr.heap.size:=Zf a7 af.size;have ae:=hy' af;clear ap af aj d3;have bs:¬9223372036854775807<tc.size+(⟨#[59,88,59,59]⟩:ByteArray).size:=by have:(⟨#[59,88,59,59]⟩:ByteArray).size=4:=rfl;omega
 have b1:¬9223372036854775807<(tc++(⟨#[59,88,59,59]⟩:ByteArray)).size+dk.size:=by
  have:(⟨#[59,88,59,59]⟩:ByteArray).size=4:=rfl;rw[ZU];omega
 have bq:¬9223372036854775807<(tc++(⟨#[59,88,59,59]⟩:ByteArray)++dk).size+(⟨#[59,59]⟩:ByteArray).size:=by
  have:(⟨#[59,88,59,59]⟩:ByteArray).size=4:=rfl;have:(⟨#[59,59]⟩:ByteArray).size=2:=rfl;simp only[ZU];omega
 have bu:¬9223372036854775807<(tc++(⟨#[59,88,59,59]⟩:ByteArray)++dk++(⟨#[59,59]⟩:ByteArray)).size+mt.size:=by
  have:(⟨#[59,88,59,59]⟩:ByteArray).size=4:=rfl;have:(⟨#[59,59]⟩:ByteArray).size=2:=rfl;simp only[ZU];omega
 have bw:¬9223372036854775807<(tc++(⟨#[59,88,59,59]⟩:ByteArray)++dk++(⟨#[59,59]⟩:ByteArray)++mt).size+(⟨#[59,59,59,59,59,59,59,59,59]⟩:ByteArray).size:=by
  have:(⟨#[59,88,59,59]⟩:ByteArray).size=4:=rfl;have:(⟨#[59,59]⟩:ByteArray).size=2:=rfl;have:(⟨#[59,59,59,59,59,59,59,59,59]⟩:ByteArray).size=9:=rfl;simp only[ZU];omega
 have bz:¬9223372036854775807<tc.size+4:=by omega
 have bx:¬9223372036854775807<tc.size+4+dk.size:=by omega
 have bt:¬9223372036854775807<tc.size+4+dk.size+2:=by omega
 have br:¬9223372036854775807<tc.size+4+dk.size+2+mt.size:=by omega
 have b2:¬9223372036854775807<tc.size+4+dk.size+2+mt.size+9:=by omega
 have bj:Below wr.heap.size wr wr:=Zc _ _;go_wp2_with fail
 go_region_held3 (fun w'=>w'.cell? ⟨w.heap.size,0,none⟩=some (.int .i64 c)∧w'.cell? ⟨w.heap.size,1,none⟩=some (.int .i64 k)∧Below wr.heap.size wr w')
  (first
    | exact zKU d1 d2 ar ar bj
    | exact zKU d1 d2 ar ar bj.drew
    | exact zKU d1 d2 ar ar au
    | fail)
  (first
    | (go_at_call 105;refine (hT _).mono ?_;rintro e wq ⟨rfl,bb⟩;have au:=(zGl (W:=wr) (by assumption)).trans (bb.mono (zGl (W:=wr) (by assumption)).size))
    | (go_at_call 191;refine (hD _).mono ?_;rintro e wq ⟨rfl,bb⟩;have au:=(zGl (W:=wr) (by assumption)).trans (bb.mono (zGl (W:=wr) (by assumption)).size))
    | fail)
 all_goals
  have bo:=hy' (zGl (W:=wr) (by assumption));go_wp2_with fail;go_ret;exact⟨by rw[←HR.o];rfl,bl.o.trans ((ae.o.trans (bo.out.mono ae.o.size)).mono (Z4 a7))⟩
end
end Go.Proofs.YthngjlllojiacaaGreatDoor
