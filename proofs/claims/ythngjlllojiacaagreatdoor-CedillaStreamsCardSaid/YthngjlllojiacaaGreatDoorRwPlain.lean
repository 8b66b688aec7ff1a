/- The layer field: Hex, by walking its text. -/
import Derived.Test.YthngjlllojiacaaGreatDoorFiBits
import Derived.Test.YthngjlllojiacaaGreatDoorShelf
import Derived.Test.YthngjlllojiacaaGreatDoorLib3
set_option maxRecDepth 100000
set_option maxHeartbeats 4000000
set_option linter.unusedVariables false
set_option linter.unusedSimpArgs false
namespace Go.Proofs.YthngjlllojiacaaGreatDoor
open Go.Proofs.Tryz
section
open Go.RowKit Go.Stop
theorem zM4 (l:List UInt8) (hg:Fi.good l=true) (i:Nat) (hi:i≤6):0≤Fi.val (l.take i)∧Fi.val (l.take i)<16777216:=by
 have aa:Fi.good (l.take i)=true:=by
  simp only[Fi.good,Yf]at hg ⊢;exact fun x hx=>hg x (Yd hx)
 obtain⟨h0,h1,_⟩:=zPc _ aa;have:(16:Nat) ^ (l.take i).length≤16 ^ 6:=Xg (by decide) (by rw[Zr];omega);clear hg aa;have e:(16:Nat) ^ 6=16777216:=by decide
 rw[e]at this;exact⟨h0,by omega⟩
def zB8 (l:List UInt8) (e:Ending):Prop:=e=.returned (.tuple #[.int .i32 ((zAE l).getD 0),.bool (zAE l).isSome])
theorem zGQ {l:List UInt8} (h:zD4 l=false):zAE l=none:=by unfold zAE;rw[h];rfl
theorem zK0 {l:List UInt8} (h:¬Fi.good l=true):zAE l=none:=by unfold zAE;rw[Bool.not_eq_true]at h;rw[h,Bool.false_and,Bool.and_false];rfl
theorem zHn {l:List UInt8} (h:Fi.good l=true) (i:Nat):Fi.good (l.take i)=true:=by
 simp only[Fi.good,Yf]at h ⊢;exact fun x hx=>h x (Yd hx)
theorem zHo (s:ByteArray) (i:Nat) (h:i<s.size):s.data.toList.take (i+1)=s.data.toList.take i++[s[i]]:=by
 have h':i<s.data.toList.length:=by simpa using h
 rw[YK h'];rfl
theorem zIL (s:ByteArray):s.data.toList.take s.size=s.data.toList:=Zi (by simp)
theorem zFT (s:ByteArray) (h:0<s.size):s.data.toList.head?=some s[0]:=by
 rw[List.head?_eq_getElem?,List.getElem?_eq_getElem (by simpa using h)];rfl
theorem zFf (s:ByteArray) (w:World) :
 Calls prog 126 #[.string s] w fun e w'=>zB8 s.data.toList e∧w'=w:=by
 rcases ZZ s.size 4 with h4|h4
 · have hN:zAE s.data.toList=none:=zGQ (by unfold zD4;rw[decide_eq_false (by simp;omega)];rfl);have i4:(s.size:Int)<4:=by omega
   go_enter func126,ntmps126;go_wp2;go_ret2;exact⟨by unfold zB8;rw[hN];rfl,rfl⟩
 rcases ZZ 6 s.size with h6|h6
 · have hN:zAE s.data.toList=none:=zGQ (by unfold zD4;rw[decide_eq_false (p:=s.data.toList.length≤6) (by simp;omega),Bool.false_and,Bool.and_false]);have i4:¬(s.size:Int)<4:=by omega
   have i6:(s.size:Int) > 6:=by omega
   go_enter func126,ntmps126;go_wp2;go_ret2;exact⟨by unfold zB8;rw[hN];rfl,rfl⟩
 have i4:¬(s.size:Int)<4:=by omega
 have i6:¬(s.size:Int) > 6:=by omega
 have l4:decide (4≤s.data.toList.length)=true:=Zu (by simp;omega);have l6:decide (s.data.toList.length≤6)=true:=Zu (by simp;omega);rcases ZZ 4 s.size with h5|h5
 rotate_left
 · have i5:¬(s.size:Int) > 4:=by omega
   have hL:zD4 s.data.toList=true:=by unfold zD4;rw[l4,l6,decide_eq_false (p:=4<s.data.toList.length) (by simp;omega)];rfl
   have HL:=hy' hL;clear hL l4 l6;go_enter func126,ntmps126;go_wp2_with fail;go_loop [4,27] (fun vn vi=>∃i:Nat,i≤s.size∧vi=.int .i64 i∧vn=.int .i64 (Fi.val (s.data.toList.take i))∧Fi.good (s.data.toList.take i)=true) (fun _ vi=>s.size-(intOf vi).toNat)
   case atStart=>exact⟨0,by omega,rfl,rfl,rfl⟩
   obtain⟨i,hi,rfl,rfl,hg⟩:=hrel;have hv:=zM4 _ hg i (by omega);rw[Jv,JX]at hv;obtain⟨v,aa⟩:∃v,Fi.val (s.data.toList.take i)=v:=⟨_,rfl⟩;rw[aa]at hv
   by_cases hlt:(i:Int)<s.size
   · have hi':i<s.size:=by omega
     have af:=zHo s i hi';have n0:(0:Int)≤(i:Int):=by omega
     obtain⟨b,hb⟩:∃b,s[i]=b:=⟨_,rfl⟩;rw[hb]at af;have ah:((b.toNat:Int)).toNat.toUInt8=b:=by simp
     have ak:=zFR b;rcases Q2 (zAG b) 0 with hd|hd
     · have hN:zAE s.data.toList=none:=zK0 (fun h=>by
        have:=zHn h (i+1);rw[af,zCw,Zs,Zm]at this;omega)
       clear af hg aa;go_wp2_with (refine (Tryz.strings_IndexByte _ _ _).mono ?_;rintro e w1 ⟨rfl,rfl⟩;rw[ah,zCp]);go_ret2;exact⟨by unfold zB8;rw[hN];rfl,rfl⟩
     have aj:¬zAG b<0:=by omega
     have hval:Fi.val (s.data.toList.take (i+1))=v*16+zAG b:=by rw[af,zEa,aa]
     have ae:Fi.good (s.data.toList.take (i+1))=true:=by rw[af,zCw,hg,Zu hd];rfl
     have HV:=hy' hval;have HG:=hy' ae;have ag:=hy' aa;clear af hg hval ae aa;rw[ag.o];go_wp2_with (refine (Tryz.strings_IndexByte _ _ _).mono ?_;rintro e w1 ⟨rfl,rfl⟩;rw[ah,zCp]);exact⟨⟨i+1,by omega,by go_num,by rw[HV.o],HG.o⟩,by simp[intOf];omega⟩
   obtain rfl:i=s.size:=by omega
   rw[zIL]at hg aa ⊢;have HG:=hy' hg;have ag:=hy' aa;clear hg aa;rw[ag.o]
   by_cases hbig:v > 1114111
   · have hN:zAE s.data.toList=none:=by unfold zAE;rw[ag.o,decide_eq_false (by omega),Bool.and_false,Bool.and_false];rfl
     go_wp2;go_ret2;exact⟨by unfold zB8;rw[hN];rfl,rfl⟩
   have hN:zAE s.data.toList=some v:=by unfold zAE;rw[HL.o,HG.o,ag.o,decide_eq_true (by omega)];rfl
   have HN:=hy' hN;clear hN;go_wp2;go_ret2;exact⟨by unfold zB8;rw[HN.o];rfl,rfl⟩
 have i5:(s.size:Int) > 4:=by omega
 have i0:(0:Int)<s.size:=by omega
 have h0:0<s.size:=by omega
 obtain⟨b,hb⟩:∃b,s[0]=b:=⟨_,rfl⟩;have hh:=zFT s h0;rw[hb]at hh
 by_cases hz:b=48
 · have hN:zAE s.data.toList=none:=zGQ (by unfold zD4;rw[l4,l6,hh,hz,decide_eq_true (p:=4<s.data.toList.length) (by simp;omega)];rfl);have ai:(b.toNat:Int)=48:=by rw[hz];rfl
   clear hh hz;go_enter func126,ntmps126;go_wp2_with fail;go_ret2;exact⟨by unfold zB8;rw[hN];rfl,rfl⟩
 have hL:zD4 s.data.toList=true:=by unfold zD4;rw[l4,l6,hh];simp[hz]
 have ai:¬(b.toNat:Int)=48:=fun h=>hz (UInt8.toNat_inj.1 (show b.toNat=48 by omega))
 have HL:=hy' hL;clear hh hz hL l4 l6;go_enter func126,ntmps126;go_wp2_with fail;go_loop [4,27] (fun vn vi=>∃i:Nat,i≤s.size∧vi=.int .i64 i∧vn=.int .i64 (Fi.val (s.data.toList.take i))∧Fi.good (s.data.toList.take i)=true) (fun _ vi=>s.size-(intOf vi).toNat)
 case atStart=>exact⟨0,by omega,rfl,rfl,rfl⟩
 obtain⟨i,hi,rfl,rfl,hg⟩:=hrel;have hv:=zM4 _ hg i (by omega);rw[Jv,JX]at hv;obtain⟨v,aa⟩:∃v,Fi.val (s.data.toList.take i)=v:=⟨_,rfl⟩;rw[aa]at hv
 by_cases hlt:(i:Int)<s.size
 · have hi':i<s.size:=by omega
   have af:=zHo s i hi';have n0:(0:Int)≤(i:Int):=by omega
   obtain⟨b,hb⟩:∃b,s[i]=b:=⟨_,rfl⟩;rw[hb]at af;have ah:((b.toNat:Int)).toNat.toUInt8=b:=by simp
   have ak:=zFR b;rcases Q2 (zAG b) 0 with hd|hd
   · have hN:zAE s.data.toList=none:=zK0 (fun h=>by
      have:=zHn h (i+1);rw[af,zCw,Zs,Zm]at this;omega)
     clear af hg aa;go_wp2_with (refine (Tryz.strings_IndexByte _ _ _).mono ?_;rintro e w1 ⟨rfl,rfl⟩;rw[ah,zCp]);go_ret2;exact⟨by unfold zB8;rw[hN];rfl,rfl⟩
   have aj:¬zAG b<0:=by omega
   have hval:Fi.val (s.data.toList.take (i+1))=v*16+zAG b:=by rw[af,zEa,aa]
   have ae:Fi.good (s.data.toList.take (i+1))=true:=by rw[af,zCw,hg,Zu hd];rfl
   have HV:=hy' hval;have HG:=hy' ae;have ag:=hy' aa;clear af hg hval ae aa;rw[ag.o];go_wp2_with (refine (Tryz.strings_IndexByte _ _ _).mono ?_;rintro e w1 ⟨rfl,rfl⟩;rw[ah,zCp]);exact⟨⟨i+1,by omega,by go_num,by rw[HV.o],HG.o⟩,by simp[intOf];omega⟩
 obtain rfl:i=s.size:=by omega
 rw[zIL]at hg aa ⊢;have HG:=hy' hg;have ag:=hy' aa;clear hg aa;rw[ag.o]
 by_cases hbig:v > 1114111
 · have hN:zAE s.data.toList=none:=by unfold zAE;rw[ag.o,decide_eq_false (by omega),Bool.and_false,Bool.and_false];rfl
   go_wp2;go_ret2;exact⟨by unfold zB8;rw[hN];rfl,rfl⟩
 have hN:zAE s.data.toList=some v:=by unfold zAE;rw[HL.o,HG.o,ag.o,decide_eq_true (by omega)];rfl
 have HN:=hy' hN;clear hN;go_wp2;go_ret2;exact⟨by unfold zB8;rw[HN.o];rfl,rfl⟩
theorem Fi.Laid.below {w w':World} (h:Fi.Laid w) (hb:Below w.heap.size w w'):Fi.Laid w':=by
 obtain⟨⟨m,h1⟩,h2⟩:=h;exact⟨⟨m,by rw[(zAP hb).1 _ _ (YN w _ h1)];exact h1⟩,by rw[(zAP hb).1 _ _ (YN w _ h2)];exact h2⟩
def Fi.LaidM (w:World):Prop:=∃m:Int,w.cell? ⟨1,0,none⟩=some (.int .i64 m)
theorem Fi.LaidM.below {w w':World} (h:Fi.LaidM w) (hb:Below w.heap.size w w'):Fi.LaidM w':=by
 obtain⟨m,h1⟩:=h;exact⟨m,by rw[(zAP hb).1 _ _ (YN w _ h1)];exact h1⟩
theorem zOg:∀d:Fin 16,Lib.upperB (zDM d.val)=zBP d.val∧(zDM d.val).toNat<128:=by decide
theorem zR1 (l:List Nat) (h:∀d∈l,d<16):Lib.toUpperA (l.map zDM)=l.map zBP:=by
 unfold Lib.toUpperA;rw[Xf];exact YV fun d hd=>(zOg ⟨d,h d hd⟩).1
theorem zK1:∀c,Lib.repeatL [48] c=List.replicate c 48
 | 0=>rfl
 | c+1=>by rw[Lib.repeatL,zK1 c];rfl
theorem zAI (a b:List UInt8):(⟨a.toArray⟩++⟨b.toArray⟩:ByteArray)=⟨(a++b).toArray⟩:=by
 apply Kj
 simp
theorem Fi.text_any (c:Nat) (hc:c<16777216) (w:World) (hL:Fi.Laid w) :
 Calls prog 94 #[.int .i32 c] w fun e w'=>e=.returned (.string ⟨(Fi.text c).toArray⟩)∧Below w.heap.size w w':=by
 obtain⟨n,hn⟩:∃n,zBb c=n:=⟨_,rfl⟩;have au:=zII c;have aq:zBb c≤6:=zBQ 5 c (by rw[show (16:Nat) ^ (5+1)=16777216 from by decide];exact hc);rw[hn]at au aq;have h1:∀W:World,Fi.Laid W→Calls prog 135 #[.int .i64 c,.int .i64 16] W fun e w'=>e=.returned (.string ⟨((Fi.low n c).map zDM).toArray⟩)∧Below W.heap.size W w':=fun W hW=>by rw[←hn];exact zKH c hc W hW
 have h2:∀W:World,Calls prog 134 #[.string ⟨((Fi.low n c).map zDM).toArray⟩] W fun e w'=>e=.returned (.string ⟨((Fi.low n c).map zBP).toArray⟩)∧Below W.heap.size W w':=fun W=>by
  have h:=Tryz.strings_ToUpper_ascii ⟨((Fi.low n c).map zDM).toArray⟩ W (by show ((Fi.low n c).map zDM).toArray.size≤_;simp[zCP];omega) (by
   intro j b hb;have hm:=Zk hb;simp only[Q4]at hm;obtain⟨d,hd,rfl⟩:=hm;exact (zOg ⟨d,zDN _ _ d hd⟩).2)
  rw[show Lib.toUpperA (⟨((Fi.low n c).map zDM).toArray⟩:ByteArray).data.toList=(Fi.low n c).map zBP from zR1 _ (zDN n c)]at h;exact h
 have h3:∀(W:World) (k:Nat),k≤4→Calls prog 102 #[.string ⟨#[48]⟩,.int .i64 k] W fun e w'=>e=.returned (.string ⟨(List.replicate k 48).toArray⟩)∧Below W.heap.size W w':=fun W k hk=>by
  have h:=Tryz.strings_Repeat ⟨#[48]⟩ k W (by omega) (by show 1*k≤_;omega);rw[show (⟨#[48]⟩:ByteArray).data.toList=[48] from rfl,zK1]at h;exact h
 have hlen:(⟨((Fi.low n c).map zBP).toArray⟩:ByteArray).size=n:=by show ((Fi.low n c).map zBP).toArray.size=n;simp[zCP]
 have aa:(⟨(List.replicate (4-n) 48).toArray⟩++⟨((Fi.low n c).map zBP).toArray⟩:ByteArray)=⟨(Fi.text c).toArray⟩:=by
  rw[zAI,zPb,hn]
 have ar:(⟨(List.replicate (4-n) 48).toArray⟩:ByteArray).size=4-n:=by show (List.replicate (4-n) (48:UInt8)).toArray.size=_;simp
 obtain⟨raw,af⟩:∃raw,(⟨((Fi.low n c).map zDM).toArray⟩:ByteArray)=raw:=⟨_,rfl⟩;obtain⟨ag,ae⟩:∃ag,(⟨((Fi.low n c).map zBP).toArray⟩:ByteArray)=ag:=⟨_,rfl⟩;obtain⟨zs,ai⟩:∃zs,(⟨(List.replicate (4-n) 48).toArray⟩:ByteArray)=zs:=⟨_,rfl⟩;rw[ae]at hlen aa;rw[ai]at aa ar;simp only[af]at h1 h2;simp only[ae]at h2;have aj:=fun W=>h3 W (4-n) (by omega)
 simp only[ai]at aj;clear af ae ai h3 hn;have HR:=hy' aa;clear aa;have ao:¬9223372036854775807<zs.size+ag.size:=by omega
 go_enter func94,ntmps94;go_wp2_with fail;refine (h1 _ (by assumption)).mono ?_;rintro e w1 ⟨rfl,ah⟩;go_wp2_with fail;refine (h2 _).mono ?_;rintro e w2 ⟨rfl,ak⟩;have hm:max (4-(n:Int)) 0=((4-n:Nat):Int):=by omega
 go_wp2_with fail;refine (aj _).mono ?_;rintro e w3 ⟨rfl,ap⟩;go_wp2_with fail;go_ret;refine⟨by rw[HR.o];rfl,(ah.trans (ak.mono ah.size)).trans (ap.mono (Zh ah.size ak.size))⟩
def zBu (l:List UInt8):List UInt8:=Lib.trimB (Lib.cut l [35]).1 32
theorem zDu (w:World) (n:Nat):Below w.heap.size w (w.drewN n):=⟨rfl,rfl,rfl,by simp[Ql],fun k hk=>by simp[Ql]⟩
theorem zM5 (s:ByteArray) (hs:s.size<4294967281) (w:World) (hL:Fi.LaidM w) :
 Calls prog 86 #[.string s] w fun e w'=>e=.returned (.string ⟨(zBu s.data.toList).toArray⟩)∧Below w.heap.size w w':=by
 obtain⟨m,hm⟩:=hL;have h1:=Tryz.strings_Cut s ⟨#[35]⟩ m w hs hm;obtain⟨a,ha⟩:∃a,(⟨(Lib.cut s.data.toList [35]).1.toArray⟩:ByteArray)=a:=⟨_,rfl⟩
 have aa:a.size≤s.size:=by
  rw[←ha];show (Lib.cut s.data.toList [35]).1.toArray.size≤s.size;have h2:s.data.toList.length=s.size:=by simp
  unfold Lib.cut;split <;> simp <;> omega
 have h2:∀W:World,Calls prog 125 #[.string a,.string ⟨#[32]⟩] W fun e w'=>e=.returned (.string ⟨(zBu s.data.toList).toArray⟩)∧Below W.heap.size W w':=fun W=>by
  refine (Tryz.strings_Trim_one a 32 (by decide) W (by omega)).mono ?_;rintro e w' ⟨rfl,hw⟩;refine⟨by rw[←ha];rfl,?_⟩;rcases hw with rfl|rfl
  · exact Zc _ _
  exact (Zc _ _).drew
 rw[show (⟨#[35]⟩:ByteArray).data.toList=[35] from rfl,ha]at h1;clear ha hm;go_enter func86,ntmps86;go_wp2_with fail;refine h1.mono ?_;rintro e w1 ⟨rfl,q,rfl⟩;go_wp2_with fail;refine (h2 _).mono ?_;rintro e w2 ⟨rfl,hb⟩;go_wp2_with fail;go_ret;exact⟨rfl,(zDu w q).trans (hb.mono (by simp[Ql]))⟩
def zPf (W:World) (l:List (List UInt8)) (e:Ending) (w':World):Prop :=
 ∃(A:Option Addr) (n c:Nat),e=.returned (.slice A n c)∧l.length=n∧Sl w' w'.heap.size A (l.map fun x=>Value.string ⟨x.toArray⟩)∧Below W.heap.size W w'
def zAh (c:UInt8):List UInt8→List UInt8→List (List UInt8)
 | w,[]=>[w]
 | w,b::r=>if b=c then w::zAh c [] r else zAh c (w++[b]) r
theorem zQj (c:UInt8):∀(l w:List UInt8),zAh c w l≠[]
 | [],w=>by simp[zAh]
 | b::r,w=>by
   unfold zAh;split
   · simp
   exact zQj c r _
theorem zGR (c:UInt8):∀(a w r:List UInt8),c∉a→zAh c w (a++r)=zAh c (w++a) r
 | [],w,r,_=>by simp
 | b::a,w,r,h=>by
   have hb:b≠c:=fun e=>h (by rw[e];exact Zq)
   rw[Zo,zAh,Zj hb,zGR c a _ r (fun h'=>h (Zv _ h')),Zz];rfl
theorem zBz (c:UInt8) (a r:List UInt8) (h:c∉a):zAh c [] (a++c::r)=a::zAh c [] r:=by
 rw[zGR c a [] _ h,zAh,Zl rfl];rfl
theorem zCg (c:UInt8) (a:List UInt8) (h:c∉a):zAh c [] a=[a]:=by
 have:=zGR c a [] [] h;rw[Z3]at this;rw[this];rfl
theorem zGS (c:UInt8):∀(l w:List UInt8),(zAh c w l).length≤l.length+1
 | [],w=>by simp[zAh]
 | b::r,w=>by
   unfold zAh;split
   · have:=zGS c r [];simp;omega
   have:=zGS c r (w++[b]);simp;omega
theorem zEL (c:UInt8):∀(l w:List UInt8),∀x∈zAh c w l,x.length≤w.length+l.length
 | [],w,x,h=>by simp[zAh]at h;subst h;simp
 | b::r,w,x,h=>by
   unfold zAh at h;split at h
   · rcases List.mem_cons.1 h with rfl|h
     · simp
     have:=zEL c r [] x h;simp at this ⊢;omega
   have:=zEL c r (w++[b]) x h;simp at this ⊢;omega
theorem zCh (c:UInt8):∀l:List UInt8,Lib.indexByte l c = -1→c∉l
 | [],_=>by simp
 | b::l,h=>by
   unfold Lib.indexByte at h;split at h
   · cases h
   rename_i hb;split at h
   · rename_i h2;have:=zCh c l (by simpa using h2);simp at hb;simp[this,Z9 hb]
   have:=Lib.indexByte_ge l c;rename_i h2;simp at h2;omega
theorem zCi (c:UInt8):∀(l:List UInt8) (i:Nat),Lib.indexByte l c=i→l=l.take i++c::l.drop (i+1)∧c∉l.take i
 | [],i,h=>by
   simp only[Lib.indexByte]at h;omega
 | b::l,i,h=>by
   unfold Lib.indexByte at h;split at h
   · rename_i hb;have hi:i=0:=by omega
     subst hi;simp at hb;subst hb;simp
   rename_i hb;simp at hb;split at h
   · omega
   obtain⟨j,rfl⟩:∃j,i=j+1:=⟨i-1,by have:=Lib.indexByte_ge l c;rename_i h2;simp at h2;omega⟩;obtain⟨h1,h2⟩:=zCi c l j (by omega);refine⟨?_,?_⟩
   · rw[Qw,List.drop_succ_cons,Zo,←h1]
   rw[Qw];simp[h2,Z9 hb]
theorem zNn (c:UInt8):∀(k:Nat) (s:ByteArray),Lib.countB s ⟨#[c]⟩≤k→(Lib.splitB ⟨#[c]⟩ 0 k s).map (·.data.toList)=zAh c [] s.data.toList:=by
 have ae:∀s:ByteArray,Lib.indexB s ⟨#[c]⟩=Lib.indexByte s.data.toList c:=fun s=>by
  show Lib.index s.data.toList [c]=_;exact Lib.index_one _ _
 intro k
 induction k with
 | zero =>
   intro s hk;rcases Lib.indexB_cases s ⟨#[c]⟩ with aa|⟨i,aa,_⟩
   · rw[Lib.splitB_miss _ _ _ _ aa,zCg c _ (zCh c _ (by rw[←ae];exact aa))];rfl
   have:=Lib.countB_hit s ⟨#[c]⟩ i (Za 1) aa;omega
 | succ k ih =>
   intro s hk;rcases Lib.indexB_cases s ⟨#[c]⟩ with aa|⟨i,aa,_⟩
   · rw[Lib.splitB_miss _ _ _ _ aa,zCg c _ (zCh c _ (by rw[←ae];exact aa))];rfl
   have hc:=Lib.countB_hit s ⟨#[c]⟩ i (Za 1) aa;obtain⟨h1,h2⟩:=zCi c s.data.toList i (by rw[←ae];exact aa);unfold Lib.splitB;rw[Zj (by rw[aa];simp;try omega),aa,ZX]
   have hd:(s.extract (i+1) s.size).data.toList=s.data.toList.drop (i+1):=by
    rw[Lib.extract_data,Zi (by simp)]
   have ht:(s.extract 0 i).data.toList=s.data.toList.take i:=by rw[Lib.extract_data];simp
   have af:=ih (s.extract (i+1) s.size) (by
    have e:(⟨#[c]⟩:ByteArray).size=1:=rfl;rw[e]at hc;omega)
   rw[hd]at af;show (s.extract 0 (((i:Int)).toNat+0)).data.toList::(Lib.splitB ⟨#[c]⟩ 0 k (s.extract (((i:Int)).toNat+1) s.size)).map (·.data.toList)=_;rw[Y8,YT,ht,af]
   conv=>rhs;rw[h1]
   rw[zBz c _ _ h2]
theorem zNo (c:UInt8) (l:List UInt8):(zAh c [] l).head?=some (Lib.cut l [c]).1:=by
 unfold Lib.cut;rw[Lib.index_one]
 by_cases h:Lib.indexByte l c = -1
 · rw[Zj (by omega),zCg c l (zCh c l h)];rfl
 have hge:=Lib.indexByte_ge l c;obtain⟨i,hi⟩:∃i:Nat,Lib.indexByte l c=i:=⟨(Lib.indexByte l c).toNat,by omega⟩;obtain⟨h1,h2⟩:=zCi c l i hi;rw[Zl (by omega),hi]
 conv=>lhs;rw[h1]
 rw[zBz c _ _ h2];simp
def zAr (c:UInt8):List (List UInt8)→List UInt8
 | []=>[]
 | x::r=>x++(r.map fun y=>c::y).flatten
theorem zM6 (c:UInt8) (l:List (List UInt8)) (x:List UInt8):zAr c (l++[x])=(if l=[] then x else zAr c l++c::x):=by
 rcases l with _|⟨y,t⟩
 · simp[zAr]
 simp[zAr]
theorem zGk (c:UInt8) (b:UInt8) (t:List UInt8):Lib.trimRightB (b::t) c=if Lib.trimRightB t c=[] then (if b=c then [] else [b]) else b::Lib.trimRightB t c:=by
 unfold Lib.trimRightB;rw[List.reverse_cons,List.dropWhile_append]
 by_cases h:(t.reverse.dropWhile (· == c))=[]
 · rw[h];simp[Yy];split <;> simp
 have h':(t.reverse.dropWhile (· == c)).isEmpty=false:=by simpa using h
 rw[h'];simp[h]
theorem zEM (c:UInt8):∀l:List UInt8,Lib.trimB l c=Lib.trimRightB (Lib.trimLeftB l c) c
 | []=>rfl
 | b::t=>by
   have ih:=zEM c t;unfold Lib.trimB Lib.trimLeftB at ih ⊢;rw[zGk,Yy]
   by_cases hb:b=c
   · subst hb;simp only[QW,Yv];split
     · rename_i h;rw[←ih,h]
     rw[Yy];simp only[QW,Yv];exact ih
   have aa:(b == c)=false:=by simpa using hb
   rw[aa];simp only[hb,Yc,ZL];rw[zGk];simp only[hb,Yc];split
   · rw[Yy,aa];simp
   rw[Yy,aa];simp
theorem zKI (c:UInt8) (l:List UInt8):Lib.trimRightB (l++[c]) c=Lib.trimRightB l c:=by
 unfold Lib.trimRightB;rw[JA];simp[Yy]
theorem zKJ (c:UInt8) (l:List UInt8) (b:UInt8) (h:b≠c):Lib.trimRightB (l++[b]) c=l++[b]:=by
 unfold Lib.trimRightB;rw[JA];simp[Yy,h]
end
section
open Go.RowKit
attribute [local go_sem] Oper.semAt_some
def zEb (l:List (List UInt8)):List ByteArray:=l.map fun x=>⟨x.toArray⟩
def Q.left (b:Nat) (W:World):Nat:=match W.cell? ⟨b,0,none⟩ with|some (.string r)=>r.size|_=>0
theorem zDO {W:World} {b:Nat} {t:TypeId} {r:ByteArray} (h:Boxed W b t (.string r)):Q.left b W=r.size:=by unfold Q.left;rw[h.cell]
theorem Q.kept {b:Nat} {ks:List Nat} {W W':World} (h:R.Kept ks W W') {t:TypeId} {v:Value} (hb:Boxed W b t v) (hm:b∈ks):Boxed W' b t v:=h b hm _ hb
theorem zNp {r:ByteArray} {i:Nat} (h:Lib.indexByte r.data.toList 32=i):zEb (zAh 32 [] r.data.toList)=r.extract 0 i::zEb (zAh 32 [] (r.extract (i+1) r.size).data.toList):=by
 obtain⟨h1,h2⟩:=zCi 32 _ i h;have hd:(r.extract (i+1) r.size).data.toList=r.data.toList.drop (i+1):=by rw[Lib.extract_data,Zi (by simp)]
 have ht:(r.extract 0 i).data.toList=r.data.toList.take i:=by rw[Lib.extract_data];simp
 rw[hd]
 conv=>lhs;rw[h1]
 rw[zBz 32 _ _ h2];unfold zEb;rw[ZX,←ht,Lib.mk_data]
theorem zM7 {r:ByteArray} (h:Lib.indexByte r.data.toList 32 = -1):zEb (zAh 32 [] r.data.toList)=[r]:=by
 rw[zCg 32 _ (zCh 32 _ h)];unfold zEb;rw[XC,Lib.mk_data]
theorem Q.idx_lt {r:ByteArray} {i:Nat} (h:Lib.indexByte r.data.toList 32=i):i<r.size:=by
 obtain⟨h1,_⟩:=zCi 32 _ i h;have:=ZT List.length h1;have hl:r.data.toList.length=r.size:=by simp
 rw[Zd,ZF,Zr,ZM,hl]at this;omega
theorem zNq (s:ByteArray) (hs:s.size≤1000000) (n b:Nat) (hn:1≤n) (W:World) (h0:Boxed W b 9 (.string s)) (h1:Boxed W (b+1) 9 (.string ⟨#[32]⟩)) (h2:Boxed W (b+2) 3 (.int .i64 0)) :
 zRH n prog 263 #[.pointer (some ⟨b+1,0,none⟩),.pointer (some ⟨b,0,none⟩),.pointer (some ⟨b+2,0,none⟩)] (fun x:ByteArray => #[Value.string x]) b [b,b+1,b+2]
  (fun xs=>xs=zEb (zAh 32 [] s.data.toList)) (fun pre=>pre <+: zEb (zAh 32 [] s.data.toList)) (zEb (zAh 32 [] s.data.toList)).length W:=fun l J Jx hJ ao hY hj0=>by
 obtain⟨L,hL⟩:∃L,zEb (zAh 32 [] s.data.toList)=L:=⟨_,rfl⟩;rw[hL]at hY ⊢;have c1:=h1.cell;refine callsIn_of_wp func263 rfl trivial ?_ rfl;simp only[ntmps263,Qc,ZF,Z0,Nat.reduceAdd,Nat.reduceSub,XR,XS,Qd,XX,ZH,Zo]
 gi_wp2
 gi_loopw [7] (fun _ wr=>∃(pre:List ByteArray) (r:ByteArray),L=pre++zEb (zAh 32 [] r.data.toList)∧Boxed wr b 9 (.string r)∧Boxed wr (b+1) 9 (.string ⟨#[32]⟩)∧Boxed wr (b+2) 3 (.int .i64 0)∧J pre wr∧r.size≤s.size)
  (fun _ wr=>Q.left b wr)
 case atStart=>exact⟨[],s,hL.symm,h0,h1,h2,hj0,Za _⟩
 obtain⟨pre,r,aa,b0,b1,b2,ah,ak⟩:=hrel;have d0:=b0.cell;have d1:=b1.cell;have d2:=b2.cell
 by_cases hidx:Lib.indexByte r.data.toList 32 = -1
 · rw[zM7 hidx]at aa;obtain⟨fn,tmps,assign,body,hy,hR⟩:=hY pre r wr ah (by rw[aa];simp) (by rw[aa];exact Qm _)
   gi_wp2_with (refine⟨trivial,?_⟩;gi_at_call 226;refine (callsIn_wide.2 (Tryz.strings_Index_one r 32 _)).mono ?_;rintro e w1 ⟨rfl,rfl⟩;rw[hidx])
   refine hR.mono ?_;rintro e W3 (⟨rfl,ag,af⟩|⟨rfl,ae⟩)
   · gi_wp2
     go_end0;exact⟨⟨_,rfl⟩,.inl ⟨pre++[r],aa.symm,ag⟩⟩
   gi_wp2
   go_end0;exact⟨⟨_,rfl⟩,.inr ⟨pre++[r],by rw[aa];exact Qm _,ae⟩⟩
 have hge:=Lib.indexByte_ge r.data.toList 32;obtain⟨i,hi⟩:∃i:Nat,Lib.indexByte r.data.toList 32=i:=⟨(Lib.indexByte r.data.toList 32).toNat,by omega⟩;have aj:=Q.idx_lt hi;rw[zNp hi]at aa;obtain⟨x,hx⟩:∃x,r.extract 0 i=x:=⟨_,rfl⟩;obtain⟨z,hz⟩:∃z,r.extract (i+1) r.size=z:=⟨_,rfl⟩;rw[hx,hz]at aa;have ap:z.size=r.size-(i+1):=by rw[←hz,Q5];omega
 have i0:¬(i:Int)<0:=by omega
 have i1:(0:Int)≤(i:Int):=by omega
 have i2:(i:Int)≤r.size:=by omega
 have i3:(0:Int)≤(i:Int)+1:=by omega
 have i4:(i:Int)+1≤r.size:=by omega
 obtain⟨fn,tmps,assign,body,hy,hR⟩:=hY pre x wr ah (by rw[aa];simp) ⟨_,by rw[aa,Zz];rfl⟩;have HI:=hy' hi;have HP:=hy' aa;clear hi hidx aa hge
 gi_wp2_with (refine⟨trivial,?_⟩;gi_at_call 226;refine (callsIn_wide.2 (Tryz.strings_Index_one r 32 _)).mono ?_;rintro e w1 ⟨rfl,rfl⟩;rw[HI.o])
 refine hR.mono ?_;rintro e W3 (⟨rfl,ag,af⟩|⟨rfl,ae⟩)
 · have k0:=Q.kept af b0 (by simp);have k1:=Q.kept af b1 (by simp);have k2:=Q.kept af b2 (by simp);have e0:=k0.cell;have e1:=k1.cell;have e2:=k2.cell;have f0:=k0.frozen;have ai:=hy' ag;clear af ag
   gi_wp2
   go_roundw
   case rel=>exact⟨pre++[x],z,by rw[HP.o];simp,k0.set _,k1.other (by omega) _,k2.other (by omega) _,hJ _ _ _ _ ai.o (grownBy_setCell' W3 b (.string z)) (fun q e=>by cases e;rfl),by omega⟩
   rw[zDO (k0.set _),zDO b0];omega
 gi_wp2
 refine YF (Qy rfl _ _ _) rfl ?_;exact⟨⟨_,rfl⟩,.inr ⟨pre++[x],⟨_,by rw[HP.o,Zz];rfl⟩,ae⟩⟩
end
section
open Go.RowKit Go.Stop
def zD5 (l:List UInt8):Int:=l.foldl (fun n b=>10*n+((b.toNat:Int)-48)) 0
def zM8 (b:UInt8):Bool:=decide (48≤b.toNat)&&decide (b.toNat≤57)
def zKK (l:List UInt8) (aa:Int):Bool:=(l == Lib.decDigits (zD5 l).toNat)&&decide (zD5 l≤aa)
def zD6 (l:List UInt8) (aa:Int):Option Int:=if zKK l aa then some (zD5 l) else none
theorem zM9 (l:List UInt8) (b:UInt8):zD5 (l++[b])=10*zD5 l+((b.toNat:Int)-48):=by simp[zD5,YJ]
theorem zHT (d:Nat) (h:d<10):(UInt8.ofNat (48+d)).toNat=48+d:=by rw[X4,Xv (by omega)]
theorem zFU (u:Nat):zD5 (Lib.decDigits u)=(u:Int):=by
 rw[Lib.decDigits];split
 · rename_i h;simp only[zD5,Yz,Jm,zHT u h];omega
 · rename_i h;rw[zM9,zFU (u/10),zHT _ (by omega)];omega
 termination_by u
 decreasing_by omega
theorem zEc (u:Nat):∀b∈Lib.decDigits u,zM8 b=true:=by
 rw[Lib.decDigits];split
 · rename_i h;intro b hb;rw[Zp]at hb;subst hb;unfold zM8;rw[zHT u h,Zu (by omega),Zu (by omega)];rfl
 · intro b hb;rcases List.mem_append.1 hb with h|h
   · exact zEc (u/10) b h
   rw[Zp]at h;subst h;unfold zM8;rw[zHT _ (by omega),Zu (by omega),Zu (by omega)];rfl
 termination_by u
 decreasing_by omega
theorem zQk (u:Nat):Lib.decDigits u≠[]:=by
 rw[Lib.decDigits];split
 · simp
 simp
theorem zCQ:∀(k u:Nat),u<10 ^ (k+1)→(Lib.decDigits u).length≤k+1
 | 0,u,h=>by rw[Lib.decDigits,dif_pos (by simpa using h)];simp
 | k+1,u,h=>by
   rw[Lib.decDigits];split
   · simp
   have:=zCQ k (u/10) (by rw[Xa]at h;omega);simp;omega
theorem zHp (u:Nat) (aa:Int) (h:(u:Int)≤aa):zD6 (Lib.decDigits u) aa=some (u:Int):=by
 unfold zD6 zKK;rw[zFU,Y8,QW,Zu h];rfl
theorem zNr {l:List UInt8} {aa v:Int} (h:zD6 l aa=some v):∃u:Nat,v=u∧(u:Int)≤aa∧l=Lib.decDigits u:=by
 unfold zD6 at h;split at h
 · rename_i h1;unfold zKK at h1;rw[Zs,YU,Zm]at h1;obtain⟨h2,h3⟩:=h1
   have h4:zD5 l=((zD5 l).toNat:Int):=by
    conv=>lhs;rw[h2,zFU]
   simp only[Zg]at h;exact⟨(zD5 l).toNat,by rw[←h];exact h4,by omega,h2⟩
 cases h
theorem zFt {l:List UInt8} {aa:Int} (h:∀u:Nat,(u:Int)≤aa→l≠Lib.decDigits u):zD6 l aa=none:=by
 rcases hn:zD6 l aa with _|v
 · rfl
 obtain⟨u,_,h2,h3⟩:=zNr hn;exact absurd h3 (h u h2)
theorem zFu:∀(a:List UInt8) (b:UInt8) (acc:Nat),Lib.decFrom acc (a++[b])=(Lib.decFrom acc a).bind fun n=>(Lib.digitVal b).map fun d=>n*10+d
 | [],b,acc=>by
   simp only[ZH,Lib.decFrom];rcases Lib.digitVal b with _|d <;> rfl
 | c::t,b,acc=>by
   simp only[Zo,Lib.decFrom];rcases Lib.digitVal c with _|d
   · rfl
   exact zFu t b _
theorem zEN (d:Nat) (h:d<10):Lib.digitVal (UInt8.ofNat (48+d))=some d:=by
 have key:∀d:Fin 10,Lib.digitVal (UInt8.ofNat (48+d.val))=some d.val:=by decide
 exact key ⟨d,h⟩
theorem zFv (u:Nat):Lib.decFrom 0 (Lib.decDigits u)=some u:=by
 rw[Lib.decDigits];split
 · rename_i h;simp only[Lib.decFrom,zEN u h];simp
 · rename_i h;rw[zFu,zFv (u/10),Zy,zEN _ (by omega),Zx];congr 1;omega
 termination_by u
 decreasing_by omega
theorem zIM (u:Nat) (h:u<10000000000):Lib.atoiAll (Lib.decDigits u)=.ok (u:Int):=by
 have hl:(Lib.decDigits u).length≤10:=zCQ 9 u (by rw[show (10:Nat) ^ (9+1)=10000000000 from by decide];exact h);rw[Lib.atoiAll_short _ (by omega)];have hne:=zQk u;have hd:=zEc u;have hf:=zFv u;rcases hc:Lib.decDigits u with _|⟨b,r⟩
 · exact absurd hc hne
 rw[hc]at hd hf;have hb:=hd b Zq;unfold zM8 at hb;rw[Zs,Zm,Zm]at hb
 have ae:(b == 45)=false:=by
  rw[Xq];rintro rfl;exact absurd hb.1 (by decide)
 have aa:(b == 43)=false:=by
  rw[Xq];rintro rfl;exact absurd hb.1 (by decide)
 have hn:Lib.decNat (b::r)=some u:=by
  unfold Lib.decNat;simpa using hf
 unfold Lib.atoi;simp only[ae,aa,hn,ZL,Yc];rfl
def zAM:List UInt8→List UInt8→List (List UInt8)
 | w,[]=>if w=[] then [] else [w]
 | w,b::r=>if b=10 then w::zAM [] r else zAM (w++[b]) r
theorem zK2:∀(a w r:List UInt8),(10:UInt8)∉a→zAM w (a++r)=zAM (w++a) r
 | [],w,r,_=>by simp
 | b::a,w,r,h=>by
   have hb:b≠10:=fun e=>h (by rw[e];exact Zq)
   rw[Zo,zAM,Zj hb,zK2 a _ r (fun h'=>h (Zv _ h')),Zz];rfl
theorem zPg (a r:List UInt8) (h:(10:UInt8)∉a):zAM [] (a++10::r)=a::zAM [] r:=by
 rw[zK2 a [] _ h,zAM,Zl rfl];rfl
theorem zEd:∀(l:List (List UInt8)),(∀x∈l,(10:UInt8)∉x)→zAM [] (l.flatMap fun x=>x++[10])=l
 | [],_=>rfl
 | x::l,h=>by
   rw[Y7,Zz,List.singleton_append,zPg _ _ (h x Zq),zEd l fun y hy=>h y (Zv _ hy)]
theorem zGT:∀(l w:List UInt8),(zAM w l).length≤l.length+1
 | [],w=>by unfold zAM;split <;> simp
 | b::r,w=>by
   unfold zAM;split
   · have:=zGT r [];simp;omega
   have:=zGT r (w++[b]);simp;omega
def zC7 (x:List UInt8):Bool:=x.all fun b=>decide (32≤b.toNat)&&decide (b.toNat≤126)
def zC8 (x:List UInt8):Bool:=decide (x.length≤1000)&&zC7 x
def Rw.mp (f:List UInt8):Option (List Int) :=
 if f=[]∨f.head?=some 60 then some []
 else if (zAh 32 [] f).all (fun x=>(zAE x).isSome)=true∧(zAh 32 [] f).length≤2 then some ((zAh 32 [] f).map fun x=>(zAE x).getD 0)
 else none
def Rw.row (F:List (List UInt8)):Option Rw.Row :=
 if F.length=15∧F.getD 1 []≠[] then
  (zAE (F.getD 0 [])).bind fun c=>(zD6 (F.getD 3 []) 254).bind fun k=>(Rw.mp (F.getD 5 [])).map fun m=>(c,k,m)
 else none
def Rw.quiet (r:Rw.Row):Bool:=decide (r.2.1=0)&&decide (r.2.2.length=0)
def Rw.first:List UInt8:=[44,32,70,105,114,115,116,62]
def Rw.last:List UInt8:=[44,32,76,97,115,116,62]
def zCz (s e:List UInt8):Bool:=decide (e.length≤s.length)&&(s.drop (s.length-e.length) == e)
def zBV (s e:List UInt8):List UInt8:=if zCz s e then s.take (s.length-e.length) else s
def zBH (was name:List UInt8) (q:Bool):Option (List UInt8) :=
 if was≠[]∨zCz name Rw.last=true then (if zCz name Rw.last=true∧zBV name Rw.last++Rw.first=was∧q=true then some [] else none)
 else if zCz name Rw.first=true then (if q then some (zBV name Rw.first++Rw.first) else none)
 else some []
abbrev Rw.St:=List Rw.Row × Int × List UInt8
def Rw.step (st:Rw.St) (l:List UInt8):Option Rw.St :=
 (Rw.row (zAh 59 [] l)).bind fun r =>
   if st.2.1<r.1 then (zBH st.2.2 ((zAh 59 [] l).getD 1 []) (Rw.quiet r)).bind fun o =>
    if C.isC r.1=true∨Rw.quiet r=true then some (if Rw.quiet r then st.1 else st.1++[r],r.1,o) else none
   else none
def Rw.steps:Rw.St→List (List UInt8)→Option Rw.St
 | st,[]=>some st
 | st,l::r=>(Rw.step st l).bind fun st'=>Rw.steps st' r
theorem Rw.steps_app:∀(a b:List (List UInt8)) (st:Rw.St),Rw.steps st (a++b)=(Rw.steps st a).bind fun st'=>Rw.steps st' b
 | [],b,st=>rfl
 | l::a,b,st=>by
   rw[Zo,Rw.steps,Rw.steps];rcases Rw.step st l with _|st'
   · rfl
   exact Rw.steps_app a b st'
def Rw.parse (s:List UInt8):Option (List Rw.Row) :=
 if (zAM [] s).all zC8=true∧(zAM [] s).length≤40000 then (Rw.steps ([],-1,[]) (zAM [] s)).bind fun st=>if st.2.2=[] then some st.1 else none
 else none
def Rw.line (r:Rw.Row):List UInt8 :=
 Fi.text r.1.toNat++([59,88,59,59]++(Lib.decDigits r.2.1.toNat++([59,59]++(zAr 32 (r.2.2.map fun c=>Fi.text c.toNat)++[59,59,59,59,59,59,59,59,59]))))
def zEO (r:Rw.Row):List (List UInt8) :=
 [Fi.text r.1.toNat,[88],[],Lib.decDigits r.2.1.toNat,[],zAr 32 (r.2.2.map fun c=>Fi.text c.toNat),[],[],[],[],[],[],[],[],[]]
def Rw.right (r:Rw.Row):Prop:=0≤r.1∧r.1≤1114111∧0≤r.2.1∧r.2.1≤254∧r.2.2.length≤2∧∀c∈r.2.2,0≤c∧c≤1114111
theorem zNs:∀d:Fin 16,48≤(zBP d.val).toNat∧(zBP d.val).toNat≤70∧(zBP d.val)≠59:=by decide
theorem zC9 (n:Nat):∀b∈Fi.text n,48≤b.toNat∧b.toNat≤70∧b≠59:=by
 intro b hb;unfold Fi.text at hb;obtain⟨d,hd,rfl⟩:=List.mem_map.1 hb;exact zNs ⟨d,zDN _ _ d hd⟩
theorem zFg (n:Nat) (c:UInt8) (h:c.toNat<48∨c=59):c∉Fi.text n:=fun hb=>by
 have:=zC9 n c hb;rcases h with h|h
 · omega
 exact this.2.2 h
theorem zQl:∀d:Fin 16,zBP d.val≠60:=by decide
theorem zNt (n:Nat):∀b∈Fi.text n,b≠60:=by
 intro b hb;unfold Fi.text at hb;obtain⟨d,hd,rfl⟩:=List.mem_map.1 hb;exact zQl ⟨d,zDN _ _ d hd⟩
theorem zGU (n:Nat):Fi.text n≠[]:=fun h=>by
 have:=Fi.text_len n;rw[h,Z0]at this;omega
theorem zHq (n:Nat):∀b∈Lib.decDigits n,48≤b.toNat∧b.toNat≤57:=by
 intro b hb;have:=zEc n b hb;unfold zM8 at this;rw[Zs,Zm,Zm]at this;exact this
theorem zQm (n:Nat) (c:UInt8) (h:c.toNat<48∨57<c.toNat):c∉Lib.decDigits n:=fun hb=>by
 have:=zHq n c hb;omega
theorem zIN (c:UInt8):∀(l:List (List UInt8)) (x:List UInt8),c∉x→(∀y∈l,c∉y)→zAh c [] (zAr c (x::l))=x::l
 | [],x,hx,_=>by simp[zAr];exact zCg c x hx
 | y::l,x,hx,h=>by
   have e:zAr c (x::y::l)=x++c::zAr c (y::l):=by simp[zAr]
   rw[e,zBz c _ _ hx,zIN c l y (h y Zq) fun z hz=>h z (Zv _ hz)]
theorem zKL (c:UInt8):∀(l:List (List UInt8)),∀b∈zAr c l,b=c∨∃x∈l,b∈x
 | [],b,h=>by simp[zAr]at h
 | x::l,b,h=>by
   simp only[zAr,Xb,List.mem_flatten,Q4]at h;rcases h with h|⟨y,⟨z,hz,rfl⟩,hb⟩
   · exact .inr ⟨x,Zq,h⟩
   rcases List.mem_cons.1 hb with h|h
   · exact .inl h
   exact .inr ⟨z,Zv _ hz,h⟩
theorem zHr (m:List Int):∀b∈zAr 32 (m.map fun c=>Fi.text c.toNat),b=32∨(48≤b.toNat∧b.toNat≤70∧b≠59):=by
 intro b hb;rcases zKL 32 _ b hb with h|⟨x,hx,aa⟩
 · exact .inl h
 obtain⟨c,_,rfl⟩:=List.mem_map.1 hx;exact .inr (zC9 _ b aa)
theorem zJc (r:Rw.Row):zAh 59 [] (Rw.line r)=zEO r:=by
 have hm:(59:UInt8)∉zAr 32 (r.2.2.map fun c=>Fi.text c.toNat):=fun h=>by
  rcases zHr _ _ h with h|h
  · exact absurd h (by decide)
  exact h.2.2 rfl
 unfold Rw.line zEO
 rw[show ∀x:List UInt8,[59,88,59,59]++x=59::([88]++59::([]++59::x)) from fun _=>rfl,zBz 59 _ _ (zFg _ _ (.inr rfl)),zBz 59 _ _ (by decide),zBz 59 _ _ (by decide),
  show ∀x:List UInt8,[59,59]++x=59::([]++59::x) from fun _=>rfl,zBz 59 _ _ (zQm _ _ (.inr (by decide))),zBz 59 _ _ (by decide),zBz 59 _ _ hm]
 rfl
theorem zDP (r:Rw.Row) (hr:Rw.right r):zC8 (Rw.line r)=true:=by
 obtain⟨c0,c1,k0,k1,hm,hc⟩:=hr;have l1:=zAD r.1.toNat (by omega);have l2:=zCQ 9 r.2.1.toNat (by rw[show (10:Nat) ^ (9+1)=10000000000 from by decide];omega)
 have l3:(zAr 32 (r.2.2.map fun c=>Fi.text c.toNat)).length≤20:=by
  obtain⟨c,k,m⟩:=r;rcases m with _|⟨a,_|⟨b,_|⟨d,t⟩⟩⟩
  · simp[zAr]
  · have:=zAD a.toNat (by have:=(hc a (by simp)).2;omega);simp[zAr];omega
  · have h1:=zAD a.toNat (by have:=(hc a (by simp)).2;omega);have h2:=zAD b.toNat (by have:=(hc b (by simp)).2;omega);simp[zAr];omega
  simp at hm
 unfold zC8;rw[Zs,Zm];refine⟨?_,?_⟩
 · unfold Rw.line;simp only[Zd,ZF,Z0];omega
 unfold zC7;rw[Yf]
 have key:∀b:UInt8,(b=32∨b=59∨b=88∨(48≤b.toNat∧b.toNat≤70))→(decide (32≤b.toNat)&&decide (b.toNat≤126))=true:=by
  intro b hb;rw[Zs,Zm,Zm];rcases hb with rfl|rfl|rfl|hb
  · decide
  · decide
  · decide
  omega
 intro b hb;apply key
 unfold Rw.line at hb;simp only[Xb]at hb;rcases hb with hb|hb|hb|hb|hb|hb
 · have:=zC9 _ b hb;exact .inr (.inr (.inr ⟨this.1,this.2.1⟩))
 · simp at hb;rcases hb with rfl|rfl|rfl|rfl <;> simp
 · have:=zHq _ b hb;exact .inr (.inr (.inr ⟨this.1,by omega⟩))
 · simp at hb;subst hb;simp
 · rcases zHr _ b hb with h|h
   · exact .inl h
   exact .inr (.inr (.inr ⟨h.1,h.2.1⟩))
 simp at hb;subst hb;simp
theorem zPh (r:Rw.Row) (hr:Rw.right r):(10:UInt8)∉Rw.line r:=fun h=>by
 have:=zDP r hr;unfold zC8 zC7 at this;rw[Zs,Yf]at this;exact absurd (this.2 10 h) (by decide)
theorem zEe {c:Int} (h:0≤c):((c.toNat:Nat):Int)=c:=by omega
theorem zPi (m:List Int) (hm:m.length≤2) (hc:∀c∈m,0≤c∧c≤1114111):Rw.mp (zAr 32 (m.map fun c=>Fi.text c.toNat))=some m:=by
 rcases m with _|⟨a,t⟩
 · simp[zAr,Rw.mp]
 have hs:zAh 32 [] (zAr 32 ((a::t).map fun c=>Fi.text c.toNat))=(a::t).map fun c=>Fi.text c.toNat :=
  zIN 32 _ _ (zFg _ _ (.inl (by decide))) fun y hy=>by
   obtain⟨c,_,rfl⟩:=List.mem_map.1 hy;exact zFg _ _ (.inl (by decide))
 have hx:∀c∈a::t,zAE (Fi.text c.toNat)=some c:=fun c aa=>by
  rw[zFS _ (by have:=(hc c aa).2;omega),zEe (hc c aa).1]
 have hne:¬(zAr 32 ((a::t).map fun c=>Fi.text c.toNat)=[]∨(zAr 32 ((a::t).map fun c=>Fi.text c.toNat)).head?=some 60):=by
  obtain⟨b,q,hb⟩:∃b q,Fi.text a.toNat=b::q:=by
   rcases h:Fi.text a.toNat with _|⟨b,q⟩
   · exact absurd h (zGU _)
   exact⟨b,q,rfl⟩
  have af:=zNt a.toNat b (by rw[hb];exact Zq);rw[ZX,hb];simp only[zAr,Zo,Ka,Zg];rintro (h|h)
  · cases h
  subst h;exact af rfl
 have ae:(((a::t).map fun c=>Fi.text c.toNat).all fun x=>(zAE x).isSome)=true:=by
  rw[Yf];intro x ag;obtain⟨c,aa,rfl⟩:=List.mem_map.1 ag;rw[hx c aa];rfl
 unfold Rw.mp;rw[if_neg hne,hs,if_pos ⟨ae,by simpa using hm⟩,List.map_map];congr 1
 conv=>rhs;rw[←List.map_id (a::t)]
 refine YV fun c aa=>?_
 show (zAE (Fi.text c.toNat)).getD 0=c;rw[hx c aa];rfl
theorem zKM (r:Rw.Row) (hr:Rw.right r):Rw.row (zEO r)=some r:=by
 obtain⟨c0,c1,k0,k1,hm,hc⟩:=hr;unfold Rw.row;rw[Zl ⟨rfl,show ([88]:List UInt8)≠[] from by decide⟩];show (zAE (Fi.text r.1.toNat)).bind (fun c=>(zD6 (Lib.decDigits r.2.1.toNat) 254).bind fun k=>(Rw.mp (zAr 32 (r.2.2.map fun c=>Fi.text c.toNat))).map fun m=>(c,k,m))=_;rw[zFS _ (by omega),zHp _ _ (by omega),zPi _ hm hc,zEe c0,zEe k0];rfl
theorem zHs (out:List Rw.Row) (c:Int) (r:Rw.Row) (hr:Rw.right r) (aa:c<r.1) (hq:C.isC r.1=true∨Rw.quiet r=true) :
 Rw.step (out,c,[]) (Rw.line r)=some (if Rw.quiet r then out else out++[r],r.1,[]):=by
 unfold Rw.step;rw[zJc,zKM r hr,Zy,Zl aa]
 have:zBH [] ((zEO r).getD 1 []) (Rw.quiet r)=some []:=by
  show zBH [] [88] (Rw.quiet r)=some [];unfold zBH;rw[Zj (by decide),Zj (by decide)]
 show (zBH [] ((zEO r).getD 1 []) (Rw.quiet r)).bind _=_;rw[this,Zy,Zl hq]
def zD7:Int→List Rw.Row→Prop
 | _,[]=>True
 | c,r::l=>c<r.1∧zD7 r.1 l
theorem zFw:∀(l:List Rw.Row) (out:List Rw.Row) (c:Int),(∀r∈l,Rw.right r∧(C.isC r.1=true∨Rw.quiet r=true))→zD7 c l →
 ∃c',Rw.steps (out,c,[]) (l.map Rw.line)=some (out++l.filter (fun r=>!Rw.quiet r),c',[])
 | [],out,c,_,_=>⟨c,by simp[Rw.steps]⟩
 | r::l,out,c,h,hr=>by
   obtain⟨h1,h2⟩:=h r Zq;rw[ZX,Rw.steps,zHs out c r h1 hr.1 h2,Zy];obtain⟨c',aa⟩:=zFw l (if Rw.quiet r then out else out++[r]) r.1 (fun q hq=>h q (Zv _ hq)) hr.2;refine⟨c',?_⟩;rw[aa,Yp]
   by_cases hq:Rw.quiet r=true
   · simp[hq]
   simp[hq]
theorem zJd (l:List Rw.Row) (h:∀r∈l,Rw.right r∧(C.isC r.1=true∨Rw.quiet r=true)) (hr:zD7 (-1) l) (hl:l.length≤40000) :
 Rw.parse ((l.map Rw.line).flatMap fun x=>x++[10])=some (l.filter fun r=>!Rw.quiet r):=by
 have hn:zAM [] ((l.map Rw.line).flatMap fun x=>x++[10])=l.map Rw.line:=zEd _ fun x hx=>by
  obtain⟨r,hm,rfl⟩:=List.mem_map.1 hx;exact zPh r (h r hm).1
 obtain⟨c',ae⟩:=zFw l [] (-1) h hr
 have aa:(l.map Rw.line).all zC8=true:=by
  rw[Yf];intro x hx;obtain⟨r,hm,rfl⟩:=List.mem_map.1 hx;exact zDP r (h r hm).1
 unfold Rw.parse;rw[hn,Zl ⟨aa,by rw[Ze];exact hl⟩,ae];rfl
end
end Go.Proofs.YthngjlllojiacaaGreatDoor
