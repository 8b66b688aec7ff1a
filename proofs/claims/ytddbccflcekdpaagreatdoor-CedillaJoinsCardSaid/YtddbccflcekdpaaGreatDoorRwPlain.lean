/- The layer field: Hex, by walking its text. -/
import Derived.Test.YtddbccflcekdpaaGreatDoorFiBits
import Derived.Test.YtddbccflcekdpaaGreatDoorShelf
set_option maxRecDepth 100000
set_option maxHeartbeats 4000000
set_option linter.unusedVariables false
set_option linter.unusedSimpArgs false
namespace Go.Proofs.YtddbccflcekdpaaGreatDoor
open Go.Proofs.Tryz
section
open Go.RowKit Go.Stop
theorem zMA (l:List UInt8) (hg:Fi.good l=true) (i:Nat) (hi:i≤6):0≤Fi.val (l.take i)∧Fi.val (l.take i)<16777216:=by
 have aa:Fi.good (l.take i)=true:=by
  simp only[Fi.good,Yi]at hg ⊢;exact fun x hx=>hg x (Z5 hx)
 obtain⟨h0,h1,_⟩:=zPD _ aa;have:(16:Nat) ^ (l.take i).length≤16 ^ 6:=Xh (by decide) (by rw[Zq];omega);clear hg aa;have e:(16:Nat) ^ 6=16777216:=by decide
 rw[e]at this;exact⟨h0,by omega⟩
def zBe (l:List UInt8) (e:Ending):Prop:=e=.returned (.tuple #[.int .i32 ((zAH l).getD 0),.bool (zAH l).isSome])
theorem zHd {l:List UInt8} (h:zDg l=false):zAH l=none:=by unfold zAH;rw[h];rfl
theorem zKz {l:List UInt8} (h:¬Fi.good l=true):zAH l=none:=by unfold zAH;rw[Bool.not_eq_true]at h;rw[h,Bool.false_and,Bool.and_false];rfl
theorem zHQ {l:List UInt8} (h:Fi.good l=true) (i:Nat):Fi.good (l.take i)=true:=by
 simp only[Fi.good,Yi]at h ⊢;exact fun x hx=>h x (Z5 hx)
theorem zHR (s:ByteArray) (i:Nat) (h:i<s.size):s.data.toList.take (i+1)=s.data.toList.take i++[s[i]]:=by
 have h':i<s.data.toList.length:=by simpa using h
 rw[YM h'];rfl
theorem zJg (s:ByteArray):s.data.toList.take s.size=s.data.toList:=Zm (by simp)
theorem zG4 (s:ByteArray) (h:0<s.size):s.data.toList.head?=some s[0]:=by
 rw[List.head?_eq_getElem?,List.getElem?_eq_getElem (by simpa using h)];rfl
theorem zFu (s:ByteArray) (w:World) :
 Calls prog 152 #[.string s] w fun e w'=>zBe s.data.toList e∧w'=w:=by
 rcases ZY s.size 4 with h4|h4
 · have hN:zAH s.data.toList=none:=zHd (by unfold zDg;rw[decide_eq_false (by simp;omega)];rfl);have i4:(s.size:Int)<4:=by omega
   go_enter func152,ntmps152;go_wp2;go_ret2;exact⟨by unfold zBe;rw[hN];rfl,rfl⟩
 rcases ZY 6 s.size with h6|h6
 · have hN:zAH s.data.toList=none:=zHd (by unfold zDg;rw[decide_eq_false (p:=s.data.toList.length≤6) (by simp;omega),Bool.false_and,Bool.and_false]);have i4:¬(s.size:Int)<4:=by omega
   have i6:(s.size:Int) > 6:=by omega
   go_enter func152,ntmps152;go_wp2;go_ret2;exact⟨by unfold zBe;rw[hN];rfl,rfl⟩
 have i4:¬(s.size:Int)<4:=by omega
 have i6:¬(s.size:Int) > 6:=by omega
 have l4:decide (4≤s.data.toList.length)=true:=Zr (by simp;omega);have l6:decide (s.data.toList.length≤6)=true:=Zr (by simp;omega);rcases ZY 4 s.size with h5|h5
 rotate_left
 · have i5:¬(s.size:Int) > 4:=by omega
   have hL:zDg s.data.toList=true:=by unfold zDg;rw[l4,l6,decide_eq_false (p:=4<s.data.toList.length) (by simp;omega)];rfl
   have HL:=hy' hL;clear hL l4 l6;go_enter func152,ntmps152;go_wp2_with fail;go_loop [4,27] (fun vn vi=>∃i:Nat,i≤s.size∧vi=.int .i64 i∧vn=.int .i64 (Fi.val (s.data.toList.take i))∧Fi.good (s.data.toList.take i)=true) (fun _ vi=>s.size-(intOf vi).toNat)
   case atStart=>exact⟨0,by omega,rfl,rfl,rfl⟩
   obtain⟨i,hi,rfl,rfl,hg⟩:=hrel;have hv:=zMA _ hg i (by omega);rw[Qi,J9]at hv;obtain⟨v,ae⟩:∃v,Fi.val (s.data.toList.take i)=v:=⟨_,rfl⟩;rw[ae]at hv
   by_cases hlt:(i:Int)<s.size
   · have hi':i<s.size:=by omega
     have af:=zHR s i hi';have n0:(0:Int)≤(i:Int):=by omega
     obtain⟨b,hb⟩:∃b,s[i]=b:=⟨_,rfl⟩;rw[hb]at af;have ah:((b.toNat:Int)).toNat.toUInt8=b:=by simp
     have ai:=zG2 b;rcases Jf (zAK b) 0 with hd|hd
     · have hN:zAH s.data.toList=none:=zKz (fun h=>by
        have:=zHQ h (i+1);rw[af,zCG,Zy,Zp]at this;omega)
       clear af hg ae;go_wp2_with (refine (Tryz.strings_IndexByte _ _ _).mono ?_;rintro e w1 ⟨rfl,rfl⟩;rw[ah,zCz]);go_ret2;exact⟨by unfold zBe;rw[hN];rfl,rfl⟩
     have ak:¬zAK b<0:=by omega
     have hval:Fi.val (s.data.toList.take (i+1))=v*16+zAK b:=by rw[af,zEs,ae]
     have aa:Fi.good (s.data.toList.take (i+1))=true:=by rw[af,zCG,hg,Zr hd];rfl
     have HV:=hy' hval;have HG:=hy' aa;have ag:=hy' ae;clear af hg hval aa ae;rw[ag.o];go_wp2_with (refine (Tryz.strings_IndexByte _ _ _).mono ?_;rintro e w1 ⟨rfl,rfl⟩;rw[ah,zCz]);exact⟨⟨i+1,by omega,by go_num,by rw[HV.o],HG.o⟩,by simp[intOf];omega⟩
   obtain rfl:i=s.size:=by omega
   rw[zJg]at hg ae ⊢;have HG:=hy' hg;have ag:=hy' ae;clear hg ae;rw[ag.o]
   by_cases hbig:v > 1114111
   · have hN:zAH s.data.toList=none:=by unfold zAH;rw[ag.o,decide_eq_false (by omega),Bool.and_false,Bool.and_false];rfl
     go_wp2;go_ret2;exact⟨by unfold zBe;rw[hN];rfl,rfl⟩
   have hN:zAH s.data.toList=some v:=by unfold zAH;rw[HL.o,HG.o,ag.o,decide_eq_true (by omega)];rfl
   have HN:=hy' hN;clear hN;go_wp2;go_ret2;exact⟨by unfold zBe;rw[HN.o];rfl,rfl⟩
 have i5:(s.size:Int) > 4:=by omega
 have i0:(0:Int)<s.size:=by omega
 have h0:0<s.size:=by omega
 obtain⟨b,hb⟩:∃b,s[0]=b:=⟨_,rfl⟩;have hh:=zG4 s h0;rw[hb]at hh
 by_cases hz:b=48
 · have hN:zAH s.data.toList=none:=zHd (by unfold zDg;rw[l4,l6,hh,hz,decide_eq_true (p:=4<s.data.toList.length) (by simp;omega)];rfl);have aj:(b.toNat:Int)=48:=by rw[hz];rfl
   clear hh hz;go_enter func152,ntmps152;go_wp2_with fail;go_ret2;exact⟨by unfold zBe;rw[hN];rfl,rfl⟩
 have hL:zDg s.data.toList=true:=by unfold zDg;rw[l4,l6,hh];simp[hz]
 have aj:¬(b.toNat:Int)=48:=fun h=>hz (UInt8.toNat_inj.1 (show b.toNat=48 by omega))
 have HL:=hy' hL;clear hh hz hL l4 l6;go_enter func152,ntmps152;go_wp2_with fail;go_loop [4,27] (fun vn vi=>∃i:Nat,i≤s.size∧vi=.int .i64 i∧vn=.int .i64 (Fi.val (s.data.toList.take i))∧Fi.good (s.data.toList.take i)=true) (fun _ vi=>s.size-(intOf vi).toNat)
 case atStart=>exact⟨0,by omega,rfl,rfl,rfl⟩
 obtain⟨i,hi,rfl,rfl,hg⟩:=hrel;have hv:=zMA _ hg i (by omega);rw[Qi,J9]at hv;obtain⟨v,ae⟩:∃v,Fi.val (s.data.toList.take i)=v:=⟨_,rfl⟩;rw[ae]at hv
 by_cases hlt:(i:Int)<s.size
 · have hi':i<s.size:=by omega
   have af:=zHR s i hi';have n0:(0:Int)≤(i:Int):=by omega
   obtain⟨b,hb⟩:∃b,s[i]=b:=⟨_,rfl⟩;rw[hb]at af;have ah:((b.toNat:Int)).toNat.toUInt8=b:=by simp
   have ai:=zG2 b;rcases Jf (zAK b) 0 with hd|hd
   · have hN:zAH s.data.toList=none:=zKz (fun h=>by
      have:=zHQ h (i+1);rw[af,zCG,Zy,Zp]at this;omega)
     clear af hg ae;go_wp2_with (refine (Tryz.strings_IndexByte _ _ _).mono ?_;rintro e w1 ⟨rfl,rfl⟩;rw[ah,zCz]);go_ret2;exact⟨by unfold zBe;rw[hN];rfl,rfl⟩
   have ak:¬zAK b<0:=by omega
   have hval:Fi.val (s.data.toList.take (i+1))=v*16+zAK b:=by rw[af,zEs,ae]
   have aa:Fi.good (s.data.toList.take (i+1))=true:=by rw[af,zCG,hg,Zr hd];rfl
   have HV:=hy' hval;have HG:=hy' aa;have ag:=hy' ae;clear af hg hval aa ae;rw[ag.o];go_wp2_with (refine (Tryz.strings_IndexByte _ _ _).mono ?_;rintro e w1 ⟨rfl,rfl⟩;rw[ah,zCz]);exact⟨⟨i+1,by omega,by go_num,by rw[HV.o],HG.o⟩,by simp[intOf];omega⟩
 obtain rfl:i=s.size:=by omega
 rw[zJg]at hg ae ⊢;have HG:=hy' hg;have ag:=hy' ae;clear hg ae;rw[ag.o]
 by_cases hbig:v > 1114111
 · have hN:zAH s.data.toList=none:=by unfold zAH;rw[ag.o,decide_eq_false (by omega),Bool.and_false,Bool.and_false];rfl
   go_wp2;go_ret2;exact⟨by unfold zBe;rw[hN];rfl,rfl⟩
 have hN:zAH s.data.toList=some v:=by unfold zAH;rw[HL.o,HG.o,ag.o,decide_eq_true (by omega)];rfl
 have HN:=hy' hN;clear hN;go_wp2;go_ret2;exact⟨by unfold zBe;rw[HN.o];rfl,rfl⟩
theorem Fi.Laid.below {w w':World} (h:Fi.Laid w) (hb:Below w.heap.size w w'):Fi.Laid w':=by
 obtain⟨⟨m,h1⟩,h2⟩:=h;exact⟨⟨m,by rw[(zAI hb).1 _ _ (YN w _ h1)];exact h1⟩,by rw[(zAI hb).1 _ _ (YN w _ h2)];exact h2⟩
def Fi.LaidM (w:World):Prop:=∃m:Int,w.cell? ⟨1,0,none⟩=some (.int .i64 m)
theorem Fi.LaidM.below {w w':World} (h:Fi.LaidM w) (hb:Below w.heap.size w w'):Fi.LaidM w':=by
 obtain⟨m,h1⟩:=h;exact⟨m,by rw[(zAI hb).1 _ _ (YN w _ h1)];exact h1⟩
theorem zOJ:∀d:Fin 16,Lib.upperB (zDZ d.val)=zBU d.val∧(zDZ d.val).toNat<128:=by decide
theorem zRB (l:List Nat) (h:∀d∈l,d<16):Lib.toUpperA (l.map zDZ)=l.map zBU:=by
 unfold Lib.toUpperA;rw[Xg];exact YW fun d hd=>(zOJ ⟨d,h d hd⟩).1
theorem zKA:∀c,Lib.repeatL [48] c=List.replicate c 48
 | 0=>rfl
 | c+1=>by rw[Lib.repeatL,zKA c];rfl
theorem zAN (a b:List UInt8):(⟨a.toArray⟩++⟨b.toArray⟩:ByteArray)=⟨(a++b).toArray⟩:=by
 apply Qz
 simp
theorem Fi.text_any (c:Nat) (hc:c<16777216) (w:World) (hL:Fi.Laid w) :
 Calls prog 132 #[.int .i32 c] w fun e w'=>e=.returned (.string ⟨(Fi.text c).toArray⟩)∧Below w.heap.size w w':=by
 obtain⟨n,hn⟩:∃n,zBh c=n:=⟨_,rfl⟩;have au:=zJd c;have aq:zBh c≤6:=zBV 5 c (by rw[show (16:Nat) ^ (5+1)=16777216 from by decide];exact hc);rw[hn]at au aq;have h1:∀W:World,Fi.Laid W→Calls prog 163 #[.int .i64 c,.int .i64 16] W fun e w'=>e=.returned (.string ⟨((Fi.low n c).map zDZ).toArray⟩)∧Below W.heap.size W w':=fun W hW=>by rw[←hn];exact zLb c hc W hW
 have h2:∀W:World,Calls prog 162 #[.string ⟨((Fi.low n c).map zDZ).toArray⟩] W fun e w'=>e=.returned (.string ⟨((Fi.low n c).map zBU).toArray⟩)∧Below W.heap.size W w':=fun W=>by
  have h:=Tryz.strings_ToUpper_ascii ⟨((Fi.low n c).map zDZ).toArray⟩ W (by show ((Fi.low n c).map zDZ).toArray.size≤_;simp[zD1];omega) (by
   intro j b hb;have hm:=Zn hb;simp only[Ji]at hm;obtain⟨d,hd,rfl⟩:=hm;exact (zOJ ⟨d,zE0 _ _ d hd⟩).2)
  rw[show Lib.toUpperA (⟨((Fi.low n c).map zDZ).toArray⟩:ByteArray).data.toList=(Fi.low n c).map zBU from zRB _ (zE0 n c)]at h;exact h
 have h3:∀(W:World) (k:Nat),k≤4→Calls prog 164 #[.string ⟨#[48]⟩,.int .i64 k] W fun e w'=>e=.returned (.string ⟨(List.replicate k 48).toArray⟩)∧Below W.heap.size W w':=fun W k hk=>by
  have h:=Tryz.strings_Repeat ⟨#[48]⟩ k W (by omega) (by show 1*k≤_;omega);rw[show (⟨#[48]⟩:ByteArray).data.toList=[48] from rfl,zKA]at h;exact h
 have hlen:(⟨((Fi.low n c).map zBU).toArray⟩:ByteArray).size=n:=by show ((Fi.low n c).map zBU).toArray.size=n;simp[zD1]
 have aa:(⟨(List.replicate (4-n) 48).toArray⟩++⟨((Fi.low n c).map zBU).toArray⟩:ByteArray)=⟨(Fi.text c).toArray⟩:=by
  rw[zAN,zPC,hn]
 have ao:(⟨(List.replicate (4-n) 48).toArray⟩:ByteArray).size=4-n:=by show (List.replicate (4-n) (48:UInt8)).toArray.size=_;simp
 obtain⟨raw,af⟩:∃raw,(⟨((Fi.low n c).map zDZ).toArray⟩:ByteArray)=raw:=⟨_,rfl⟩;obtain⟨ai,ae⟩:∃ai,(⟨((Fi.low n c).map zBU).toArray⟩:ByteArray)=ai:=⟨_,rfl⟩;obtain⟨zs,ag⟩:∃zs,(⟨(List.replicate (4-n) 48).toArray⟩:ByteArray)=zs:=⟨_,rfl⟩;rw[ae]at hlen aa;rw[ag]at aa ao;simp only[af]at h1 h2;simp only[ae]at h2;have ak:=fun W=>h3 W (4-n) (by omega)
 simp only[ag]at ak;clear af ae ag h3 hn;have HR:=hy' aa;clear aa;have ap:¬9223372036854775807<zs.size+ai.size:=by omega
 go_enter func132,ntmps132;go_wp2_with fail;refine (h1 _ (by assumption)).mono ?_;rintro e w1 ⟨rfl,ah⟩;go_wp2_with fail;refine (h2 _).mono ?_;rintro e w2 ⟨rfl,aj⟩;have hm:max (4-(n:Int)) 0=((4-n:Nat):Int):=by omega
 go_wp2_with fail;refine (ak _).mono ?_;rintro e w3 ⟨rfl,ar⟩;go_wp2_with fail;go_ret;refine⟨by rw[HR.o];rfl,(ah.trans (aj.mono ah.size)).trans (ar.mono (Zi ah.size aj.size))⟩
def zBx (l:List UInt8):List UInt8:=Lib.trimB (Lib.cut l [35]).1 32
theorem zDI (w:World) (n:Nat):Below w.heap.size w (w.drewN n):=⟨rfl,rfl,rfl,by simp[Qw],fun k hk=>by simp[Qw]⟩
theorem zMB (s:ByteArray) (hs:s.size<4294967281) (w:World) (hL:Fi.LaidM w) :
 Calls prog 121 #[.string s] w fun e w'=>e=.returned (.string ⟨(zBx s.data.toList).toArray⟩)∧Below w.heap.size w w':=by
 obtain⟨m,hm⟩:=hL;have h1:=Tryz.strings_Cut s ⟨#[35]⟩ m w hs hm;obtain⟨a,ha⟩:∃a,(⟨(Lib.cut s.data.toList [35]).1.toArray⟩:ByteArray)=a:=⟨_,rfl⟩
 have aa:a.size≤s.size:=by
  rw[←ha];show (Lib.cut s.data.toList [35]).1.toArray.size≤s.size;have h2:s.data.toList.length=s.size:=by simp
  unfold Lib.cut;split <;> simp <;> omega
 have h2:∀W:World,Calls prog 151 #[.string a,.string ⟨#[32]⟩] W fun e w'=>e=.returned (.string ⟨(zBx s.data.toList).toArray⟩)∧Below W.heap.size W w':=fun W=>by
  refine (Tryz.strings_Trim_one a 32 (by decide) W (by omega)).mono ?_;rintro e w' ⟨rfl,hw⟩;refine⟨by rw[←ha];rfl,?_⟩;rcases hw with rfl|rfl
  · exact Zc _ _
  exact (Zc _ _).drew
 rw[show (⟨#[35]⟩:ByteArray).data.toList=[35] from rfl,ha]at h1;clear ha hm;go_enter func121,ntmps121;go_wp2_with fail;refine h1.mono ?_;rintro e w1 ⟨rfl,q,rfl⟩;go_wp2_with fail;refine (h2 _).mono ?_;rintro e w2 ⟨rfl,hb⟩;go_wp2_with fail;go_ret;exact⟨rfl,(zDI w q).trans (hb.mono (by simp[Qw]))⟩
def zPG (W:World) (l:List (List UInt8)) (e:Ending) (w':World):Prop :=
 ∃(A:Option Addr) (n c:Nat),e=.returned (.slice A n c)∧l.length=n∧Sl w' w'.heap.size A (l.map fun x=>Value.string ⟨x.toArray⟩)∧Below W.heap.size W w'
def zAi (c:UInt8):List UInt8→List UInt8→List (List UInt8)
 | w,[]=>[w]
 | w,b::r=>if b=c then w::zAi c [] r else zAi c (w++[b]) r
theorem zQO (c:UInt8):∀(l w:List UInt8),zAi c w l≠[]
 | [],w=>by simp[zAi]
 | b::r,w=>by
   unfold zAi;split
   · simp
   exact zQO c r _
theorem zHe (c:UInt8):∀(a w r:List UInt8),c∉a→zAi c w (a++r)=zAi c (w++a) r
 | [],w,r,_=>by simp
 | b::a,w,r,h=>by
   have hb:b≠c:=fun e=>h (by rw[e];exact Zt)
   rw[Zx,zAi,Zl hb,zHe c a _ r (fun h'=>h (Zv _ h')),ZC];rfl
theorem zBC (c:UInt8) (a r:List UInt8) (h:c∉a):zAi c [] (a++c::r)=a::zAi c [] r:=by
 rw[zHe c a [] _ h,zAi,Zo rfl];rfl
theorem zCr (c:UInt8) (a:List UInt8) (h:c∉a):zAi c [] a=[a]:=by
 have:=zHe c a [] [] h;rw[Z4]at this;rw[this];rfl
theorem zHf (c:UInt8):∀(l w:List UInt8),(zAi c w l).length≤l.length+1
 | [],w=>by simp[zAi]
 | b::r,w=>by
   unfold zAi;split
   · have:=zHf c r [];simp;omega
   have:=zHf c r (w++[b]);simp;omega
theorem zEZ (c:UInt8):∀(l w:List UInt8),∀x∈zAi c w l,x.length≤w.length+l.length
 | [],w,x,h=>by simp[zAi]at h;subst h;simp
 | b::r,w,x,h=>by
   unfold zAi at h;split at h
   · rcases List.mem_cons.1 h with rfl|h
     · simp
     have:=zEZ c r [] x h;simp at this ⊢;omega
   have:=zEZ c r (w++[b]) x h;simp at this ⊢;omega
theorem zCs (c:UInt8):∀l:List UInt8,Lib.indexByte l c = -1→c∉l
 | [],_=>by simp
 | b::l,h=>by
   unfold Lib.indexByte at h;split at h
   · cases h
   rename_i hb;split at h
   · rename_i h2;have:=zCs c l (by simpa using h2);simp at hb;simp[this,Yd hb]
   have:=Lib.indexByte_ge l c;rename_i h2;simp at h2;omega
theorem zCt (c:UInt8):∀(l:List UInt8) (i:Nat),Lib.indexByte l c=i→l=l.take i++c::l.drop (i+1)∧c∉l.take i
 | [],i,h=>by
   simp only[Lib.indexByte]at h;omega
 | b::l,i,h=>by
   unfold Lib.indexByte at h;split at h
   · rename_i hb;have hi:i=0:=by omega
     subst hi;simp at hb;subst hb;simp
   rename_i hb;simp at hb;split at h
   · omega
   obtain⟨j,rfl⟩:∃j,i=j+1:=⟨i-1,by have:=Lib.indexByte_ge l c;rename_i h2;simp at h2;omega⟩;obtain⟨h1,h2⟩:=zCt c l j (by omega);refine⟨?_,?_⟩
   · rw[QL,List.drop_succ_cons,Zx,←h1]
   rw[QL];simp[h2,Yd hb]
theorem zNU (c:UInt8):∀(k:Nat) (s:ByteArray),Lib.countB s ⟨#[c]⟩≤k→(Lib.splitB ⟨#[c]⟩ 0 k s).map (·.data.toList)=zAi c [] s.data.toList:=by
 have ae:∀s:ByteArray,Lib.indexB s ⟨#[c]⟩=Lib.indexByte s.data.toList c:=fun s=>by
  show Lib.index s.data.toList [c]=_;exact Lib.index_one _ _
 intro k
 induction k with
 | zero =>
   intro s hk;rcases Lib.indexB_cases s ⟨#[c]⟩ with aa|⟨i,aa,_⟩
   · rw[Lib.splitB_miss _ _ _ _ aa,zCr c _ (zCs c _ (by rw[←ae];exact aa))];rfl
   have:=Lib.countB_hit s ⟨#[c]⟩ i (Za 1) aa;omega
 | succ k ih =>
   intro s hk;rcases Lib.indexB_cases s ⟨#[c]⟩ with aa|⟨i,aa,_⟩
   · rw[Lib.splitB_miss _ _ _ _ aa,zCr c _ (zCs c _ (by rw[←ae];exact aa))];rfl
   have hc:=Lib.countB_hit s ⟨#[c]⟩ i (Za 1) aa;obtain⟨h1,h2⟩:=zCt c s.data.toList i (by rw[←ae];exact aa);unfold Lib.splitB;rw[Zl (by rw[aa];simp;try omega),aa,Z1]
   have hd:(s.extract (i+1) s.size).data.toList=s.data.toList.drop (i+1):=by
    rw[Lib.extract_data,Zm (by simp)]
   have ht:(s.extract 0 i).data.toList=s.data.toList.take i:=by rw[Lib.extract_data];simp
   have af:=ih (s.extract (i+1) s.size) (by
    have e:(⟨#[c]⟩:ByteArray).size=1:=rfl;rw[e]at hc;omega)
   rw[hd]at af;show (s.extract 0 (((i:Int)).toNat+0)).data.toList::(Lib.splitB ⟨#[c]⟩ 0 k (s.extract (((i:Int)).toNat+1) s.size)).map (·.data.toList)=_;rw[Y9,YV,ht,af]
   conv=>rhs;rw[h1]
   rw[zBC c _ _ h2]
theorem zNV (c:UInt8) (l:List UInt8):(zAi c [] l).head?=some (Lib.cut l [c]).1:=by
 unfold Lib.cut;rw[Lib.index_one]
 by_cases h:Lib.indexByte l c = -1
 · rw[Zl (by omega),zCr c l (zCs c l h)];rfl
 have hge:=Lib.indexByte_ge l c;obtain⟨i,hi⟩:∃i:Nat,Lib.indexByte l c=i:=⟨(Lib.indexByte l c).toNat,by omega⟩;obtain⟨h1,h2⟩:=zCt c l i hi;rw[Zo (by omega),hi]
 conv=>lhs;rw[h1]
 rw[zBC c _ _ h2];simp
def zAt (c:UInt8):List (List UInt8)→List UInt8
 | []=>[]
 | x::r=>x++(r.map fun y=>c::y).flatten
theorem zMC (c:UInt8) (l:List (List UInt8)) (x:List UInt8):zAt c (l++[x])=(if l=[] then x else zAt c l++c::x):=by
 rcases l with _|⟨y,t⟩
 · simp[zAt]
 simp[zAt]
theorem zGC (c:UInt8) (b:UInt8) (t:List UInt8):Lib.trimRightB (b::t) c=if Lib.trimRightB t c=[] then (if b=c then [] else [b]) else b::Lib.trimRightB t c:=by
 unfold Lib.trimRightB;rw[List.reverse_cons,List.dropWhile_append]
 by_cases h:(t.reverse.dropWhile (· == c))=[]
 · rw[h];simp[YD];split <;> simp
 have h':(t.reverse.dropWhile (· == c)).isEmpty=false:=by simpa using h
 rw[h'];simp[h]
theorem zF0 (c:UInt8):∀l:List UInt8,Lib.trimB l c=Lib.trimRightB (Lib.trimLeftB l c) c
 | []=>rfl
 | b::t=>by
   have ih:=zF0 c t;unfold Lib.trimB Lib.trimLeftB at ih ⊢;rw[zGC,YD]
   by_cases hb:b=c
   · subst hb;simp only[Jb,Yt];split
     · rename_i h;rw[←ih,h]
     rw[YD];simp only[Jb,Yt];exact ih
   have aa:(b == c)=false:=by simpa using hb
   rw[aa];simp only[hb,Yg,ZN];rw[zGC];simp only[hb,Yg];split
   · rw[YD,aa];simp
   rw[YD,aa];simp
theorem zLc (c:UInt8) (l:List UInt8):Lib.trimRightB (l++[c]) c=Lib.trimRightB l c:=by
 unfold Lib.trimRightB;rw[JM];simp[YD]
theorem zLd (c:UInt8) (l:List UInt8) (b:UInt8) (h:b≠c):Lib.trimRightB (l++[b]) c=l++[b]:=by
 unfold Lib.trimRightB;rw[JM];simp[YD,h]
end
section
open Go.RowKit
attribute [local go_sem] Oper.semAt_some
def zEt (l:List (List UInt8)):List ByteArray:=l.map fun x=>⟨x.toArray⟩
def Q.left (b:Nat) (W:World):Nat:=match W.cell? ⟨b,0,none⟩ with|some (.string r)=>r.size|_=>0
theorem zE1 {W:World} {b:Nat} {t:TypeId} {r:ByteArray} (h:Boxed W b t (.string r)):Q.left b W=r.size:=by unfold Q.left;rw[h.cell]
theorem Q.kept {b:Nat} {ks:List Nat} {W W':World} (h:R.Kept ks W W') {t:TypeId} {v:Value} (hb:Boxed W b t v) (hm:b∈ks):Boxed W' b t v:=h b hm _ hb
theorem zNW {r:ByteArray} {i:Nat} (h:Lib.indexByte r.data.toList 32=i):zEt (zAi 32 [] r.data.toList)=r.extract 0 i::zEt (zAi 32 [] (r.extract (i+1) r.size).data.toList):=by
 obtain⟨h1,h2⟩:=zCt 32 _ i h;have hd:(r.extract (i+1) r.size).data.toList=r.data.toList.drop (i+1):=by rw[Lib.extract_data,Zm (by simp)]
 have ht:(r.extract 0 i).data.toList=r.data.toList.take i:=by rw[Lib.extract_data];simp
 rw[hd]
 conv=>lhs;rw[h1]
 rw[zBC 32 _ _ h2];unfold zEt;rw[Z1,←ht,Lib.mk_data]
theorem zMD {r:ByteArray} (h:Lib.indexByte r.data.toList 32 = -1):zEt (zAi 32 [] r.data.toList)=[r]:=by
 rw[zCr 32 _ (zCs 32 _ h)];unfold zEt;rw[Xo,Lib.mk_data]
theorem Q.idx_lt {r:ByteArray} {i:Nat} (h:Lib.indexByte r.data.toList 32=i):i<r.size:=by
 obtain⟨h1,_⟩:=zCt 32 _ i h;have:=Yb List.length h1;have hl:r.data.toList.length=r.size:=by simp
 rw[Zd,ZE,Zq,ZO,hl]at this;omega
theorem zNX (s:ByteArray) (hs:s.size≤1000000) (n b:Nat) (hn:1≤n) (W:World) (h0:Boxed W b 9 (.string s)) (h1:Boxed W (b+1) 9 (.string ⟨#[32]⟩)) (h2:Boxed W (b+2) 3 (.int .i64 0)) :
 zSc n prog 274 #[.pointer (some ⟨b+1,0,none⟩),.pointer (some ⟨b,0,none⟩),.pointer (some ⟨b+2,0,none⟩)] (fun x:ByteArray => #[Value.string x]) b [b,b+1,b+2]
  (fun xs=>xs=zEt (zAi 32 [] s.data.toList)) (fun pre=>pre <+: zEt (zAi 32 [] s.data.toList)) (zEt (zAi 32 [] s.data.toList)).length W:=fun l J Jx hJ ap hY hj0=>by
 obtain⟨L,hL⟩:∃L,zEt (zAi 32 [] s.data.toList)=L:=⟨_,rfl⟩;rw[hL]at hY ⊢;have c1:=h1.cell;refine callsIn_of_wp func274 rfl trivial ?_ rfl;simp only[ntmps274,Ql,ZE,Z2,Nat.reduceAdd,Nat.reduceSub,XT,XU,Qm,XY,ZH,Zx]
 gi_wp2
 gi_loopw [7] (fun _ wr=>∃(pre:List ByteArray) (r:ByteArray),L=pre++zEt (zAi 32 [] r.data.toList)∧Boxed wr b 9 (.string r)∧Boxed wr (b+1) 9 (.string ⟨#[32]⟩)∧Boxed wr (b+2) 3 (.int .i64 0)∧J pre wr∧r.size≤s.size)
  (fun _ wr=>Q.left b wr)
 case atStart=>exact⟨[],s,hL.symm,h0,h1,h2,hj0,Za _⟩
 obtain⟨pre,r,aa,b0,b1,b2,ah,aj⟩:=hrel;have d0:=b0.cell;have d1:=b1.cell;have d2:=b2.cell
 by_cases hidx:Lib.indexByte r.data.toList 32 = -1
 · rw[zMD hidx]at aa;obtain⟨fn,tmps,assign,body,hy,hR⟩:=hY pre r wr ah (by rw[aa];simp) (by rw[aa];exact Qx _)
   gi_wp2_with (refine⟨trivial,?_⟩;gi_at_call 238;refine (callsIn_wide.2 (Tryz.strings_Index_one r 32 _)).mono ?_;rintro e w1 ⟨rfl,rfl⟩;rw[hidx])
   refine hR.mono ?_;rintro e W3 (⟨rfl,ag,af⟩|⟨rfl,ae⟩)
   · gi_wp2
     go_end0;exact⟨⟨_,rfl⟩,.inl ⟨pre++[r],aa.symm,ag⟩⟩
   gi_wp2
   go_end0;exact⟨⟨_,rfl⟩,.inr ⟨pre++[r],by rw[aa];exact Qx _,ae⟩⟩
 have hge:=Lib.indexByte_ge r.data.toList 32;obtain⟨i,hi⟩:∃i:Nat,Lib.indexByte r.data.toList 32=i:=⟨(Lib.indexByte r.data.toList 32).toNat,by omega⟩;have ak:=Q.idx_lt hi;rw[zNW hi]at aa;obtain⟨x,hx⟩:∃x,r.extract 0 i=x:=⟨_,rfl⟩;obtain⟨z,hz⟩:∃z,r.extract (i+1) r.size=z:=⟨_,rfl⟩;rw[hx,hz]at aa;have ao:z.size=r.size-(i+1):=by rw[←hz,Jl];omega
 have i0:¬(i:Int)<0:=by omega
 have i1:(0:Int)≤(i:Int):=by omega
 have i2:(i:Int)≤r.size:=by omega
 have i3:(0:Int)≤(i:Int)+1:=by omega
 have i4:(i:Int)+1≤r.size:=by omega
 obtain⟨fn,tmps,assign,body,hy,hR⟩:=hY pre x wr ah (by rw[aa];simp) ⟨_,by rw[aa,ZC];rfl⟩;have HI:=hy' hi;have HP:=hy' aa;clear hi hidx aa hge
 gi_wp2_with (refine⟨trivial,?_⟩;gi_at_call 238;refine (callsIn_wide.2 (Tryz.strings_Index_one r 32 _)).mono ?_;rintro e w1 ⟨rfl,rfl⟩;rw[HI.o])
 refine hR.mono ?_;rintro e W3 (⟨rfl,ag,af⟩|⟨rfl,ae⟩)
 · have k0:=Q.kept af b0 (by simp);have k1:=Q.kept af b1 (by simp);have k2:=Q.kept af b2 (by simp);have e0:=k0.cell;have e1:=k1.cell;have e2:=k2.cell;have f0:=k0.frozen;have ai:=hy' ag;clear af ag
   gi_wp2
   go_roundw
   case rel=>exact⟨pre++[x],z,by rw[HP.o];simp,k0.set _,k1.other (by omega) _,k2.other (by omega) _,hJ _ _ _ _ ai.o (grownBy_setCell' W3 b (.string z)) (fun q e=>by cases e;rfl),by omega⟩
   rw[zE1 (k0.set _),zE1 b0];omega
 gi_wp2
 refine YH (QO rfl _ _ _) rfl ?_;exact⟨⟨_,rfl⟩,.inr ⟨pre++[x],⟨_,by rw[HP.o,ZC];rfl⟩,ae⟩⟩
end
section
open Go.RowKit Go.Stop
def zDh (l:List UInt8):Int:=l.foldl (fun n b=>10*n+((b.toNat:Int)-48)) 0
def zME (b:UInt8):Bool:=decide (48≤b.toNat)&&decide (b.toNat≤57)
def zLe (l:List UInt8) (aa:Int):Bool:=(l == Lib.decDigits (zDh l).toNat)&&decide (zDh l≤aa)
def zDi (l:List UInt8) (aa:Int):Option Int:=if zLe l aa then some (zDh l) else none
theorem zMF (l:List UInt8) (b:UInt8):zDh (l++[b])=10*zDh l+((b.toNat:Int)-48):=by simp[zDh,YL]
theorem zIk (d:Nat) (h:d<10):(UInt8.ofNat (48+d)).toNat=48+d:=by rw[XF,Xy (by omega)]
theorem zG5 (u:Nat):zDh (Lib.decDigits u)=(u:Int):=by
 rw[Lib.decDigits];split
 · rename_i h;simp only[zDh,Yh,JA,zIk u h];omega
 · rename_i h;rw[zMF,zG5 (u/10),zIk _ (by omega)];omega
 termination_by u
 decreasing_by omega
theorem zEu (u:Nat):∀b∈Lib.decDigits u,zME b=true:=by
 rw[Lib.decDigits];split
 · rename_i h;intro b hb;rw[Zw]at hb;subst hb;unfold zME;rw[zIk u h,Zr (by omega),Zr (by omega)];rfl
 · intro b hb;rcases List.mem_append.1 hb with h|h
   · exact zEu (u/10) b h
   rw[Zw]at h;subst h;unfold zME;rw[zIk _ (by omega),Zr (by omega),Zr (by omega)];rfl
 termination_by u
 decreasing_by omega
theorem zQP (u:Nat):Lib.decDigits u≠[]:=by
 rw[Lib.decDigits];split
 · simp
 simp
theorem zD2:∀(k u:Nat),u<10 ^ (k+1)→(Lib.decDigits u).length≤k+1
 | 0,u,h=>by rw[Lib.decDigits,dif_pos (by simpa using h)];simp
 | k+1,u,h=>by
   rw[Lib.decDigits];split
   · simp
   have:=zD2 k (u/10) (by rw[Xb]at h;omega);simp;omega
theorem zHS (u:Nat) (aa:Int) (h:(u:Int)≤aa):zDi (Lib.decDigits u) aa=some (u:Int):=by
 unfold zDi zLe;rw[zG5,Y9,Jb,Zr h];rfl
theorem zNY {l:List UInt8} {aa v:Int} (h:zDi l aa=some v):∃u:Nat,v=u∧(u:Int)≤aa∧l=Lib.decDigits u:=by
 unfold zDi at h;split at h
 · rename_i h1;unfold zLe at h1;rw[Zy,YP,Zp]at h1;obtain⟨h2,h3⟩:=h1
   have h4:zDh l=((zDh l).toNat:Int):=by
    conv=>lhs;rw[h2,zG5]
   simp only[Zh]at h;exact⟨(zDh l).toNat,by rw[←h];exact h4,by omega,h2⟩
 cases h
theorem zFI {l:List UInt8} {aa:Int} (h:∀u:Nat,(u:Int)≤aa→l≠Lib.decDigits u):zDi l aa=none:=by
 rcases hn:zDi l aa with _|v
 · rfl
 obtain⟨u,_,h2,h3⟩:=zNY hn;exact absurd h3 (h u h2)
theorem zFJ:∀(a:List UInt8) (b:UInt8) (acc:Nat),Lib.decFrom acc (a++[b])=(Lib.decFrom acc a).bind fun n=>(Lib.digitVal b).map fun d=>n*10+d
 | [],b,acc=>by
   simp only[ZH,Lib.decFrom];rcases Lib.digitVal b with _|d <;> rfl
 | c::t,b,acc=>by
   simp only[Zx,Lib.decFrom];rcases Lib.digitVal c with _|d
   · rfl
   exact zFJ t b _
theorem zF1 (d:Nat) (h:d<10):Lib.digitVal (UInt8.ofNat (48+d))=some d:=by
 have key:∀d:Fin 10,Lib.digitVal (UInt8.ofNat (48+d.val))=some d.val:=by decide
 exact key ⟨d,h⟩
theorem zFK (u:Nat):Lib.decFrom 0 (Lib.decDigits u)=some u:=by
 rw[Lib.decDigits];split
 · rename_i h;simp only[Lib.decFrom,zF1 u h];simp
 · rename_i h;rw[zFJ,zFK (u/10),ZD,zF1 _ (by omega),ZA];congr 1;omega
 termination_by u
 decreasing_by omega
theorem zJh (u:Nat) (h:u<10000000000):Lib.atoiAll (Lib.decDigits u)=.ok (u:Int):=by
 have hl:(Lib.decDigits u).length≤10:=zD2 9 u (by rw[show (10:Nat) ^ (9+1)=10000000000 from by decide];exact h);rw[Lib.atoiAll_short _ (by omega)];have hne:=zQP u;have hd:=zEu u;have hf:=zFK u;rcases hc:Lib.decDigits u with _|⟨b,r⟩
 · exact absurd hc hne
 rw[hc]at hd hf;have hb:=hd b Zt;unfold zME at hb;rw[Zy,Zp,Zp]at hb
 have aa:(b == 45)=false:=by
  rw[Xr];rintro rfl;exact absurd hb.1 (by decide)
 have ae:(b == 43)=false:=by
  rw[Xr];rintro rfl;exact absurd hb.1 (by decide)
 have hn:Lib.decNat (b::r)=some u:=by
  unfold Lib.decNat;simpa using hf
 unfold Lib.atoi;simp only[aa,ae,hn,ZN,Yg];rfl
def zAS:List UInt8→List UInt8→List (List UInt8)
 | w,[]=>if w=[] then [] else [w]
 | w,b::r=>if b=10 then w::zAS [] r else zAS (w++[b]) r
theorem zKB:∀(a w r:List UInt8),(10:UInt8)∉a→zAS w (a++r)=zAS (w++a) r
 | [],w,r,_=>by simp
 | b::a,w,r,h=>by
   have hb:b≠10:=fun e=>h (by rw[e];exact Zt)
   rw[Zx,zAS,Zl hb,zKB a _ r (fun h'=>h (Zv _ h')),ZC];rfl
theorem zPH (a r:List UInt8) (h:(10:UInt8)∉a):zAS [] (a++10::r)=a::zAS [] r:=by
 rw[zKB a [] _ h,zAS,Zo rfl];rfl
theorem zEv:∀(l:List (List UInt8)),(∀x∈l,(10:UInt8)∉x)→zAS [] (l.flatMap fun x=>x++[10])=l
 | [],_=>rfl
 | x::l,h=>by
   rw[Y8,ZC,List.singleton_append,zPH _ _ (h x Zt),zEv l fun y hy=>h y (Zv _ hy)]
theorem zHg:∀(l w:List UInt8),(zAS w l).length≤l.length+1
 | [],w=>by unfold zAS;split <;> simp
 | b::r,w=>by
   unfold zAS;split
   · have:=zHg r [];simp;omega
   have:=zHg r (w++[b]);simp;omega
def zCg (x:List UInt8):Bool:=x.all fun b=>decide (32≤b.toNat)&&decide (b.toNat≤126)
def zCh (x:List UInt8):Bool:=decide (x.length≤1000)&&zCg x
def Rw.mp (f:List UInt8):Option (List Int) :=
 if f=[]∨f.head?=some 60 then some []
 else if (zAi 32 [] f).all (fun x=>(zAH x).isSome)=true∧(zAi 32 [] f).length≤2 then some ((zAi 32 [] f).map fun x=>(zAH x).getD 0)
 else none
def Rw.row (F:List (List UInt8)):Option Rw.Row :=
 if F.length=15∧F.getD 1 []≠[] then
  (zAH (F.getD 0 [])).bind fun c=>(zDi (F.getD 3 []) 254).bind fun k=>(Rw.mp (F.getD 5 [])).map fun m=>(c,k,m)
 else none
def Rw.quiet (r:Rw.Row):Bool:=decide (r.2.1=0)&&decide (r.2.2.length=0)
def Rw.first:List UInt8:=[44,32,70,105,114,115,116,62]
def Rw.last:List UInt8:=[44,32,76,97,115,116,62]
def zCK (s e:List UInt8):Bool:=decide (e.length≤s.length)&&(s.drop (s.length-e.length) == e)
def zC1 (s e:List UInt8):List UInt8:=if zCK s e then s.take (s.length-e.length) else s
def zBK (was name:List UInt8) (q:Bool):Option (List UInt8) :=
 if was≠[]∨zCK name Rw.last=true then (if zCK name Rw.last=true∧zC1 name Rw.last++Rw.first=was∧q=true then some [] else none)
 else if zCK name Rw.first=true then (if q then some (zC1 name Rw.first++Rw.first) else none)
 else some []
abbrev Rw.St:=List Rw.Row × Int × List UInt8
def Rw.step (st:Rw.St) (l:List UInt8):Option Rw.St :=
 (Rw.row (zAi 59 [] l)).bind fun r =>
   if st.2.1<r.1 then (zBK st.2.2 ((zAi 59 [] l).getD 1 []) (Rw.quiet r)).bind fun o =>
    if C.isC r.1=true∨Rw.quiet r=true then some (if Rw.quiet r then st.1 else st.1++[r],r.1,o) else none
   else none
def Rw.steps:Rw.St→List (List UInt8)→Option Rw.St
 | st,[]=>some st
 | st,l::r=>(Rw.step st l).bind fun st'=>Rw.steps st' r
theorem Rw.steps_app:∀(a b:List (List UInt8)) (st:Rw.St),Rw.steps st (a++b)=(Rw.steps st a).bind fun st'=>Rw.steps st' b
 | [],b,st=>rfl
 | l::a,b,st=>by
   rw[Zx,Rw.steps,Rw.steps];rcases Rw.step st l with _|st'
   · rfl
   exact Rw.steps_app a b st'
def Rw.parse (s:List UInt8):Option (List Rw.Row) :=
 if (zAS [] s).all zCh=true∧(zAS [] s).length≤40000 then (Rw.steps ([],-1,[]) (zAS [] s)).bind fun st=>if st.2.2=[] then some st.1 else none
 else none
def Rw.line (r:Rw.Row):List UInt8 :=
 Fi.text r.1.toNat++([59,88,59,59]++(Lib.decDigits r.2.1.toNat++([59,59]++(zAt 32 (r.2.2.map fun c=>Fi.text c.toNat)++[59,59,59,59,59,59,59,59,59]))))
def zF2 (r:Rw.Row):List (List UInt8) :=
 [Fi.text r.1.toNat,[88],[],Lib.decDigits r.2.1.toNat,[],zAt 32 (r.2.2.map fun c=>Fi.text c.toNat),[],[],[],[],[],[],[],[],[]]
def Rw.right (r:Rw.Row):Prop:=0≤r.1∧r.1≤1114111∧0≤r.2.1∧r.2.1≤254∧r.2.2.length≤2∧∀c∈r.2.2,0≤c∧c≤1114111
theorem zNZ:∀d:Fin 16,48≤(zBU d.val).toNat∧(zBU d.val).toNat≤70∧(zBU d.val)≠59:=by decide
theorem zCi (n:Nat):∀b∈Fi.text n,48≤b.toNat∧b.toNat≤70∧b≠59:=by
 intro b hb;unfold Fi.text at hb;obtain⟨d,hd,rfl⟩:=List.mem_map.1 hb;exact zNZ ⟨d,zE0 _ _ d hd⟩
theorem zFv (n:Nat) (c:UInt8) (h:c.toNat<48∨c=59):c∉Fi.text n:=fun hb=>by
 have:=zCi n c hb;rcases h with h|h
 · omega
 exact this.2.2 h
theorem zQQ:∀d:Fin 16,zBU d.val≠60:=by decide
theorem zO0 (n:Nat):∀b∈Fi.text n,b≠60:=by
 intro b hb;unfold Fi.text at hb;obtain⟨d,hd,rfl⟩:=List.mem_map.1 hb;exact zQQ ⟨d,zE0 _ _ d hd⟩
theorem zHh (n:Nat):Fi.text n≠[]:=fun h=>by
 have:=Fi.text_len n;rw[h,Z2]at this;omega
theorem zHT (n:Nat):∀b∈Lib.decDigits n,48≤b.toNat∧b.toNat≤57:=by
 intro b hb;have:=zEu n b hb;unfold zME at this;rw[Zy,Zp,Zp]at this;exact this
theorem zQR (n:Nat) (c:UInt8) (h:c.toNat<48∨57<c.toNat):c∉Lib.decDigits n:=fun hb=>by
 have:=zHT n c hb;omega
theorem zJi (c:UInt8):∀(l:List (List UInt8)) (x:List UInt8),c∉x→(∀y∈l,c∉y)→zAi c [] (zAt c (x::l))=x::l
 | [],x,hx,_=>by simp[zAt];exact zCr c x hx
 | y::l,x,hx,h=>by
   have e:zAt c (x::y::l)=x++c::zAt c (y::l):=by simp[zAt]
   rw[e,zBC c _ _ hx,zJi c l y (h y Zt) fun z hz=>h z (Zv _ hz)]
theorem zLf (c:UInt8):∀(l:List (List UInt8)),∀b∈zAt c l,b=c∨∃x∈l,b∈x
 | [],b,h=>by simp[zAt]at h
 | x::l,b,h=>by
   simp only[zAt,YS,List.mem_flatten,Ji]at h;rcases h with h|⟨y,⟨z,hz,rfl⟩,hb⟩
   · exact .inr ⟨x,Zt,h⟩
   rcases List.mem_cons.1 hb with h|h
   · exact .inl h
   exact .inr ⟨z,Zv _ hz,h⟩
theorem zHU (m:List Int):∀b∈zAt 32 (m.map fun c=>Fi.text c.toNat),b=32∨(48≤b.toNat∧b.toNat≤70∧b≠59):=by
 intro b hb;rcases zLf 32 _ b hb with h|⟨x,hx,aa⟩
 · exact .inl h
 obtain⟨c,_,rfl⟩:=List.mem_map.1 hx;exact .inr (zCi _ b aa)
theorem zJJ (r:Rw.Row):zAi 59 [] (Rw.line r)=zF2 r:=by
 have hm:(59:UInt8)∉zAt 32 (r.2.2.map fun c=>Fi.text c.toNat):=fun h=>by
  rcases zHU _ _ h with h|h
  · exact absurd h (by decide)
  exact h.2.2 rfl
 unfold Rw.line zF2
 rw[show ∀x:List UInt8,[59,88,59,59]++x=59::([88]++59::([]++59::x)) from fun _=>rfl,zBC 59 _ _ (zFv _ _ (.inr rfl)),zBC 59 _ _ (by decide),zBC 59 _ _ (by decide),
  show ∀x:List UInt8,[59,59]++x=59::([]++59::x) from fun _=>rfl,zBC 59 _ _ (zQR _ _ (.inr (by decide))),zBC 59 _ _ (by decide),zBC 59 _ _ hm]
 rfl
theorem zE2 (r:Rw.Row) (hr:Rw.right r):zCh (Rw.line r)=true:=by
 obtain⟨c0,c1,k0,k1,hm,hc⟩:=hr;have l1:=zAG r.1.toNat (by omega);have l2:=zD2 9 r.2.1.toNat (by rw[show (10:Nat) ^ (9+1)=10000000000 from by decide];omega)
 have l3:(zAt 32 (r.2.2.map fun c=>Fi.text c.toNat)).length≤20:=by
  obtain⟨c,k,m⟩:=r;rcases m with _|⟨a,_|⟨b,_|⟨d,t⟩⟩⟩
  · simp[zAt]
  · have:=zAG a.toNat (by have:=(hc a (by simp)).2;omega);simp[zAt];omega
  · have h1:=zAG a.toNat (by have:=(hc a (by simp)).2;omega);have h2:=zAG b.toNat (by have:=(hc b (by simp)).2;omega);simp[zAt];omega
  simp at hm
 unfold zCh;rw[Zy,Zp];refine⟨?_,?_⟩
 · unfold Rw.line;simp only[Zd,ZE,Z2];omega
 unfold zCg;rw[Yi]
 have key:∀b:UInt8,(b=32∨b=59∨b=88∨(48≤b.toNat∧b.toNat≤70))→(decide (32≤b.toNat)&&decide (b.toNat≤126))=true:=by
  intro b hb;rw[Zy,Zp,Zp];rcases hb with rfl|rfl|rfl|hb
  · decide
  · decide
  · decide
  omega
 intro b hb;apply key
 unfold Rw.line at hb;simp only[YS]at hb;rcases hb with hb|hb|hb|hb|hb|hb
 · have:=zCi _ b hb;exact .inr (.inr (.inr ⟨this.1,this.2.1⟩))
 · simp at hb;rcases hb with rfl|rfl|rfl|rfl <;> simp
 · have:=zHT _ b hb;exact .inr (.inr (.inr ⟨this.1,by omega⟩))
 · simp at hb;subst hb;simp
 · rcases zHU _ b hb with h|h
   · exact .inl h
   exact .inr (.inr (.inr ⟨h.1,h.2.1⟩))
 simp at hb;subst hb;simp
theorem zPI (r:Rw.Row) (hr:Rw.right r):(10:UInt8)∉Rw.line r:=fun h=>by
 have:=zE2 r hr;unfold zCh zCg at this;rw[Zy,Yi]at this;exact absurd (this.2 10 h) (by decide)
theorem zEw {c:Int} (h:0≤c):((c.toNat:Nat):Int)=c:=by omega
theorem zPJ (m:List Int) (hm:m.length≤2) (hc:∀c∈m,0≤c∧c≤1114111):Rw.mp (zAt 32 (m.map fun c=>Fi.text c.toNat))=some m:=by
 rcases m with _|⟨a,t⟩
 · simp[zAt,Rw.mp]
 have hs:zAi 32 [] (zAt 32 ((a::t).map fun c=>Fi.text c.toNat))=(a::t).map fun c=>Fi.text c.toNat :=
  zJi 32 _ _ (zFv _ _ (.inl (by decide))) fun y hy=>by
   obtain⟨c,_,rfl⟩:=List.mem_map.1 hy;exact zFv _ _ (.inl (by decide))
 have hx:∀c∈a::t,zAH (Fi.text c.toNat)=some c:=fun c aa=>by
  rw[zG3 _ (by have:=(hc c aa).2;omega),zEw (hc c aa).1]
 have hne:¬(zAt 32 ((a::t).map fun c=>Fi.text c.toNat)=[]∨(zAt 32 ((a::t).map fun c=>Fi.text c.toNat)).head?=some 60):=by
  obtain⟨b,q,hb⟩:∃b q,Fi.text a.toNat=b::q:=by
   rcases h:Fi.text a.toNat with _|⟨b,q⟩
   · exact absurd h (zHh _)
   exact⟨b,q,rfl⟩
  have ag:=zO0 a.toNat b (by rw[hb];exact Zt);rw[Z1,hb];simp only[zAt,Zx,Kp,Zh];rintro (h|h)
  · cases h
  subst h;exact ag rfl
 have ae:(((a::t).map fun c=>Fi.text c.toNat).all fun x=>(zAH x).isSome)=true:=by
  rw[Yi];intro x af;obtain⟨c,aa,rfl⟩:=List.mem_map.1 af;rw[hx c aa];rfl
 unfold Rw.mp;rw[if_neg hne,hs,if_pos ⟨ae,by simpa using hm⟩,List.map_map];congr 1
 conv=>rhs;rw[←List.map_id (a::t)]
 refine YW fun c aa=>?_
 show (zAH (Fi.text c.toNat)).getD 0=c;rw[hx c aa];rfl
theorem zLg (r:Rw.Row) (hr:Rw.right r):Rw.row (zF2 r)=some r:=by
 obtain⟨c0,c1,k0,k1,hm,hc⟩:=hr;unfold Rw.row;rw[Zo ⟨rfl,show ([88]:List UInt8)≠[] from by decide⟩];show (zAH (Fi.text r.1.toNat)).bind (fun c=>(zDi (Lib.decDigits r.2.1.toNat) 254).bind fun k=>(Rw.mp (zAt 32 (r.2.2.map fun c=>Fi.text c.toNat))).map fun m=>(c,k,m))=_;rw[zG3 _ (by omega),zHS _ _ (by omega),zPJ _ hm hc,zEw c0,zEw k0];rfl
theorem zHV (out:List Rw.Row) (c:Int) (r:Rw.Row) (hr:Rw.right r) (aa:c<r.1) (hq:C.isC r.1=true∨Rw.quiet r=true) :
 Rw.step (out,c,[]) (Rw.line r)=some (if Rw.quiet r then out else out++[r],r.1,[]):=by
 unfold Rw.step;rw[zJJ,zLg r hr,ZD,Zo aa]
 have:zBK [] ((zF2 r).getD 1 []) (Rw.quiet r)=some []:=by
  show zBK [] [88] (Rw.quiet r)=some [];unfold zBK;rw[Zl (by decide),Zl (by decide)]
 show (zBK [] ((zF2 r).getD 1 []) (Rw.quiet r)).bind _=_;rw[this,ZD,Zo hq]
def zDj:Int→List Rw.Row→Prop
 | _,[]=>True
 | c,r::l=>c<r.1∧zDj r.1 l
theorem zFL:∀(l:List Rw.Row) (out:List Rw.Row) (c:Int),(∀r∈l,Rw.right r∧(C.isC r.1=true∨Rw.quiet r=true))→zDj c l →
 ∃c',Rw.steps (out,c,[]) (l.map Rw.line)=some (out++l.filter (fun r=>!Rw.quiet r),c',[])
 | [],out,c,_,_=>⟨c,by simp[Rw.steps]⟩
 | r::l,out,c,h,hr=>by
   obtain⟨h1,h2⟩:=h r Zt;rw[Z1,Rw.steps,zHV out c r h1 hr.1 h2,ZD];obtain⟨c',aa⟩:=zFL l (if Rw.quiet r then out else out++[r]) r.1 (fun q hq=>h q (Zv _ hq)) hr.2;refine⟨c',?_⟩;rw[aa,Yu]
   by_cases hq:Rw.quiet r=true
   · simp[hq]
   simp[hq]
theorem zJK (l:List Rw.Row) (h:∀r∈l,Rw.right r∧(C.isC r.1=true∨Rw.quiet r=true)) (hr:zDj (-1) l) (hl:l.length≤40000) :
 Rw.parse ((l.map Rw.line).flatMap fun x=>x++[10])=some (l.filter fun r=>!Rw.quiet r):=by
 have hn:zAS [] ((l.map Rw.line).flatMap fun x=>x++[10])=l.map Rw.line:=zEv _ fun x hx=>by
  obtain⟨r,hm,rfl⟩:=List.mem_map.1 hx;exact zPI r (h r hm).1
 obtain⟨c',ae⟩:=zFL l [] (-1) h hr
 have aa:(l.map Rw.line).all zCh=true:=by
  rw[Yi];intro x hx;obtain⟨r,hm,rfl⟩:=List.mem_map.1 hx;exact zE2 r (h r hm).1
 unfold Rw.parse;rw[hn,Zo ⟨aa,by rw[Ze];exact hl⟩,ae];rfl
end
end Go.Proofs.YtddbccflcekdpaaGreatDoor
