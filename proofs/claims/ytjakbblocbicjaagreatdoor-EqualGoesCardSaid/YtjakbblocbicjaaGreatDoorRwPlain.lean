/- The layer field: Hex, by walking its text. -/
import Derived.Test.YtjakbblocbicjaaGreatDoorFiBits
import Derived.Test.YtjakbblocbicjaaGreatDoorShelf
set_option maxRecDepth 100000
set_option maxHeartbeats 4000000
set_option linter.unusedVariables false
set_option linter.unusedSimpArgs false
namespace Go.Proofs.YtjakbblocbicjaaGreatDoor
open Go.Proofs.Tryz
open Go.RowKit Go.Stop
theorem zMp (l:List UInt8) (hg:Fi.good l=true) (i:Nat) (hi:i≤6):0≤Fi.val (l.take i)∧Fi.val (l.take i)<16777216:=by
 have aa:Fi.good (l.take i)=true:=by
  simp only[Fi.good,Yj]at hg ⊢;exact fun x hx=>hg x (Z8 hx)
 obtain⟨h0,h1,_⟩:=zPy _ aa;have:(16:Nat) ^ (l.take i).length≤16 ^ 6:=Xg (by decide) (by rw[Zr];omega);clear hg aa;have e:(16:Nat) ^ 6=16777216:=by decide
 rw[e]at this;exact⟨h0,by omega⟩
def zBc (l:List UInt8) (e:Ending):Prop:=e=.returned (.tuple #[.int .i32 ((zAF l).getD 0),.bool (zAF l).isSome])
theorem zH5 {l:List UInt8} (h:zD4 l=false):zAF l=none:=by unfold zAF;rw[h];rfl
theorem zKk {l:List UInt8} (h:¬Fi.good l=true):zAF l=none:=by unfold zAF;rw[Bool.not_eq_true]at h;rw[h,Bool.false_and,Bool.and_false];rfl
theorem zHE {l:List UInt8} (h:Fi.good l=true) (i:Nat):Fi.good (l.take i)=true:=by
 simp only[Fi.good,Yj]at h ⊢;exact fun x hx=>h x (Z8 hx)
theorem zHF (s:ByteArray) (i:Nat) (h:i<s.size):s.data.toList.take (i+1)=s.data.toList.take i++[s[i]]:=by
 have h':i<s.data.toList.length:=by simpa using h
 rw[YL h'];rfl
theorem zJ2 (s:ByteArray):s.data.toList.take s.size=s.data.toList:=Zi (by simp)
theorem zFZ (s:ByteArray) (h:0<s.size):s.data.toList.head?=some s[0]:=by
 rw[List.head?_eq_getElem?,List.getElem?_eq_getElem (by simpa using h)];rfl
theorem zFl (s:ByteArray) (w:World) :
 Calls prog 154 #[.string s] w fun e w'=>zBc s.data.toList e∧w'=w:=by
 rcases Z0 s.size 4 with h4|h4
 · have hN:zAF s.data.toList=none:=zH5 (by unfold zD4;rw[decide_eq_false (by simp;omega)];rfl);have i4:(s.size:Int)<4:=by omega
   go_enter func154,ntmps154;go_wp2;go_ret2;exact⟨by unfold zBc;rw[hN];rfl,rfl⟩
 rcases Z0 6 s.size with h6|h6
 · have hN:zAF s.data.toList=none:=zH5 (by unfold zD4;rw[decide_eq_false (p:=s.data.toList.length≤6) (by simp;omega),Bool.false_and,Bool.and_false]);have i4:¬(s.size:Int)<4:=by omega
   have i6:(s.size:Int) > 6:=by omega
   go_enter func154,ntmps154;go_wp2;go_ret2;exact⟨by unfold zBc;rw[hN];rfl,rfl⟩
 have i4:¬(s.size:Int)<4:=by omega
 have i6:¬(s.size:Int) > 6:=by omega
 have l4:decide (4≤s.data.toList.length)=true:=Zp (by simp;omega);have l6:decide (s.data.toList.length≤6)=true:=Zp (by simp;omega);rcases Z0 4 s.size with h5|h5
 rotate_left
 · have i5:¬(s.size:Int) > 4:=by omega
   have hL:zD4 s.data.toList=true:=by unfold zD4;rw[l4,l6,decide_eq_false (p:=4<s.data.toList.length) (by simp;omega)];rfl
   have HL:=hy' hL;clear hL l4 l6;go_enter func154,ntmps154;go_wp2_with fail;go_loop [4,27] (fun vn vi=>∃i:Nat,i≤s.size∧vi=.int .i64 i∧vn=.int .i64 (Fi.val (s.data.toList.take i))∧Fi.good (s.data.toList.take i)=true) (fun _ vi=>s.size-(intOf vi).toNat)
   case atStart=>exact⟨0,by omega,rfl,rfl,rfl⟩
   obtain⟨i,hi,rfl,rfl,hg⟩:=hrel;have hv:=zMp _ hg i (by omega);rw[Jz,J1]at hv;obtain⟨v,ae⟩:∃v,Fi.val (s.data.toList.take i)=v:=⟨_,rfl⟩;rw[ae]at hv
   by_cases hlt:(i:Int)<s.size
   · have hi':i<s.size:=by omega
     have af:=zHF s i hi';have n0:(0:Int)≤(i:Int):=by omega
     obtain⟨b,hb⟩:∃b,s[i]=b:=⟨_,rfl⟩;rw[hb]at af;have ah:((b.toNat:Int)).toNat.toUInt8=b:=by simp
     have ak:=zFX b;rcases Q7 (zAH b) 0 with hd|hd
     · have hN:zAF s.data.toList=none:=zKk (fun h=>by
        have:=zHE h (i+1);rw[af,zCv,Zw,Zn]at this;omega)
       clear af hg ae;go_wp2_with (refine (Tryz.strings_IndexByte _ _ _).mono ?_;rintro e w1 ⟨rfl,rfl⟩;rw[ah,zCp]);go_ret2;exact⟨by unfold zBc;rw[hN];rfl,rfl⟩
     have ai:¬zAH b<0:=by omega
     have hval:Fi.val (s.data.toList.take (i+1))=v*16+zAH b:=by rw[af,zEe,ae]
     have aa:Fi.good (s.data.toList.take (i+1))=true:=by rw[af,zCv,hg,Zp hd];rfl
     have HV:=hy' hval;have HG:=hy' aa;have ag:=hy' ae;clear af hg hval aa ae;rw[ag.o];go_wp2_with (refine (Tryz.strings_IndexByte _ _ _).mono ?_;rintro e w1 ⟨rfl,rfl⟩;rw[ah,zCp]);exact⟨⟨i+1,by omega,by go_num,by rw[HV.o],HG.o⟩,by simp[intOf];omega⟩
   obtain rfl:i=s.size:=by omega
   rw[zJ2]at hg ae ⊢;have HG:=hy' hg;have ag:=hy' ae;clear hg ae;rw[ag.o]
   by_cases hbig:v > 1114111
   · have hN:zAF s.data.toList=none:=by unfold zAF;rw[ag.o,decide_eq_false (by omega),Bool.and_false,Bool.and_false];rfl
     go_wp2;go_ret2;exact⟨by unfold zBc;rw[hN];rfl,rfl⟩
   have hN:zAF s.data.toList=some v:=by unfold zAF;rw[HL.o,HG.o,ag.o,decide_eq_true (by omega)];rfl
   have HN:=hy' hN;clear hN;go_wp2;go_ret2;exact⟨by unfold zBc;rw[HN.o];rfl,rfl⟩
 have i5:(s.size:Int) > 4:=by omega
 have i0:(0:Int)<s.size:=by omega
 have h0:0<s.size:=by omega
 obtain⟨b,hb⟩:∃b,s[0]=b:=⟨_,rfl⟩;have hh:=zFZ s h0;rw[hb]at hh
 by_cases hz:b=48
 · have hN:zAF s.data.toList=none:=zH5 (by unfold zD4;rw[l4,l6,hh,hz,decide_eq_true (p:=4<s.data.toList.length) (by simp;omega)];rfl);have aj:(b.toNat:Int)=48:=by rw[hz];rfl
   clear hh hz;go_enter func154,ntmps154;go_wp2_with fail;go_ret2;exact⟨by unfold zBc;rw[hN];rfl,rfl⟩
 have hL:zD4 s.data.toList=true:=by unfold zD4;rw[l4,l6,hh];simp[hz]
 have aj:¬(b.toNat:Int)=48:=fun h=>hz (UInt8.toNat_inj.1 (show b.toNat=48 by omega))
 have HL:=hy' hL;clear hh hz hL l4 l6;go_enter func154,ntmps154;go_wp2_with fail;go_loop [4,27] (fun vn vi=>∃i:Nat,i≤s.size∧vi=.int .i64 i∧vn=.int .i64 (Fi.val (s.data.toList.take i))∧Fi.good (s.data.toList.take i)=true) (fun _ vi=>s.size-(intOf vi).toNat)
 case atStart=>exact⟨0,by omega,rfl,rfl,rfl⟩
 obtain⟨i,hi,rfl,rfl,hg⟩:=hrel;have hv:=zMp _ hg i (by omega);rw[Jz,J1]at hv;obtain⟨v,ae⟩:∃v,Fi.val (s.data.toList.take i)=v:=⟨_,rfl⟩;rw[ae]at hv
 by_cases hlt:(i:Int)<s.size
 · have hi':i<s.size:=by omega
   have af:=zHF s i hi';have n0:(0:Int)≤(i:Int):=by omega
   obtain⟨b,hb⟩:∃b,s[i]=b:=⟨_,rfl⟩;rw[hb]at af;have ah:((b.toNat:Int)).toNat.toUInt8=b:=by simp
   have ak:=zFX b;rcases Q7 (zAH b) 0 with hd|hd
   · have hN:zAF s.data.toList=none:=zKk (fun h=>by
      have:=zHE h (i+1);rw[af,zCv,Zw,Zn]at this;omega)
     clear af hg ae;go_wp2_with (refine (Tryz.strings_IndexByte _ _ _).mono ?_;rintro e w1 ⟨rfl,rfl⟩;rw[ah,zCp]);go_ret2;exact⟨by unfold zBc;rw[hN];rfl,rfl⟩
   have ai:¬zAH b<0:=by omega
   have hval:Fi.val (s.data.toList.take (i+1))=v*16+zAH b:=by rw[af,zEe,ae]
   have aa:Fi.good (s.data.toList.take (i+1))=true:=by rw[af,zCv,hg,Zp hd];rfl
   have HV:=hy' hval;have HG:=hy' aa;have ag:=hy' ae;clear af hg hval aa ae;rw[ag.o];go_wp2_with (refine (Tryz.strings_IndexByte _ _ _).mono ?_;rintro e w1 ⟨rfl,rfl⟩;rw[ah,zCp]);exact⟨⟨i+1,by omega,by go_num,by rw[HV.o],HG.o⟩,by simp[intOf];omega⟩
 obtain rfl:i=s.size:=by omega
 rw[zJ2]at hg ae ⊢;have HG:=hy' hg;have ag:=hy' ae;clear hg ae;rw[ag.o]
 by_cases hbig:v > 1114111
 · have hN:zAF s.data.toList=none:=by unfold zAF;rw[ag.o,decide_eq_false (by omega),Bool.and_false,Bool.and_false];rfl
   go_wp2;go_ret2;exact⟨by unfold zBc;rw[hN];rfl,rfl⟩
 have hN:zAF s.data.toList=some v:=by unfold zAF;rw[HL.o,HG.o,ag.o,decide_eq_true (by omega)];rfl
 have HN:=hy' hN;clear hN;go_wp2;go_ret2;exact⟨by unfold zBc;rw[HN.o];rfl,rfl⟩
theorem Fi.Laid.below {w w':World} (h:Fi.Laid w) (hb:Below w.heap.size w w'):Fi.Laid w':=by
 obtain⟨⟨m,h1⟩,h2⟩:=h;exact⟨⟨m,by rw[(zAQ hb).1 _ _ (YO w _ h1)];exact h1⟩,by rw[(zAQ hb).1 _ _ (YO w _ h2)];exact h2⟩
def Fi.LaidM (w:World):Prop:=∃m:Int,w.cell? ⟨1,0,none⟩=some (.int .i64 m)
theorem Fi.LaidM.below {w w':World} (h:Fi.LaidM w) (hb:Below w.heap.size w w'):Fi.LaidM w':=by
 obtain⟨m,h1⟩:=h;exact⟨m,by rw[(zAQ hb).1 _ _ (YO w _ h1)];exact h1⟩
theorem zOF:∀d:Fin 16,Lib.upperB (zDN d.val)=zBT d.val∧(zDN d.val).toNat<128:=by decide
theorem zRx (l:List Nat) (h:∀d∈l,d<16):Lib.toUpperA (l.map zDN)=l.map zBT:=by
 unfold Lib.toUpperA;rw[Xf];exact YU fun d hd=>(zOF ⟨d,h d hd⟩).1
theorem zKl:∀c,Lib.repeatL [48] c=List.replicate c 48
 | 0=>rfl
 | c+1=>by rw[Lib.repeatL,zKl c];rfl
theorem zAJ (a b:List UInt8):(⟨a.toArray⟩++⟨b.toArray⟩:ByteArray)=⟨(a++b).toArray⟩:=by
 apply Kp
 simp
theorem Fi.text_any (c:Nat) (hc:c<16777216) (w:World) (hL:Fi.Laid w) :
 Calls prog 133 #[.int .i32 c] w fun e w'=>e=.returned (.string ⟨(Fi.text c).toArray⟩)∧Below w.heap.size w w':=by
 obtain⟨n,hn⟩:∃n,zBg c=n:=⟨_,rfl⟩;have ar:=zIZ c;have ap:zBg c≤6:=zBU 5 c (by rw[show (16:Nat) ^ (5+1)=16777216 from by decide];exact hc);rw[hn]at ar ap;have h1:∀W:World,Fi.Laid W→Calls prog 163 #[.int .i64 c,.int .i64 16] W fun e w'=>e=.returned (.string ⟨((Fi.low n c).map zDN).toArray⟩)∧Below W.heap.size W w':=fun W hW=>by rw[←hn];exact zL4 c hc W hW
 have h2:∀W:World,Calls prog 162 #[.string ⟨((Fi.low n c).map zDN).toArray⟩] W fun e w'=>e=.returned (.string ⟨((Fi.low n c).map zBT).toArray⟩)∧Below W.heap.size W w':=fun W=>by
  have h:=Tryz.strings_ToUpper_ascii ⟨((Fi.low n c).map zDN).toArray⟩ W (by show ((Fi.low n c).map zDN).toArray.size≤_;simp[zCP];omega) (by
   intro j b hb;have hm:=Zj hb;simp only[Ja]at hm;obtain⟨d,hd,rfl⟩:=hm;exact (zOF ⟨d,zDO _ _ d hd⟩).2)
  rw[show Lib.toUpperA (⟨((Fi.low n c).map zDN).toArray⟩:ByteArray).data.toList=(Fi.low n c).map zBT from zRx _ (zDO n c)]at h;exact h
 have h3:∀(W:World) (k:Nat),k≤4→Calls prog 164 #[.string ⟨#[48]⟩,.int .i64 k] W fun e w'=>e=.returned (.string ⟨(List.replicate k 48).toArray⟩)∧Below W.heap.size W w':=fun W k hk=>by
  have h:=Tryz.strings_Repeat ⟨#[48]⟩ k W (by omega) (by show 1*k≤_;omega);rw[show (⟨#[48]⟩:ByteArray).data.toList=[48] from rfl,zKl]at h;exact h
 have hlen:(⟨((Fi.low n c).map zBT).toArray⟩:ByteArray).size=n:=by show ((Fi.low n c).map zBT).toArray.size=n;simp[zCP]
 have aa:(⟨(List.replicate (4-n) 48).toArray⟩++⟨((Fi.low n c).map zBT).toArray⟩:ByteArray)=⟨(Fi.text c).toArray⟩:=by
  rw[zAJ,zPx,hn]
 have ao:(⟨(List.replicate (4-n) 48).toArray⟩:ByteArray).size=4-n:=by show (List.replicate (4-n) (48:UInt8)).toArray.size=_;simp
 obtain⟨raw,af⟩:∃raw,(⟨((Fi.low n c).map zDN).toArray⟩:ByteArray)=raw:=⟨_,rfl⟩;obtain⟨ai,ae⟩:∃ai,(⟨((Fi.low n c).map zBT).toArray⟩:ByteArray)=ai:=⟨_,rfl⟩;obtain⟨zs,ag⟩:∃zs,(⟨(List.replicate (4-n) 48).toArray⟩:ByteArray)=zs:=⟨_,rfl⟩;rw[ae]at hlen aa;rw[ag]at aa ao;simp only[af]at h1 h2;simp only[ae]at h2;have ak:=fun W=>h3 W (4-n) (by omega)
 simp only[ag]at ak;clear af ae ag h3 hn;have HR:=hy' aa;clear aa;have au:¬9223372036854775807<zs.size+ai.size:=by omega
 go_enter func133,ntmps133;go_wp2_with fail;refine (h1 _ (by assumption)).mono ?_;rintro e w1 ⟨rfl,ah⟩;go_wp2_with fail;refine (h2 _).mono ?_;rintro e w2 ⟨rfl,aj⟩;have hm:max (4-(n:Int)) 0=((4-n:Nat):Int):=by omega
 go_wp2_with fail;refine (ak _).mono ?_;rintro e w3 ⟨rfl,aq⟩;go_wp2_with fail;go_ret;refine⟨by rw[HR.o];rfl,(ah.trans (aj.mono ah.size)).trans (aq.mono (Zh ah.size aj.size))⟩
def zBv (l:List UInt8):List UInt8:=Lib.trimB (Lib.cut l [35]).1 32
theorem zDx (w:World) (n:Nat):Below w.heap.size w (w.drewN n):=⟨rfl,rfl,rfl,by simp[Qp],fun k hk=>by simp[Qp]⟩
theorem zMq (s:ByteArray) (hs:s.size<4294967281) (w:World) (hL:Fi.LaidM w) :
 Calls prog 125 #[.string s] w fun e w'=>e=.returned (.string ⟨(zBv s.data.toList).toArray⟩)∧Below w.heap.size w w':=by
 obtain⟨m,hm⟩:=hL;have h1:=Tryz.strings_Cut s ⟨#[35]⟩ m w hs hm;obtain⟨a,ha⟩:∃a,(⟨(Lib.cut s.data.toList [35]).1.toArray⟩:ByteArray)=a:=⟨_,rfl⟩
 have aa:a.size≤s.size:=by
  rw[←ha];show (Lib.cut s.data.toList [35]).1.toArray.size≤s.size;have h2:s.data.toList.length=s.size:=by simp
  unfold Lib.cut;split <;> simp <;> omega
 have h2:∀W:World,Calls prog 153 #[.string a,.string ⟨#[32]⟩] W fun e w'=>e=.returned (.string ⟨(zBv s.data.toList).toArray⟩)∧Below W.heap.size W w':=fun W=>by
  refine (Tryz.strings_Trim_one a 32 (by decide) W (by omega)).mono ?_;rintro e w' ⟨rfl,hw⟩;refine⟨by rw[←ha];rfl,?_⟩;rcases hw with rfl|rfl
  · exact Zc _ _
  exact (Zc _ _).drew
 rw[show (⟨#[35]⟩:ByteArray).data.toList=[35] from rfl,ha]at h1;clear ha hm;go_enter func125,ntmps125;go_wp2_with fail;refine h1.mono ?_;rintro e w1 ⟨rfl,q,rfl⟩;go_wp2_with fail;refine (h2 _).mono ?_;rintro e w2 ⟨rfl,hb⟩;go_wp2_with fail;go_ret;exact⟨rfl,(zDx w q).trans (hb.mono (by simp[Qp]))⟩
def zPB (W:World) (l:List (List UInt8)) (e:Ending) (w':World):Prop :=
 ∃(A:Option Addr) (n c:Nat),e=.returned (.slice A n c)∧l.length=n∧Sl w' w'.heap.size A (l.map fun x=>Value.string ⟨x.toArray⟩)∧Below W.heap.size W w'
def zAi (c:UInt8):List UInt8→List UInt8→List (List UInt8)
 | w,[]=>[w]
 | w,b::r=>if b=c then w::zAi c [] r else zAi c (w++[b]) r
theorem zQL (c:UInt8):∀(l w:List UInt8),zAi c w l≠[]
 | [],w=>by simp[zAi]
 | b::r,w=>by
   unfold zAi;split
   · simp
   exact zQL c r _
theorem zH6 (c:UInt8):∀(a w r:List UInt8),c∉a→zAi c w (a++r)=zAi c (w++a) r
 | [],w,r,_=>by simp
 | b::a,w,r,h=>by
   have hb:b≠c:=fun e=>h (by rw[e];exact Zu)
   rw[Zx,zAi,Zk hb,zH6 c a _ r (fun h'=>h (Zy _ h')),ZD];rfl
theorem zBB (c:UInt8) (a r:List UInt8) (h:c∉a):zAi c [] (a++c::r)=a::zAi c [] r:=by
 rw[zH6 c a [] _ h,zAi,Zm rfl];rfl
theorem zCi (c:UInt8) (a:List UInt8) (h:c∉a):zAi c [] a=[a]:=by
 have:=zH6 c a [] [] h;rw[Z3]at this;rw[this];rfl
theorem zH7 (c:UInt8):∀(l w:List UInt8),(zAi c w l).length≤l.length+1
 | [],w=>by simp[zAi]
 | b::r,w=>by
   unfold zAi;split
   · have:=zH7 c r [];simp;omega
   have:=zH7 c r (w++[b]);simp;omega
theorem zEQ (c:UInt8):∀(l w:List UInt8),∀x∈zAi c w l,x.length≤w.length+l.length
 | [],w,x,h=>by simp[zAi]at h;subst h;simp
 | b::r,w,x,h=>by
   unfold zAi at h;split at h
   · rcases List.mem_cons.1 h with rfl|h
     · simp
     have:=zEQ c r [] x h;simp at this ⊢;omega
   have:=zEQ c r (w++[b]) x h;simp at this ⊢;omega
theorem zCj (c:UInt8):∀l:List UInt8,Lib.indexByte l c = -1→c∉l
 | [],_=>by simp
 | b::l,h=>by
   unfold Lib.indexByte at h;split at h
   · cases h
   rename_i hb;split at h
   · rename_i h2;have:=zCj c l (by simpa using h2);simp at hb;simp[this,Ya hb]
   have:=Lib.indexByte_ge l c;rename_i h2;simp at h2;omega
theorem zCk (c:UInt8):∀(l:List UInt8) (i:Nat),Lib.indexByte l c=i→l=l.take i++c::l.drop (i+1)∧c∉l.take i
 | [],i,h=>by
   simp only[Lib.indexByte]at h;omega
 | b::l,i,h=>by
   unfold Lib.indexByte at h;split at h
   · rename_i hb;have hi:i=0:=by omega
     subst hi;simp at hb;subst hb;simp
   rename_i hb;simp at hb;split at h
   · omega
   obtain⟨j,rfl⟩:∃j,i=j+1:=⟨i-1,by have:=Lib.indexByte_ge l c;rename_i h2;simp at h2;omega⟩;obtain⟨h1,h2⟩:=zCk c l j (by omega);refine⟨?_,?_⟩
   · rw[Xi,XW,Zx,←h1]
   rw[Xi];simp[h2,Ya hb]
theorem zNN (c:UInt8):∀(k:Nat) (s:ByteArray),Lib.countB s ⟨#[c]⟩≤k→(Lib.splitB ⟨#[c]⟩ 0 k s).map (·.data.toList)=zAi c [] s.data.toList:=by
 have ae:∀s:ByteArray,Lib.indexB s ⟨#[c]⟩=Lib.indexByte s.data.toList c:=fun s=>by
  show Lib.index s.data.toList [c]=_;exact Lib.index_one _ _
 intro k
 induction k with
 | zero =>
   intro s hk;rcases Lib.indexB_cases s ⟨#[c]⟩ with aa|⟨i,aa,_⟩
   · rw[Lib.splitB_miss _ _ _ _ aa,zCi c _ (zCj c _ (by rw[←ae];exact aa))];rfl
   have:=Lib.countB_hit s ⟨#[c]⟩ i (Za 1) aa;omega
 | succ k ih =>
   intro s hk;rcases Lib.indexB_cases s ⟨#[c]⟩ with aa|⟨i,aa,_⟩
   · rw[Lib.splitB_miss _ _ _ _ aa,zCi c _ (zCj c _ (by rw[←ae];exact aa))];rfl
   have hc:=Lib.countB_hit s ⟨#[c]⟩ i (Za 1) aa;obtain⟨h1,h2⟩:=zCk c s.data.toList i (by rw[←ae];exact aa);unfold Lib.splitB;rw[Zk (by rw[aa];simp;try omega),aa,ZV]
   have hd:(s.extract (i+1) s.size).data.toList=s.data.toList.drop (i+1):=by
    rw[Lib.extract_data,Zi (by simp)]
   have ht:(s.extract 0 i).data.toList=s.data.toList.take i:=by rw[Lib.extract_data];simp
   have af:=ih (s.extract (i+1) s.size) (by
    have e:(⟨#[c]⟩:ByteArray).size=1:=rfl;rw[e]at hc;omega)
   rw[hd]at af;show (s.extract 0 (((i:Int)).toNat+0)).data.toList::(Lib.splitB ⟨#[c]⟩ 0 k (s.extract (((i:Int)).toNat+1) s.size)).map (·.data.toList)=_;rw[Y9,YI,ht,af]
   conv=>rhs;rw[h1]
   rw[zBB c _ _ h2]
theorem zNO (c:UInt8) (l:List UInt8):(zAi c [] l).head?=some (Lib.cut l [c]).1:=by
 unfold Lib.cut;rw[Lib.index_one]
 by_cases h:Lib.indexByte l c = -1
 · rw[Zk (by omega),zCi c l (zCj c l h)];rfl
 have hge:=Lib.indexByte_ge l c;obtain⟨i,hi⟩:∃i:Nat,Lib.indexByte l c=i:=⟨(Lib.indexByte l c).toNat,by omega⟩;obtain⟨h1,h2⟩:=zCk c l i hi;rw[Zm (by omega),hi]
 conv=>lhs;rw[h1]
 rw[zBB c _ _ h2];simp
def zAr (c:UInt8):List (List UInt8)→List UInt8
 | []=>[]
 | x::r=>x++(r.map fun y=>c::y).flatten
theorem zMr (c:UInt8) (l:List (List UInt8)) (x:List UInt8):zAr c (l++[x])=(if l=[] then x else zAr c l++c::x):=by
 rcases l with _|⟨y,t⟩
 · simp[zAr]
 simp[zAr]
theorem zGw (c:UInt8) (b:UInt8) (t:List UInt8):Lib.trimRightB (b::t) c=if Lib.trimRightB t c=[] then (if b=c then [] else [b]) else b::Lib.trimRightB t c:=by
 unfold Lib.trimRightB;rw[List.reverse_cons,List.dropWhile_append]
 by_cases h:(t.reverse.dropWhile (· == c))=[]
 · rw[h];simp[YC];split <;> simp
 have h':(t.reverse.dropWhile (· == c)).isEmpty=false:=by simpa using h
 rw[h'];simp[h]
theorem zER (c:UInt8):∀l:List UInt8,Lib.trimB l c=Lib.trimRightB (Lib.trimLeftB l c) c
 | []=>rfl
 | b::t=>by
   have ih:=zER c t;unfold Lib.trimB Lib.trimLeftB at ih ⊢;rw[zGw,YC]
   by_cases hb:b=c
   · subst hb;simp only[Q2,Yy];split
     · rename_i h;rw[←ih,h]
     rw[YC];simp only[Q2,Yy];exact ih
   have aa:(b == c)=false:=by simpa using hb
   rw[aa];simp only[hb,Ye,ZM];rw[zGw];simp only[hb,Ye];split
   · rw[YC,aa];simp
   rw[YC,aa];simp
theorem zL5 (c:UInt8) (l:List UInt8):Lib.trimRightB (l++[c]) c=Lib.trimRightB l c:=by
 unfold Lib.trimRightB;rw[JE];simp[YC]
theorem zL6 (c:UInt8) (l:List UInt8) (b:UInt8) (h:b≠c):Lib.trimRightB (l++[b]) c=l++[b]:=by
 unfold Lib.trimRightB;rw[JE];simp[YC,h]
def zD5 (l:List UInt8):Int:=l.foldl (fun n b=>10*n+((b.toNat:Int)-48)) 0
def zMs (b:UInt8):Bool:=decide (48≤b.toNat)&&decide (b.toNat≤57)
def zL7 (l:List UInt8) (aa:Int):Bool:=(l == Lib.decDigits (zD5 l).toNat)&&decide (zD5 l≤aa)
def zD6 (l:List UInt8) (aa:Int):Option Int:=if zL7 l aa then some (zD5 l) else none
theorem zMt (l:List UInt8) (b:UInt8):zD5 (l++[b])=10*zD5 l+((b.toNat:Int)-48):=by simp[zD5,Y6]
theorem zI8 (d:Nat) (h:d<10):(UInt8.ofNat (48+d)).toNat=48+d:=by rw[XC,Xv (by omega)]
theorem zG0 (u:Nat):zD5 (Lib.decDigits u)=(u:Int):=by
 rw[Lib.decDigits];split
 · rename_i h;simp only[zD5,YD,Jp,zI8 u h];omega
 · rename_i h;rw[zMt,zG0 (u/10),zI8 _ (by omega)];omega
 termination_by u
 decreasing_by omega
theorem zEf (u:Nat):∀b∈Lib.decDigits u,zMs b=true:=by
 rw[Lib.decDigits];split
 · rename_i h;intro b hb;rw[Zt]at hb;subst hb;unfold zMs;rw[zI8 u h,Zp (by omega),Zp (by omega)];rfl
 · intro b hb;rcases List.mem_append.1 hb with h|h
   · exact zEf (u/10) b h
   rw[Zt]at h;subst h;unfold zMs;rw[zI8 _ (by omega),Zp (by omega),Zp (by omega)];rfl
 termination_by u
 decreasing_by omega
theorem zQM (u:Nat):Lib.decDigits u≠[]:=by
 rw[Lib.decDigits];split
 · simp
 simp
theorem zCQ:∀(k u:Nat),u<10 ^ (k+1)→(Lib.decDigits u).length≤k+1
 | 0,u,h=>by rw[Lib.decDigits,dif_pos (by simpa using h)];simp
 | k+1,u,h=>by
   rw[Lib.decDigits];split
   · simp
   have:=zCQ k (u/10) (by rw[Xb]at h;omega);simp;omega
theorem zHG (u:Nat) (aa:Int) (h:(u:Int)≤aa):zD6 (Lib.decDigits u) aa=some (u:Int):=by
 unfold zD6 zL7;rw[zG0,Y9,Q2,Zp h];rfl
theorem zNP {l:List UInt8} {aa v:Int} (h:zD6 l aa=some v):∃u:Nat,v=u∧(u:Int)≤aa∧l=Lib.decDigits u:=by
 unfold zD6 at h;split at h
 · rename_i h1;unfold zL7 at h1;rw[Zw,YT,Zn]at h1;obtain⟨h2,h3⟩:=h1
   have h4:zD5 l=((zD5 l).toNat:Int):=by
    conv=>lhs;rw[h2,zG0]
   simp only[Zg]at h;exact⟨(zD5 l).toNat,by rw[←h];exact h4,by omega,h2⟩
 cases h
theorem zFD {l:List UInt8} {aa:Int} (h:∀u:Nat,(u:Int)≤aa→l≠Lib.decDigits u):zD6 l aa=none:=by
 rcases hn:zD6 l aa with _|v
 · rfl
 obtain⟨u,_,h2,h3⟩:=zNP hn;exact absurd h3 (h u h2)
theorem zFE:∀(a:List UInt8) (b:UInt8) (acc:Nat),Lib.decFrom acc (a++[b])=(Lib.decFrom acc a).bind fun n=>(Lib.digitVal b).map fun d=>n*10+d
 | [],b,acc=>by
   simp only[ZK,Lib.decFrom];rcases Lib.digitVal b with _|d <;> rfl
 | c::t,b,acc=>by
   simp only[Zx,Lib.decFrom];rcases Lib.digitVal c with _|d
   · rfl
   exact zFE t b _
theorem zES (d:Nat) (h:d<10):Lib.digitVal (UInt8.ofNat (48+d))=some d:=by
 have key:∀d:Fin 10,Lib.digitVal (UInt8.ofNat (48+d.val))=some d.val:=by decide
 exact key ⟨d,h⟩
theorem zFF (u:Nat):Lib.decFrom 0 (Lib.decDigits u)=some u:=by
 rw[Lib.decDigits];split
 · rename_i h;simp only[Lib.decFrom,zES u h];simp
 · rename_i h;rw[zFE,zFF (u/10),ZC,zES _ (by omega),Zz];congr 1;omega
 termination_by u
 decreasing_by omega
theorem zJ3 (u:Nat) (h:u<10000000000):Lib.atoiAll (Lib.decDigits u)=.ok (u:Int):=by
 have hl:(Lib.decDigits u).length≤10:=zCQ 9 u (by rw[show (10:Nat) ^ (9+1)=10000000000 from by decide];exact h);rw[Lib.atoiAll_short _ (by omega)];have hne:=zQM u;have hd:=zEf u;have hf:=zFF u;rcases hc:Lib.decDigits u with _|⟨b,r⟩
 · exact absurd hc hne
 rw[hc]at hd hf;have hb:=hd b Zu;unfold zMs at hb;rw[Zw,Zn,Zn]at hb
 have aa:(b == 45)=false:=by
  rw[Xq];rintro rfl;exact absurd hb.1 (by decide)
 have ae:(b == 43)=false:=by
  rw[Xq];rintro rfl;exact absurd hb.1 (by decide)
 have hn:Lib.decNat (b::r)=some u:=by
  unfold Lib.decNat;simpa using hf
 unfold Lib.atoi;simp only[aa,ae,hn,ZM,Ye];rfl
def zAN:List UInt8→List UInt8→List (List UInt8)
 | w,[]=>if w=[] then [] else [w]
 | w,b::r=>if b=10 then w::zAN [] r else zAN (w++[b]) r
theorem zKm:∀(a w r:List UInt8),(10:UInt8)∉a→zAN w (a++r)=zAN (w++a) r
 | [],w,r,_=>by simp
 | b::a,w,r,h=>by
   have hb:b≠10:=fun e=>h (by rw[e];exact Zu)
   rw[Zx,zAN,Zk hb,zKm a _ r (fun h'=>h (Zy _ h')),ZD];rfl
theorem zPC (a r:List UInt8) (h:(10:UInt8)∉a):zAN [] (a++10::r)=a::zAN [] r:=by
 rw[zKm a [] _ h,zAN,Zm rfl];rfl
theorem zEg:∀(l:List (List UInt8)),(∀x∈l,(10:UInt8)∉x)→zAN [] (l.flatMap fun x=>x++[10])=l
 | [],_=>rfl
 | x::l,h=>by
   rw[Y7,ZD,List.singleton_append,zPC _ _ (h x Zu),zEg l fun y hy=>h y (Zy _ hy)]
theorem zH8:∀(l w:List UInt8),(zAN w l).length≤l.length+1
 | [],w=>by unfold zAN;split <;> simp
 | b::r,w=>by
   unfold zAN;split
   · have:=zH8 r [];simp;omega
   have:=zH8 r (w++[b]);simp;omega
def zC9 (x:List UInt8):Bool:=x.all fun b=>decide (32≤b.toNat)&&decide (b.toNat≤126)
def zCa (x:List UInt8):Bool:=decide (x.length≤1000)&&zC9 x
def Rw.mp (f:List UInt8):Option (List Int) :=
 if f=[]∨f.head?=some 60 then some []
 else if (zAi 32 [] f).all (fun x=>(zAF x).isSome)=true∧(zAi 32 [] f).length≤2 then some ((zAi 32 [] f).map fun x=>(zAF x).getD 0)
 else none
def Rw.row (F:List (List UInt8)):Option Rw.Row :=
 if F.length=15∧F.getD 1 []≠[] then
  (zAF (F.getD 0 [])).bind fun c=>(zD6 (F.getD 3 []) 254).bind fun k=>(Rw.mp (F.getD 5 [])).map fun m=>(c,k,m)
 else none
def Rw.quiet (r:Rw.Row):Bool:=decide (r.2.1=0)&&decide (r.2.2.length=0)
def Rw.first:List UInt8:=[44,32,70,105,114,115,116,62]
def Rw.last:List UInt8:=[44,32,76,97,115,116,62]
def zCz (s e:List UInt8):Bool:=decide (e.length≤s.length)&&(s.drop (s.length-e.length) == e)
def zBZ (s e:List UInt8):List UInt8:=if zCz s e then s.take (s.length-e.length) else s
def zBJ (was name:List UInt8) (q:Bool):Option (List UInt8) :=
 if was≠[]∨zCz name Rw.last=true then (if zCz name Rw.last=true∧zBZ name Rw.last++Rw.first=was∧q=true then some [] else none)
 else if zCz name Rw.first=true then (if q then some (zBZ name Rw.first++Rw.first) else none)
 else some []
abbrev Rw.St:=List Rw.Row × Int × List UInt8
def Rw.step (st:Rw.St) (l:List UInt8):Option Rw.St :=
 (Rw.row (zAi 59 [] l)).bind fun r =>
   if st.2.1<r.1 then (zBJ st.2.2 ((zAi 59 [] l).getD 1 []) (Rw.quiet r)).bind fun o =>
    if C.isC r.1=true∨Rw.quiet r=true then some (if Rw.quiet r then st.1 else st.1++[r],r.1,o) else none
   else none
def Rw.steps:Rw.St→List (List UInt8)→Option Rw.St
 | st,[]=>some st
 | st,l::r=>(Rw.step st l).bind fun st'=>Rw.steps st' r
theorem Rw.steps_app:∀(a b:List (List UInt8)) (st:Rw.St),Rw.steps st (a++b)=(Rw.steps st a).bind fun st'=>Rw.steps st' b
 | [],b,st=>rfl
 | l::a,b,st=>by
   rw[Zx,Rw.steps,Rw.steps];rcases Rw.step st l with _|st'
   · rfl
   exact Rw.steps_app a b st'
def Rw.parse (s:List UInt8):Option (List Rw.Row) :=
 if (zAN [] s).all zCa=true∧(zAN [] s).length≤40000 then (Rw.steps ([],-1,[]) (zAN [] s)).bind fun st=>if st.2.2=[] then some st.1 else none
 else none
def Rw.line (r:Rw.Row):List UInt8 :=
 Fi.text r.1.toNat++([59,88,59,59]++(Lib.decDigits r.2.1.toNat++([59,59]++(zAr 32 (r.2.2.map fun c=>Fi.text c.toNat)++[59,59,59,59,59,59,59,59,59]))))
def zET (r:Rw.Row):List (List UInt8) :=
 [Fi.text r.1.toNat,[88],[],Lib.decDigits r.2.1.toNat,[],zAr 32 (r.2.2.map fun c=>Fi.text c.toNat),[],[],[],[],[],[],[],[],[]]
def Rw.right (r:Rw.Row):Prop:=0≤r.1∧r.1≤1114111∧0≤r.2.1∧r.2.1≤254∧r.2.2.length≤2∧∀c∈r.2.2,0≤c∧c≤1114111
theorem zNQ:∀d:Fin 16,48≤(zBT d.val).toNat∧(zBT d.val).toNat≤70∧(zBT d.val)≠59:=by decide
theorem zCb (n:Nat):∀b∈Fi.text n,48≤b.toNat∧b.toNat≤70∧b≠59:=by
 intro b hb;unfold Fi.text at hb;obtain⟨d,hd,rfl⟩:=List.mem_map.1 hb;exact zNQ ⟨d,zDO _ _ d hd⟩
theorem zFm (n:Nat) (c:UInt8) (h:c.toNat<48∨c=59):c∉Fi.text n:=fun hb=>by
 have:=zCb n c hb;rcases h with h|h
 · omega
 exact this.2.2 h
theorem zQN:∀d:Fin 16,zBT d.val≠60:=by decide
theorem zNR (n:Nat):∀b∈Fi.text n,b≠60:=by
 intro b hb;unfold Fi.text at hb;obtain⟨d,hd,rfl⟩:=List.mem_map.1 hb;exact zQN ⟨d,zDO _ _ d hd⟩
theorem zH9 (n:Nat):Fi.text n≠[]:=fun h=>by
 have:=Fi.text_len n;rw[h,ZY]at this;omega
theorem zHH (n:Nat):∀b∈Lib.decDigits n,48≤b.toNat∧b.toNat≤57:=by
 intro b hb;have:=zEf n b hb;unfold zMs at this;rw[Zw,Zn,Zn]at this;exact this
theorem zQO (n:Nat) (c:UInt8) (h:c.toNat<48∨57<c.toNat):c∉Lib.decDigits n:=fun hb=>by
 have:=zHH n c hb;omega
theorem zJ4 (c:UInt8):∀(l:List (List UInt8)) (x:List UInt8),c∉x→(∀y∈l,c∉y)→zAi c [] (zAr c (x::l))=x::l
 | [],x,hx,_=>by simp[zAr];exact zCi c x hx
 | y::l,x,hx,h=>by
   have e:zAr c (x::y::l)=x++c::zAr c (y::l):=by simp[zAr]
   rw[e,zBB c _ _ hx,zJ4 c l y (h y Zu) fun z hz=>h z (Zy _ hz)]
theorem zL8 (c:UInt8):∀(l:List (List UInt8)),∀b∈zAr c l,b=c∨∃x∈l,b∈x
 | [],b,h=>by simp[zAr]at h
 | x::l,b,h=>by
   simp only[zAr,Xc,List.mem_flatten,Ja]at h;rcases h with h|⟨y,⟨z,hz,rfl⟩,hb⟩
   · exact .inr ⟨x,Zu,h⟩
   rcases List.mem_cons.1 hb with h|h
   · exact .inl h
   exact .inr ⟨z,Zy _ hz,h⟩
theorem zHI (m:List Int):∀b∈zAr 32 (m.map fun c=>Fi.text c.toNat),b=32∨(48≤b.toNat∧b.toNat≤70∧b≠59):=by
 intro b hb;rcases zL8 32 _ b hb with h|⟨x,hx,aa⟩
 · exact .inl h
 obtain⟨c,_,rfl⟩:=List.mem_map.1 hx;exact .inr (zCb _ b aa)
theorem zJw (r:Rw.Row):zAi 59 [] (Rw.line r)=zET r:=by
 have hm:(59:UInt8)∉zAr 32 (r.2.2.map fun c=>Fi.text c.toNat):=fun h=>by
  rcases zHI _ _ h with h|h
  · exact absurd h (by decide)
  exact h.2.2 rfl
 unfold Rw.line zET
 rw[show ∀x:List UInt8,[59,88,59,59]++x=59::([88]++59::([]++59::x)) from fun _=>rfl,zBB 59 _ _ (zFm _ _ (.inr rfl)),zBB 59 _ _ (by decide),zBB 59 _ _ (by decide),
  show ∀x:List UInt8,[59,59]++x=59::([]++59::x) from fun _=>rfl,zBB 59 _ _ (zQO _ _ (.inr (by decide))),zBB 59 _ _ (by decide),zBB 59 _ _ hm]
 rfl
theorem zDP (r:Rw.Row) (hr:Rw.right r):zCa (Rw.line r)=true:=by
 obtain⟨c0,c1,k0,k1,hm,hc⟩:=hr;have l1:=zAE r.1.toNat (by omega);have l2:=zCQ 9 r.2.1.toNat (by rw[show (10:Nat) ^ (9+1)=10000000000 from by decide];omega)
 have l3:(zAr 32 (r.2.2.map fun c=>Fi.text c.toNat)).length≤20:=by
  obtain⟨c,k,m⟩:=r;rcases m with _|⟨a,_|⟨b,_|⟨d,t⟩⟩⟩
  · simp[zAr]
  · have:=zAE a.toNat (by have:=(hc a (by simp)).2;omega);simp[zAr];omega
  · have h1:=zAE a.toNat (by have:=(hc a (by simp)).2;omega);have h2:=zAE b.toNat (by have:=(hc b (by simp)).2;omega);simp[zAr];omega
  simp at hm
 unfold zCa;rw[Zw,Zn];refine⟨?_,?_⟩
 · unfold Rw.line;simp only[Zd,ZB,ZY];omega
 unfold zC9;rw[Yj]
 have key:∀b:UInt8,(b=32∨b=59∨b=88∨(48≤b.toNat∧b.toNat≤70))→(decide (32≤b.toNat)&&decide (b.toNat≤126))=true:=by
  intro b hb;rw[Zw,Zn,Zn];rcases hb with rfl|rfl|rfl|hb
  · decide
  · decide
  · decide
  omega
 intro b hb;apply key
 unfold Rw.line at hb;simp only[Xc]at hb;rcases hb with hb|hb|hb|hb|hb|hb
 · have:=zCb _ b hb;exact .inr (.inr (.inr ⟨this.1,this.2.1⟩))
 · simp at hb;rcases hb with rfl|rfl|rfl|rfl <;> simp
 · have:=zHH _ b hb;exact .inr (.inr (.inr ⟨this.1,by omega⟩))
 · simp at hb;subst hb;simp
 · rcases zHI _ b hb with h|h
   · exact .inl h
   exact .inr (.inr (.inr ⟨h.1,h.2.1⟩))
 simp at hb;subst hb;simp
theorem zPD (r:Rw.Row) (hr:Rw.right r):(10:UInt8)∉Rw.line r:=fun h=>by
 have:=zDP r hr;unfold zCa zC9 at this;rw[Zw,Yj]at this;exact absurd (this.2 10 h) (by decide)
theorem zEh {c:Int} (h:0≤c):((c.toNat:Nat):Int)=c:=by omega
theorem zPE (m:List Int) (hm:m.length≤2) (hc:∀c∈m,0≤c∧c≤1114111):Rw.mp (zAr 32 (m.map fun c=>Fi.text c.toNat))=some m:=by
 rcases m with _|⟨a,t⟩
 · simp[zAr,Rw.mp]
 have hs:zAi 32 [] (zAr 32 ((a::t).map fun c=>Fi.text c.toNat))=(a::t).map fun c=>Fi.text c.toNat :=
  zJ4 32 _ _ (zFm _ _ (.inl (by decide))) fun y hy=>by
   obtain⟨c,_,rfl⟩:=List.mem_map.1 hy;exact zFm _ _ (.inl (by decide))
 have hx:∀c∈a::t,zAF (Fi.text c.toNat)=some c:=fun c aa=>by
  rw[zFY _ (by have:=(hc c aa).2;omega),zEh (hc c aa).1]
 have hne:¬(zAr 32 ((a::t).map fun c=>Fi.text c.toNat)=[]∨(zAr 32 ((a::t).map fun c=>Fi.text c.toNat)).head?=some 60):=by
  obtain⟨b,q,hb⟩:∃b q,Fi.text a.toNat=b::q:=by
   rcases h:Fi.text a.toNat with _|⟨b,q⟩
   · exact absurd h (zH9 _)
   exact⟨b,q,rfl⟩
  have ag:=zNR a.toNat b (by rw[hb];exact Zu);rw[ZV,hb];simp only[zAr,Zx,Kf,Zg];rintro (h|h)
  · cases h
  subst h;exact ag rfl
 have ae:(((a::t).map fun c=>Fi.text c.toNat).all fun x=>(zAF x).isSome)=true:=by
  rw[Yj];intro x af;obtain⟨c,aa,rfl⟩:=List.mem_map.1 af;rw[hx c aa];rfl
 unfold Rw.mp;rw[if_neg hne,hs,if_pos ⟨ae,by simpa using hm⟩,List.map_map];congr 1
 conv=>rhs;rw[←List.map_id (a::t)]
 refine YU fun c aa=>?_
 show (zAF (Fi.text c.toNat)).getD 0=c;rw[hx c aa];rfl
theorem zL9 (r:Rw.Row) (hr:Rw.right r):Rw.row (zET r)=some r:=by
 obtain⟨c0,c1,k0,k1,hm,hc⟩:=hr;unfold Rw.row;rw[Zm ⟨rfl,show ([88]:List UInt8)≠[] from by decide⟩];show (zAF (Fi.text r.1.toNat)).bind (fun c=>(zD6 (Lib.decDigits r.2.1.toNat) 254).bind fun k=>(Rw.mp (zAr 32 (r.2.2.map fun c=>Fi.text c.toNat))).map fun m=>(c,k,m))=_;rw[zFY _ (by omega),zHG _ _ (by omega),zPE _ hm hc,zEh c0,zEh k0];rfl
theorem zHJ (out:List Rw.Row) (c:Int) (r:Rw.Row) (hr:Rw.right r) (aa:c<r.1) (hq:C.isC r.1=true∨Rw.quiet r=true) :
 Rw.step (out,c,[]) (Rw.line r)=some (if Rw.quiet r then out else out++[r],r.1,[]):=by
 unfold Rw.step;rw[zJw,zL9 r hr,ZC,Zm aa]
 have:zBJ [] ((zET r).getD 1 []) (Rw.quiet r)=some []:=by
  show zBJ [] [88] (Rw.quiet r)=some [];unfold zBJ;rw[Zk (by decide),Zk (by decide)]
 show (zBJ [] ((zET r).getD 1 []) (Rw.quiet r)).bind _=_;rw[this,ZC,Zm hq]
def zD7:Int→List Rw.Row→Prop
 | _,[]=>True
 | c,r::l=>c<r.1∧zD7 r.1 l
theorem zFG:∀(l:List Rw.Row) (out:List Rw.Row) (c:Int),(∀r∈l,Rw.right r∧(C.isC r.1=true∨Rw.quiet r=true))→zD7 c l →
 ∃c',Rw.steps (out,c,[]) (l.map Rw.line)=some (out++l.filter (fun r=>!Rw.quiet r),c',[])
 | [],out,c,_,_=>⟨c,by simp[Rw.steps]⟩
 | r::l,out,c,h,hr=>by
   obtain⟨h1,h2⟩:=h r Zu;rw[ZV,Rw.steps,zHJ out c r h1 hr.1 h2,ZC];obtain⟨c',aa⟩:=zFG l (if Rw.quiet r then out else out++[r]) r.1 (fun q hq=>h q (Zy _ hq)) hr.2;refine⟨c',?_⟩;rw[aa,Yt]
   by_cases hq:Rw.quiet r=true
   · simp[hq]
   simp[hq]
theorem zJx (l:List Rw.Row) (h:∀r∈l,Rw.right r∧(C.isC r.1=true∨Rw.quiet r=true)) (hr:zD7 (-1) l) (hl:l.length≤40000) :
 Rw.parse ((l.map Rw.line).flatMap fun x=>x++[10])=some (l.filter fun r=>!Rw.quiet r):=by
 have hn:zAN [] ((l.map Rw.line).flatMap fun x=>x++[10])=l.map Rw.line:=zEg _ fun x hx=>by
  obtain⟨r,hm,rfl⟩:=List.mem_map.1 hx;exact zPD r (h r hm).1
 obtain⟨c',ae⟩:=zFG l [] (-1) h hr
 have aa:(l.map Rw.line).all zCa=true:=by
  rw[Yj];intro x hx;obtain⟨r,hm,rfl⟩:=List.mem_map.1 hx;exact zDP r (h r hm).1
 unfold Rw.parse;rw[hn,Zm ⟨aa,by rw[Ze];exact hl⟩,ae];rfl
end Go.Proofs.YtjakbblocbicjaaGreatDoor
