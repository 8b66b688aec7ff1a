/- utf.Next: the first character of bytes, by walking its text. -/
import Derived.Test.YtddbccflcekdpaaGreatDoorUtf
set_option maxRecDepth 100000
set_option maxHeartbeats 1000000
set_option linter.unusedVariables false
set_option linter.unusedSimpArgs false
namespace Go.Proofs.YtddbccflcekdpaaGreatDoor
open Go.Proofs.Tryz
open Go.RowKit
theorem zCx (s:ByteArray) (k:Nat) (h:k<s.size):((s[k].toNat:Nat):Int)=zB7 s.data.toList k:=by
 have h':k<s.data.toList.length:=by simpa using h
 have:s.data.toList.getD k 0=s[k]:=by
  rw[YR,Zb h'];rfl
 unfold zB7;rw[this]
theorem zER (s:ByteArray):s.toList=s.data.toList:=YC s
theorem zCn (s:ByteArray) (h:0<s.size):s.toList.isEmpty=false:=by
 rw[zER];rcases hl:s.data.toList with _|⟨a,t⟩
 · have:s.data.toList.length=s.size:=by simp
   rw[hl]at this;simp at this;omega
 rfl
def zAA (l:List UInt8):Int × Nat × Bool:=match zAz l with|some (c,n)=>(c,n,true)|none=>(0,0,false)
theorem zIg (l:List UInt8) (n:Nat) (hn:zAd (zB7 l 0)=n) (h0:1≤n) (i:Nat) (hi:i<n) (ht:∀j,j≤i→1≤j→128≤zB7 l j∧zB7 l j<192) :
 0≤zAn l n i∧zAn l n i≤2097151∧(i+1<n→zAn l n i<32768):=by
 have hb:=zBR l 0;have ag:1≤i→_:=ht 1;have ah:2≤i→_:=fun h=>ht 2 h (by omega)
 have af:3≤i→_:=fun h=>ht 3 h (by omega)
 have aa:n=1∨n=2∨n=3∨n=4:=by unfold zAd at hn;grind
 have ae:i=0∨i=1∨i=2∨i=3:=by omega
 unfold zAd at hn;rcases aa with rfl|rfl|rfl|rfl <;> rcases ae with rfl|rfl|rfl|rfl <;> simp only[zAn,zDa] <;> first|omega|grind
theorem zQv:∀n:Fin 256,((n.val:Nat):Int)<128→bits BinOp.and IntKind.u8 ((n.val:Nat):Int) 127=((n.val:Nat):Int):=by decide +kernel
theorem zQw (b:Int) (h1:0≤b) (h2:b<128):bits BinOp.and IntKind.u8 b 127=b:=by
 obtain⟨n,rfl⟩:=YO h1;exact zQv ⟨n,by omega⟩ h2
theorem zPn:∀n:Fin 256,(bits BinOp.andNot IntKind.u8 ((n.val:Nat):Int) 63=128)↔(128≤((n.val:Nat):Int)∧((n.val:Nat):Int)<192):=by decide +kernel
theorem zH5 (b:Int) (h1:0≤b) (h2:b<256):(bits BinOp.andNot IntKind.u8 b 63 != 128)=!decide (128≤b∧b<192):=by
 obtain⟨n,rfl⟩:=YO h1;have:=zPn ⟨n,by omega⟩;rw[bne];congr 1;rw[Z9,YP,Zp];exact this
theorem zL3 (l:List UInt8) (h:zAd (zB7 l 0)=0∨l.length<zAd (zB7 l 0)):zAA l=(0,0,false):=by
 have:zAz l=none:=by
  unfold zAz
  by_cases hl:l=[]
  · rw[Zo hl]
  rw[Zl hl,Zo h]
 unfold zAA;rw[this]
theorem zL4:zAA []=(0,0,false):=rfl
theorem zDx (l:List UInt8) (n:Nat) (hn:zAd (zB7 l 0)=n) (j:Nat) (h1:j<n) (h2:1≤j) (h:¬(128≤zB7 l j∧zB7 l j<192)):zAA l=(0,0,false):=by
 have:zAz l=none:=by
  unfold zAz;rw[hn];split
  · rfl
  split
  · rfl
  rw[Zl (fun hh=>h (hh.1 j h1 h2))]
 unfold zAA;rw[this]
theorem zCO (l:List UInt8) (n:Nat) (hn:zAd (zB7 l 0)=n) (h:¬zAB (zAn l n (n-1))=n):zAA l=(0,0,false):=by
 have:zAz l=none:=by
  unfold zAz;rw[hn];split
  · rfl
  split
  · rfl
  rw[Zl (fun hh=>h hh.2)]
 unfold zAA;rw[this]
theorem zEk (l:List UInt8) (n:Nat) (h0:1≤n) (hl:n≤l.length) (hn:zAd (zB7 l 0)=n) (ht:∀j,j≤n-1→1≤j→128≤zB7 l j∧zB7 l j<192) (h:zAB (zAn l n (n-1))=n) :
 zAA l=(zAn l n (n-1),n,true):=by
 have:zAz l=some (zAn l n (n-1),n):=by
  unfold zAz;rw[hn];rw[Zl (by rintro rfl;simp at hl;omega),Zl (by omega),Zo ⟨fun j h1 h2=>ht j (by omega) h2,h⟩]
 unfold zAA;rw[this]
theorem zRl (s:ByteArray) (w:World) (hs:s.size≤maxLen) (h1:1≤s.size) (hn:zAd (zB7 s.data.toList 0)=1) (hH:Heads w) :
 Calls prog 64 #[.string s] w fun e w'=>e=.returned (.tuple #[.int .i32 (zAA s.data.toList).1,.int .i64 (zAA s.data.toList).2.1,.bool (zAA s.data.toList).2.2])∧Below w.heap.size w w':=by
 have hm:=hH.cell (3*1-2);have hlen:0<s.size:=by omega
 have ak:=zCx s 0 hlen;have hne:=zCn s hlen;obtain⟨q1,q2⟩:=zBR s.data.toList 0;have BD:=hy' (zIg s.data.toList 1 hn (by omega));have NT:=hy' (zDx s.data.toList 1 hn);have NW:=hy' (zCO s.data.toList 1 hn);have NY:=hy' (zEk s.data.toList 1 (by omega) (by simpa using h1) hn);have ah:=zQw (zB7 s.data.toList 0) q1 (by unfold zAd at hn;grind)
 have af:zAn s.data.toList 1 0=zB7 s.data.toList 0:=by
  unfold zAd at hn;simp only[zAn,zDa];omega
 have HN:=hy' hn;clear hn;unfold maxLen at hs;simp[U.row]at hm;have HB:=hy' af;clear af;go_enter func64,ntmps64;go_wp2_with fail;refine (zD0 _ _ q1 q2 hH).mono ?_;rintro e w1 ⟨rfl,aa⟩;rw[HN.o];replace hm:=(aa.cell (p:=⟨0,_,none⟩) hH.lt).trans hm;go_wp2;go_quiet (fail);go_wp2;rw[←HB.o];have ag:Heads (w1.drewN nq):=hH.next (below_drewN aa _);have ae:=below_drewN aa nq;clear hm;generalize w1.drewN nq=w2 at *;clear aa;go_loop [7,6] (fun i c=>∃k:Nat,1≤k∧k≤1∧i=.int .i64 k∧c=.int .i32 (zAn s.data.toList 1 (k-1))∧∀j,j≤k-1→1≤j→128≤zB7 s.data.toList j∧zB7 s.data.toList j<192) (fun i _=>5-(intOf i).toNat)
 case atStart=>exact⟨1,by omega,by omega,rfl,rfl,fun j h1 h2=>by omega⟩
 obtain⟨k,aj,ao,rfl,rfl,ht⟩:=hrel;obtain⟨b1,b2,b3⟩:=BD.o (k-1) (by omega) ht;have HT:=hy' ht;clear ht
 by_cases hkn:(k:Int)<1
 · exact absurd hkn (by omega)
 obtain rfl:k=1:=by omega
 clear b3
 by_cases hw:zAB (zAn s.data.toList 1 (1-1))=1
 · have hy:=NY.o HT.o hw;have HY:=hy' hy;have HW:=hy' hw;clear hy hw;go_wp2_with fail;refine (zAW _ _ (Yf (by decide) b1) (Yf b2 (by decide)) ag).mono ?_;rintro e w' ⟨rfl,rfl⟩;rw[HW.o];go_wp2;go_ret3;rw[HY.o];exact⟨rfl,ae⟩
 have hy:=NW.o hw;have HY:=hy' hy;have ai:(((zAB (zAn s.data.toList 1 (1-1)):Nat):Int) != 1)=true:=by rw[JW];omega
 clear hy hw;go_wp2_with fail;refine (zAW _ _ (Yf (by decide) b1) (Yf b2 (by decide)) ag).mono ?_;rintro e w' ⟨rfl,rfl⟩;go_wp2;go_ret3;rw[HY.o];exact⟨rfl,ae⟩
theorem zRm (s:ByteArray) (w:World) (hs:s.size≤maxLen) (h1:2≤s.size) (hn:zAd (zB7 s.data.toList 0)=2) (hH:Heads w) :
 Calls prog 64 #[.string s] w fun e w'=>e=.returned (.tuple #[.int .i32 (zAA s.data.toList).1,.int .i64 (zAA s.data.toList).2.1,.bool (zAA s.data.toList).2.2])∧Below w.heap.size w w':=by
 have hm:=hH.cell (3*2-2);have hlen:0<s.size:=by omega
 have ar:=zCx s 0 hlen;have hne:=zCn s hlen;obtain⟨q1,q2⟩:=zBR s.data.toList 0;have BD:=hy' (zIg s.data.toList 2 hn (by omega));have NT:=hy' (zDx s.data.toList 2 hn);have NW:=hy' (zCO s.data.toList 2 hn);have NY:=hy' (zEk s.data.toList 2 (by omega) (by simpa using h1) hn)
 have af:zAn s.data.toList 2 0=zB7 s.data.toList 0%32:=by
  unfold zAd at hn;simp only[zAn,zDa];grind
 have HN:=hy' hn;clear hn;unfold maxLen at hs;simp[U.row]at hm;have HB:=hy' af;clear af;go_enter func64,ntmps64;go_wp2_with fail;refine (zD0 _ _ q1 q2 hH).mono ?_;rintro e w1 ⟨rfl,ae⟩;rw[HN.o];replace hm:=(ae.cell (p:=⟨0,_,none⟩) hH.lt).trans hm;go_wp2;go_quiet (fail);go_wp2;rw[←HB.o];have ah:Heads (w1.drewN nq):=hH.next (below_drewN ae _);have aa:=below_drewN ae nq;clear hm;generalize w1.drewN nq=w2 at *;clear ae;go_loop [7,6] (fun i c=>∃k:Nat,1≤k∧k≤2∧i=.int .i64 k∧c=.int .i32 (zAn s.data.toList 2 (k-1))∧∀j,j≤k-1→1≤j→128≤zB7 s.data.toList j∧zB7 s.data.toList j<192) (fun i _=>5-(intOf i).toNat)
 case atStart=>exact⟨1,by omega,by omega,rfl,rfl,fun j h1 h2=>by omega⟩
 obtain⟨k,aj,au,rfl,rfl,ht⟩:=hrel;obtain⟨b1,b2,b3⟩:=BD.o (k-1) (by omega) ht;have HT:=hy' ht;clear ht
 by_cases hkn:(k:Int)<2
 · have b4:=b3 (by omega);have ak:k<s.size:=by omega
   have ao:=zCx s k ak;obtain⟨z1,z2⟩:=zBR s.data.toList k;have ag:=zH5 _ z1 z2;clear b3
   by_cases hta:128≤zB7 s.data.toList k∧zB7 s.data.toList k<192
   · rw[Zr hta]at ag;obtain⟨z3,z4⟩:=hta;go_wp2;refine⟨⟨k+1,by omega,by omega,by go_num,?_,?_⟩,by simp[intOf];omega⟩
     · obtain⟨k',rfl⟩:∃k',k=k'+1:=⟨k-1,by omega⟩;have e:zAn s.data.toList 2 (k'+1+1-1)=zAn s.data.toList 2 k'*64+(zB7 s.data.toList (k'+1)-128):=rfl;rw[e,show zB7 s.data.toList (k'+1)%64=zB7 s.data.toList (k'+1)-128 from by omega];rfl
     intro j aq ai
     by_cases hjk:j=k
     · subst hjk;exact⟨z3,z4⟩
     exact HT.o j (by omega) ai
   rw[Zu hta]at ag;have hy:=NT.o k (by omega) aj hta;have HY:=hy' hy;clear hy hta;go_wp2;go_ret3;rw[HY.o];exact⟨rfl,aa⟩
 obtain rfl:k=2:=by omega
 clear b3
 by_cases hw:zAB (zAn s.data.toList 2 (2-1))=2
 · have hy:=NY.o HT.o hw;have HY:=hy' hy;have HW:=hy' hw;clear hy hw;go_wp2_with fail;refine (zAW _ _ (Yf (by decide) b1) (Yf b2 (by decide)) ah).mono ?_;rintro e w' ⟨rfl,rfl⟩;rw[HW.o];go_wp2;go_ret3;rw[HY.o];exact⟨rfl,aa⟩
 have hy:=NW.o hw;have HY:=hy' hy;have ap:(((zAB (zAn s.data.toList 2 (2-1)):Nat):Int) != 2)=true:=by rw[JW];omega
 clear hy hw;go_wp2_with fail;refine (zAW _ _ (Yf (by decide) b1) (Yf b2 (by decide)) ah).mono ?_;rintro e w' ⟨rfl,rfl⟩;go_wp2;go_ret3;rw[HY.o];exact⟨rfl,aa⟩
theorem zRn (s:ByteArray) (w:World) (hs:s.size≤maxLen) (h1:3≤s.size) (hn:zAd (zB7 s.data.toList 0)=3) (hH:Heads w) :
 Calls prog 64 #[.string s] w fun e w'=>e=.returned (.tuple #[.int .i32 (zAA s.data.toList).1,.int .i64 (zAA s.data.toList).2.1,.bool (zAA s.data.toList).2.2])∧Below w.heap.size w w':=by
 have hm:=hH.cell (3*3-2);have hlen:0<s.size:=by omega
 have ar:=zCx s 0 hlen;have hne:=zCn s hlen;obtain⟨q1,q2⟩:=zBR s.data.toList 0;have BD:=hy' (zIg s.data.toList 3 hn (by omega));have NT:=hy' (zDx s.data.toList 3 hn);have NW:=hy' (zCO s.data.toList 3 hn);have NY:=hy' (zEk s.data.toList 3 (by omega) (by simpa using h1) hn)
 have af:zAn s.data.toList 3 0=zB7 s.data.toList 0%16:=by
  unfold zAd at hn;simp only[zAn,zDa];grind
 have HN:=hy' hn;clear hn;unfold maxLen at hs;simp[U.row]at hm;have HB:=hy' af;clear af;go_enter func64,ntmps64;go_wp2_with fail;refine (zD0 _ _ q1 q2 hH).mono ?_;rintro e w1 ⟨rfl,ae⟩;rw[HN.o];replace hm:=(ae.cell (p:=⟨0,_,none⟩) hH.lt).trans hm;go_wp2;go_quiet (fail);go_wp2;rw[←HB.o];have ah:Heads (w1.drewN nq):=hH.next (below_drewN ae _);have aa:=below_drewN ae nq;clear hm;generalize w1.drewN nq=w2 at *;clear ae;go_loop [7,6] (fun i c=>∃k:Nat,1≤k∧k≤3∧i=.int .i64 k∧c=.int .i32 (zAn s.data.toList 3 (k-1))∧∀j,j≤k-1→1≤j→128≤zB7 s.data.toList j∧zB7 s.data.toList j<192) (fun i _=>5-(intOf i).toNat)
 case atStart=>exact⟨1,by omega,by omega,rfl,rfl,fun j h1 h2=>by omega⟩
 obtain⟨k,aj,au,rfl,rfl,ht⟩:=hrel;obtain⟨b1,b2,b3⟩:=BD.o (k-1) (by omega) ht;have HT:=hy' ht;clear ht
 by_cases hkn:(k:Int)<3
 · have b4:=b3 (by omega);have ak:k<s.size:=by omega
   have ao:=zCx s k ak;obtain⟨z1,z2⟩:=zBR s.data.toList k;have ag:=zH5 _ z1 z2;clear b3
   by_cases hta:128≤zB7 s.data.toList k∧zB7 s.data.toList k<192
   · rw[Zr hta]at ag;obtain⟨z3,z4⟩:=hta;go_wp2;refine⟨⟨k+1,by omega,by omega,by go_num,?_,?_⟩,by simp[intOf];omega⟩
     · obtain⟨k',rfl⟩:∃k',k=k'+1:=⟨k-1,by omega⟩;have e:zAn s.data.toList 3 (k'+1+1-1)=zAn s.data.toList 3 k'*64+(zB7 s.data.toList (k'+1)-128):=rfl;rw[e,show zB7 s.data.toList (k'+1)%64=zB7 s.data.toList (k'+1)-128 from by omega];rfl
     intro j aq ai
     by_cases hjk:j=k
     · subst hjk;exact⟨z3,z4⟩
     exact HT.o j (by omega) ai
   rw[Zu hta]at ag;have hy:=NT.o k (by omega) aj hta;have HY:=hy' hy;clear hy hta;go_wp2;go_ret3;rw[HY.o];exact⟨rfl,aa⟩
 obtain rfl:k=3:=by omega
 clear b3
 by_cases hw:zAB (zAn s.data.toList 3 (3-1))=3
 · have hy:=NY.o HT.o hw;have HY:=hy' hy;have HW:=hy' hw;clear hy hw;go_wp2_with fail;refine (zAW _ _ (Yf (by decide) b1) (Yf b2 (by decide)) ah).mono ?_;rintro e w' ⟨rfl,rfl⟩;rw[HW.o];go_wp2;go_ret3;rw[HY.o];exact⟨rfl,aa⟩
 have hy:=NW.o hw;have HY:=hy' hy;have ap:(((zAB (zAn s.data.toList 3 (3-1)):Nat):Int) != 3)=true:=by rw[JW];omega
 clear hy hw;go_wp2_with fail;refine (zAW _ _ (Yf (by decide) b1) (Yf b2 (by decide)) ah).mono ?_;rintro e w' ⟨rfl,rfl⟩;go_wp2;go_ret3;rw[HY.o];exact⟨rfl,aa⟩
theorem zRo (s:ByteArray) (w:World) (hs:s.size≤maxLen) (h1:4≤s.size) (hn:zAd (zB7 s.data.toList 0)=4) (hH:Heads w) :
 Calls prog 64 #[.string s] w fun e w'=>e=.returned (.tuple #[.int .i32 (zAA s.data.toList).1,.int .i64 (zAA s.data.toList).2.1,.bool (zAA s.data.toList).2.2])∧Below w.heap.size w w':=by
 have hm:=hH.cell (3*4-2);have hlen:0<s.size:=by omega
 have ar:=zCx s 0 hlen;have hne:=zCn s hlen;obtain⟨q1,q2⟩:=zBR s.data.toList 0;have BD:=hy' (zIg s.data.toList 4 hn (by omega));have NT:=hy' (zDx s.data.toList 4 hn);have NW:=hy' (zCO s.data.toList 4 hn);have NY:=hy' (zEk s.data.toList 4 (by omega) (by simpa using h1) hn)
 have af:zAn s.data.toList 4 0=zB7 s.data.toList 0%8:=by
  unfold zAd at hn;simp only[zAn,zDa];grind
 have HN:=hy' hn;clear hn;unfold maxLen at hs;simp[U.row]at hm;have HB:=hy' af;clear af;go_enter func64,ntmps64;go_wp2_with fail;refine (zD0 _ _ q1 q2 hH).mono ?_;rintro e w1 ⟨rfl,ae⟩;rw[HN.o];replace hm:=(ae.cell (p:=⟨0,_,none⟩) hH.lt).trans hm;go_wp2;go_quiet (fail);go_wp2;rw[←HB.o];have ah:Heads (w1.drewN nq):=hH.next (below_drewN ae _);have aa:=below_drewN ae nq;clear hm;generalize w1.drewN nq=w2 at *;clear ae;go_loop [7,6] (fun i c=>∃k:Nat,1≤k∧k≤4∧i=.int .i64 k∧c=.int .i32 (zAn s.data.toList 4 (k-1))∧∀j,j≤k-1→1≤j→128≤zB7 s.data.toList j∧zB7 s.data.toList j<192) (fun i _=>5-(intOf i).toNat)
 case atStart=>exact⟨1,by omega,by omega,rfl,rfl,fun j h1 h2=>by omega⟩
 obtain⟨k,aj,au,rfl,rfl,ht⟩:=hrel;obtain⟨b1,b2,b3⟩:=BD.o (k-1) (by omega) ht;have HT:=hy' ht;clear ht
 by_cases hkn:(k:Int)<4
 · have b4:=b3 (by omega);have ak:k<s.size:=by omega
   have ao:=zCx s k ak;obtain⟨z1,z2⟩:=zBR s.data.toList k;have ag:=zH5 _ z1 z2;clear b3
   by_cases hta:128≤zB7 s.data.toList k∧zB7 s.data.toList k<192
   · rw[Zr hta]at ag;obtain⟨z3,z4⟩:=hta;go_wp2;refine⟨⟨k+1,by omega,by omega,by go_num,?_,?_⟩,by simp[intOf];omega⟩
     · obtain⟨k',rfl⟩:∃k',k=k'+1:=⟨k-1,by omega⟩;have e:zAn s.data.toList 4 (k'+1+1-1)=zAn s.data.toList 4 k'*64+(zB7 s.data.toList (k'+1)-128):=rfl;rw[e,show zB7 s.data.toList (k'+1)%64=zB7 s.data.toList (k'+1)-128 from by omega];rfl
     intro j aq ai
     by_cases hjk:j=k
     · subst hjk;exact⟨z3,z4⟩
     exact HT.o j (by omega) ai
   rw[Zu hta]at ag;have hy:=NT.o k (by omega) aj hta;have HY:=hy' hy;clear hy hta;go_wp2;go_ret3;rw[HY.o];exact⟨rfl,aa⟩
 obtain rfl:k=4:=by omega
 clear b3
 by_cases hw:zAB (zAn s.data.toList 4 (4-1))=4
 · have hy:=NY.o HT.o hw;have HY:=hy' hy;have HW:=hy' hw;clear hy hw;go_wp2_with fail;refine (zAW _ _ (Yf (by decide) b1) (Yf b2 (by decide)) ah).mono ?_;rintro e w' ⟨rfl,rfl⟩;rw[HW.o];go_wp2;go_ret3;rw[HY.o];exact⟨rfl,aa⟩
 have hy:=NW.o hw;have HY:=hy' hy;have ap:(((zAB (zAn s.data.toList 4 (4-1)):Nat):Int) != 4)=true:=by rw[JW];omega
 clear hy hw;go_wp2_with fail;refine (zAW _ _ (Yf (by decide) b1) (Yf b2 (by decide)) ah).mono ?_;rintro e w' ⟨rfl,rfl⟩;go_wp2;go_ret3;rw[HY.o];exact⟨rfl,aa⟩
theorem zFn (s:ByteArray) (w:World) (hs:s.size≤maxLen) (hH:Heads w) :
 Calls prog 64 #[.string s] w fun e w'=>e=.returned (.tuple #[.int .i32 (zAA s.data.toList).1,.int .i64 (zAA s.data.toList).2.1,.bool (zAA s.data.toList).2.2])∧Below w.heap.size w w':=by
 by_cases h0:s.size=0
 · have hl:s.data.toList=[]:=List.eq_nil_of_length_eq_zero (by simpa using h0);have he:s.toList.isEmpty=true:=by rw[zER,hl];rfl
   rw[hl,zL4];clear hl h0;go_enter func64,ntmps64;go_wp2;go_ret3;exact⟨rfl,Zc _ _⟩
 have hlen:0<s.size:=by omega
 have ae:zAd (zB7 s.data.toList 0)≤4:=by unfold zAd;grind
 by_cases hsm:zAd (zB7 s.data.toList 0)=0∨s.size<zAd (zB7 s.data.toList 0)
 · have hy:=zL3 s.data.toList (by simpa using hsm);have HY:=hy' hy;have ah:=zCx s 0 hlen;have hne:=zCn s hlen;obtain⟨q1,q2⟩:=zBR s.data.toList 0;clear hy;unfold maxLen at hs;obtain⟨n,hn⟩:∃n,zAd (zB7 s.data.toList 0)=n:=⟨_,rfl⟩;rw[hn]at ae hsm;have HN:=hy' hn;clear hn h0
   by_cases hz:n=0
   · subst hz;clear hsm;go_enter func64,ntmps64;go_wp2_with fail;refine (zD0 _ _ q1 q2 hH).mono ?_;rintro e w1 ⟨rfl,aa⟩;rw[HN.o];go_wp2;go_ret3;rw[HY.o];exact⟨rfl,aa⟩
   have ag:((n:Int) == 0)=false:=by simp;omega
   have af:(s.size:Int)<(n:Int):=by omega
   clear hsm hz;go_enter func64,ntmps64;go_wp2_with fail;refine (zD0 _ _ q1 q2 hH).mono ?_;rintro e w1 ⟨rfl,aa⟩;rw[HN.o];go_wp2;go_ret3;rw[HY.o];exact⟨rfl,aa⟩
 have hc:zAd (zB7 s.data.toList 0)=1∨zAd (zB7 s.data.toList 0)=2∨zAd (zB7 s.data.toList 0)=3∨zAd (zB7 s.data.toList 0)=4:=by omega
 rcases hc with h|h|h|h
 · exact zRl s w hs (by omega) h hH
 · exact zRm s w hs (by omega) h hH
 · exact zRn s w hs (by omega) h hH
 exact zRo s w hs (by omega) h hH
theorem U.ris_any (c:Int) (w:World) :
 Calls prog 70 #[.int .i64 c] w fun e w'=>e=.returned (.bool (U.isC c))∧w=w':=by
 have hd:∀x:Bool,(x=true↔(0≤c∧c≤1114111∧(c<55296∨57343<c)))→U.isC c=x:=by
  intro x hx;rw[Z9,U.isC_iff,hx]
 have HD:=hy' hd;clear hd;go_enter func70,ntmps70;go_wp2
 all_goals
  go_ret;refine⟨zBb (HD.o _ ?_).symm,rfl⟩;simp
  try omega
theorem zRp (l:List UInt8) (n i:Nat) (hi:i≤3) : -100000000≤zAn l n i∧zAn l n i≤100000000:=by
 have h0:=zBR l 0;have h1:=zBR l 1;have h2:=zBR l 2;have h3:=zBR l 3;have hh:0≤zDa n∧zDa n≤240:=by unfold zDa;split <;> omega
 have aa:i=0∨i=1∨i=2∨i=3:=by omega
 rcases aa with rfl|rfl|rfl|rfl <;> simp only[zAn,ZU,Nat.reduceAdd] <;> omega
theorem zMn (s:ByteArray) (w:World) (h1:1≤s.size) (h2:s.size≤4) :
 Calls prog 77 #[.string s] w fun e w'=>e=.returned (.int .i64 (zAn s.data.toList s.size (s.size-1)))∧w=w':=by
 have ai:=zCx s 0 (by omega);obtain⟨q1,q2⟩:=zBR s.data.toList 0;have BD:=hy' (zRp s.data.toList s.size);obtain⟨n,hn⟩:∃n,s.size=n:=⟨_,rfl⟩;have hlen:0<s.size:=by omega
 have ae:n=1∨n=2∨n=3∨n=4:=by omega
 have ha:zAn s.data.toList n 0=zB7 s.data.toList 0-zDa n:=rfl;rcases ae with rfl|rfl|rfl|rfl
 all_goals
  simp only[zDa]at ha;have HA:=hy' ha;clear ha;go_enter func77,ntmps77;go_wp2;go_loop [4,3] (fun i c=>∃k:Nat,1≤k∧k≤s.size∧i=.int .i64 k∧c=.int .i64 (zAn s.data.toList s.size (k-1))) (fun i _=>5-(intOf i).toNat)
  case atStart=>exact⟨1,by omega,by omega,rfl,by rw[hn];exact Yb _ (by first|exact HA.o.symm|exact HA.o.symm.trans (by omega)|(have:=HA.o;omega))⟩
  obtain⟨k,aj,ag,rfl,rfl⟩:=hrel
  by_cases hkn:(k:Int)<s.size
  · have af:k<s.size:=by omega
    have ah:=zCx s k af;obtain⟨z1,z2⟩:=zBR s.data.toList k;have aa:=BD.o (k-1) (by omega);obtain⟨b1,b2⟩:=aa;have HN:=hy' hn;clear hn;go_wp2;refine⟨⟨k+1,by omega,by omega,by go_num,?_⟩,by simp[intOf];omega⟩;obtain⟨k',rfl⟩:∃k',k=k'+1:=⟨k-1,by omega⟩;have e:zAn s.data.toList s.size (k'+1+1-1)=zAn s.data.toList s.size k'*64+(zB7 s.data.toList (k'+1)-128):=rfl;rw[e];exact Yb _ (by simp only[Qa];omega)
  obtain rfl:k=s.size:=by omega
  go_wp2;go_ret;exact⟨rfl,rfl⟩
theorem zSC (c:Int) (h:c<128):strOfNums [c]=⟨(zAl c).toArray⟩:=by unfold zAl;rw[if_pos h];rfl
theorem zSD (c:Int) (h:¬c<128) (h':c<2048):strOfNums [192+c/64,128+c%64]=⟨(zAl c).toArray⟩:=by unfold zAl;rw[if_neg h,if_pos h'];rfl
theorem zSE (c:Int) (h:¬c<128) (h':¬c<2048) (aa:c<65536):strOfNums [224+c/4096,128+c/64%64,128+c%64]=⟨(zAl c).toArray⟩:=by unfold zAl;rw[if_neg h,if_neg h',if_pos aa];rfl
theorem zSF (c:Int) (h:¬c<128) (h':¬c<2048) (aa:¬c<65536):strOfNums [240+c/262144,128+c/4096%64,128+c/64%64,128+c%64]=⟨(zAl c).toArray⟩:=by unfold zAl;rw[if_neg h,if_neg h',if_neg aa];rfl
theorem zIh (w:World) (xs:List Int) (n:Nat) (hn:xs.length=n) :
 (convert 98 9 (.slice (some ⟨w.heap.size,0,none⟩) n n)).run prog (w.alloc (.cells (xs.map (Value.int .u8)).toArray 5))=.ok (.string (strOfNums xs)) (w.alloc (.cells (xs.map (Value.int .u8)).toArray 5)):=by
 refine Qq _ _ 5 underlying98 underlying5 _ 0 n n xs hn (fun i hi=>?_) _ underlying9;have hb:(w.alloc (.cells (xs.map (Value.int .u8)).toArray 5)).heap[w.heap.size]?=some (.cells (xs.map (Value.int .u8)).toArray 5 (0,0)):=ZS _ _;simp only[World.cell?,hb];have:i<xs.length:=by omega
 simp[this,List.getD]
theorem zJ3 (c:Int) (w:World) (hc:U.isC c=true) :
 Calls prog 28 #[.int .i64 c] w fun e w'=>e=.returned (.string ⟨(zAl c).toArray⟩)∧Below w.heap.size w w':=by
 obtain⟨h1,h2,h3⟩:=(U.isC_iff c).1 hc;clear h3 hc
 by_cases c1:c<128
 · have hcv:=zIh w [c] 1 rfl;rw[zSC c c1]at hcv;simp only[Z1,YB]at hcv;go_enter func28,ntmps28;go_wp2;go_ret;exact⟨rfl,(Zc _ _).alloc (Za _) _⟩
 by_cases c2:c<2048
 · have hcv:=zIh w [192+c/64,128+c%64] 2 rfl;rw[zSD c c1 c2]at hcv;simp only[Z1,YB]at hcv;go_enter func28,ntmps28;go_wp2;go_ret;exact⟨rfl,(Zc _ _).alloc (Za _) _⟩
 by_cases c3:c<65536
 · have hcv:=zIh w [224+c/4096,128+c/64%64,128+c%64] 3 rfl;rw[zSE c c1 c2 c3]at hcv;simp only[Z1,YB]at hcv;go_enter func28,ntmps28;go_wp2;go_ret;exact⟨rfl,(Zc _ _).alloc (Za _) _⟩
 have hcv:=zIh w [240+c/262144,128+c/4096%64,128+c/64%64,128+c%64] 4 rfl;rw[zSF c c1 c2 c3]at hcv;simp only[Z1,YB]at hcv;go_enter func28,ntmps28;go_wp2;go_ret;exact⟨rfl,(Zc _ _).alloc (Za _) _⟩
theorem zPo {P:Program} {f:FuncId} {args:Array Value} {w:World} {n:Nat} {v:Value}
 (h:Calls P f args (w.drewN n) fun e w'=>e=.returned v∧w.drewN n=w'):Calls P f args (w.drewN n) fun e w''=>e=.returned v∧∃m,w''=w.drewN m :=
 Calls.quiet_of_same (h.mono fun _ _ ⟨he,hm⟩=>⟨he,hm.symm⟩)
def zDy (l:List UInt8):Int × Nat:=match zAz l with|some (c,n)=>(c,n)|none=>(0,0)
theorem zHD {l:List UInt8} {c:Int} {n:Nat} (h:zAz l=some (c,n)):zDy l=(c,n):=by unfold zDy;rw[h]
theorem zES {l:List UInt8} (h:zAz l=none):zDy l=(0,0):=by unfold zDy;rw[h]
theorem zNE (l:List UInt8) (c:Int) (j:Nat) (hj:j≤l.length) (hc:U.isC c=true) (he:zAl c=l.take j):zAz l=some (c,j):=by
 have h:=zH4 c hc (l.drop j);rw[he,ZF,Zq,X7 hj]at h;exact h
theorem zQx (c:Int) (hc:U.isC c=true):zAn (zAl c) (zAl c).length ((zAl c).length-1)=c:=by
 have h:=zH4 c hc [];rw[Z4]at h;unfold zAz at h;split at h
 · cases h
 split at h
 · cases h
 split at h
 · simp only[Zh,YE]at h;obtain⟨h1,h2⟩:=h;rw[h2]at h1;exact h1
 cases h
theorem zDb (l:List UInt8) (c:Int) (n:Nat) (h:zAz l=some (c,n)):1≤n∧n≤4∧n≤l.length∧U.isC c=true∧zAl c=l.take n∧zAn (l.take n) n (n-1)=c:=by
 obtain⟨hc,hn,t,rfl⟩:=zHC l c n h;have hl:=zMm c hc;have h1:=(zJ2 c).2 hc;have h4:=zKp c;have ht:(zAl c++t).take n=zAl c:=by rw[hn,←hl];simp
 refine⟨by omega,by omega,by rw[Zd];omega,hc,ht.symm,?_⟩;rw[ht,hn,←hl];exact zQx c hc
theorem zQy (s:ByteArray) (k:Nat):(s.extract 0 k).data.toList=s.data.toList.take k:=by
 simp[Jk,JF]
theorem zJ4 (s:ByteArray) (w:World) (hs:s.size≤maxLen) :
 Calls prog 46 #[.string s] w fun e w'=>e=.returned (.tuple #[.int .i64 (zDy s.data.toList).1,.int .i64 (zDy s.data.toList).2])∧Below w.heap.size w w':=by
 unfold maxLen at hs;go_enter func46,ntmps46;go_wp2;go_loopw [4] (fun i wr=>∃k:Nat,1≤k∧k≤5∧i=.int .i64 k∧Below w.heap.size w wr∧∀j,j<k→∀c,zAz s.data.toList≠some (c,j)) (fun i _=>5-(intOf i).toNat)
 case atStart=>exact⟨1,by omega,by omega,rfl,Zc _ _,fun j hj c h=>by have:=(zDb _ _ _ h).1;omega⟩
 obtain⟨k,au,av,rfl,aa,ao⟩:=hrel;have aj:=aa.size;have af:=hy' ao;clear ao
 by_cases hk:(k:Int)<5
 rotate_left
 · have hn:zAz s.data.toList=none:=by
    rcases hh:zAz s.data.toList with _|⟨c,n⟩
    · rfl
    have g:=zDb _ _ _ hh;exact absurd hh (af.o n (by omega) c)
   have HN:=hy' (zES hn);clear hn;go_wp2;go_ret2;rw[HN.o];exact⟨rfl,aa⟩
 by_cases hks:(k:Int)≤s.size
 rotate_left
 · have hn:zAz s.data.toList=none:=by
    rcases hh:zAz s.data.toList with _|⟨c,n⟩
    · rfl
    have g:=zDb _ _ _ hh;have gl:s.data.toList.length=s.size:=by simp
    exact absurd hh (af.o n (by omega) c)
   have HN:=hy' (zES hn);clear hn;go_wp2;go_ret2;rw[HN.o];exact⟨rfl,aa⟩
 obtain⟨x,hx⟩:∃x:ByteArray,s.extract 0 k=x:=⟨_,rfl⟩;have ah:x.data.toList=s.data.toList.take k:=by rw[←hx];exact zQy s k
 have ap:x.size=k:=by
  have:x.data.toList.length=x.size:=by simp
  rw[←this,ah];simp;omega
 have ai:=hy' ah;have ag:=hy' ap;clear ah ap;go_wp2_with fail;refine (zMn _ _ (by rw[ag.o];omega) (by rw[ag.o];omega)).mono ?_;rintro e w' ⟨rfl,rfl⟩;rw[ai.o,ag.o];obtain⟨c,hc⟩:∃c,zAn (List.take k s.data.toList) k (k-1)=c:=⟨_,rfl⟩;rw[hc]
 by_cases hch:U.isC c=true
 · obtain⟨z1,z2,-⟩:=(U.isC_iff c).1 hch;have HC:=hy' hc;have ae:=hy' hch;clear hc;go_wp2;go_region_held3 (fun _=>True) (trivial) (first|(go_at_call 70;refine (U.ris_any _ _).mono ?_;rintro e w' ⟨rfl,rfl⟩)|(go_at_call 28;refine (zJ3 _ _ ae.o).mono ?_;rintro e w4 ⟨rfl,ak⟩));go_wp2
   · have he:(zAl c == x.toList)=true:=by assumption
     have ar:zAl c=s.data.toList.take k:=by rw[←ai.o,←zER];exact eq_of_beq he
     have hn:=zNE s.data.toList c k (by simp;omega) ae.o ar;go_ret2;rw[zHD hn];exact⟨rfl,aa.trans ((Zc _ _).drew.trans (ak.mono aj))⟩
   have he:(zAl c == x.toList)=false:=by assumption
   refine⟨⟨k+1,by omega,by omega,by go_num,aa.trans ((Zc _ _).drew.trans (ak.mono aj)),fun j hj c' h=>?_⟩,by simp[intOf];omega⟩
   by_cases hjk:j=k
   · subst hjk;obtain⟨_,_,_,g4,g5,g6⟩:=zDb _ _ _ h;rw[HC.o]at g6;subst g6;rw[zER,ai.o,g5]at he;simp at he
   exact af.o j (by omega) c' h
 have aq:U.isC c=false:=by simpa using hch
 have HC:=hy' hc;have ae:=hy' hch;clear hc hch;go_wp2;go_quiet ((go_at_call 70;exact zPo (U.ris_any _ _)));go_wp2;refine⟨⟨k+1,by omega,by omega,by go_num,below_drewN aa _,fun j hj c' h=>?_⟩,by simp[intOf];omega⟩
 by_cases hjk:j=k
 · subst hjk;obtain⟨_,_,_,g4,_,g6⟩:=zDb _ _ _ h;rw[HC.o]at g6;subst g6;exact ae.o g4
 exact af.o j (by omega) c' h
theorem zNF (s:ByteArray) (k:Nat):(s.extract k s.size).data.toList=s.data.toList.drop k:=by
 have h:s.data.toList.length=s.size:=by simp
 simp only[Jk,JF];rw[List.extract_eq_take_drop,Zm (by rw[ZO];omega)]
theorem zGs (s:ByteArray):s.data.toList.length=s.size:=by simp
def zRP (s:ByteArray) (n:Nat):ByteArray:=if n<s.size then s.extract 0 n else s
theorem zQz (s:ByteArray) (n:Nat):(zRP s n).data.toList=s.data.toList.take n:=by
 unfold zRP;split
 · exact zQy s n
 rw[Zm (by rw[zGs];omega)]
theorem zSG (s:ByteArray) (n:Nat):(zRP s n).size≤n:=by
 rw[←zGs,zQz,Zq];omega
theorem U.cut_any (s:ByteArray) (n:Nat) (w:World) (hs:s.size≤maxLen) :
 Calls prog 20 #[.string s,.int .i64 n] w fun e w'=>e=.returned (.string (zRP s n))∧w=w':=by
 unfold maxLen at hs
 by_cases h:n<s.size
 · have hc:zRP s n=s.extract 0 n:=by unfold zRP;rw[if_pos h]
   have HC:=hy' hc;clear hc;go_enter func20,ntmps20;go_wp2;go_ret;rw[HC.o];exact⟨rfl,rfl⟩
 have hc:zRP s n=s:=by unfold zRP;rw[if_neg h]
 have HC:=hy' hc;clear hc;go_enter func20,ntmps20;go_wp2;go_ret;rw[HC.o];exact⟨rfl,rfl⟩
theorem zHE {l:List UInt8} {c:Int} {k:Nat} (h:zAz l=some (c,k)):zAA l=(c,k,true):=by unfold zAA;rw[h]
theorem zHF {l:List UInt8} (h:zAz l=none):zAA l=(0,0,false):=by unfold zAA;rw[h]
def zA5 (cs:List Int):List UInt8:=cs.flatMap zAl
theorem zAs (c:Int) (cs:List Int):zA5 (c::cs)=zAl c++zA5 cs:=rfl
theorem zAV (a b:List Int):zA5 (a++b)=zA5 a++zA5 b:=by unfold zA5;rw[List.flatMap_append]
theorem U.enc_pos (c:Int):1≤(zAl c).length∧(zAl c).length≤4:=by unfold zAl;grind
theorem zFo (cs:List Int):cs.length≤(zA5 cs).length:=by
 induction cs with
 | nil=>simp
 | cons c cs ih=>rw[zAs,Zd,ZE];have:=(U.enc_pos c).1;omega
def zH6 (l:List UInt8) (cs:List Int) (r:List UInt8):Prop:=l=zA5 cs++r∧(∀c∈cs,U.isC c=true)∧zAz r=none
theorem zRQ (l:List UInt8):∃cs r,zH6 l cs r:=by
 have:∀n,∀l:List UInt8,l.length≤n→∃cs r,zH6 l cs r:=by
  intro n
  induction n with
  | zero =>
     intro l h;have h0:l=[]:=Zz (by omega)
     exact⟨[],l,rfl,by simp,by rw[h0];rfl⟩
  | succ n ih =>
    intro l h;rcases hn:zAz l with _|⟨c,k⟩
    · exact⟨[],l,rfl,by simp,hn⟩
    obtain⟨hc,_,t,rfl⟩:=zHC l c k hn;obtain⟨cs,r,h1,h2,h3⟩:=ih t (by rw[Zd]at h;have:=(U.enc_pos c).1;omega);refine⟨c::cs,r,by rw[zAs,ZC,←h1],?_,h3⟩;intro x hx;rcases List.mem_cons.1 hx with rfl|hx
    · exact hc
    exact h2 x hx
 exact this l.length l (Za _)
theorem U.dec_next {c:Int} {b:List Int} {r:List UInt8} (hc:U.isC c=true):zAz (zA5 (c::b)++r)=some (c,(zAl c).length):=by
 rw[zAs,ZC];exact zH4 c hc _
theorem zHG {l:List UInt8} {cs cs':List Int} {r r':List UInt8} (h:zH6 l cs r) (h':zH6 l cs' r'):cs=cs'∧r=r':=by
 obtain⟨rfl,h2,h3⟩:=h;obtain⟨g1,g2,g3⟩:=h'
 induction cs generalizing cs' with
 | nil =>
   cases cs' with
   | nil=>exact⟨rfl,g1⟩
   | cons c b =>
     have e:zA5 []++r=r:=rfl;rw[e]at g1;rw[g1,U.dec_next (g2 c (by simp))]at h3;cases h3
 | cons c b ih =>
   cases cs' with
   | nil =>
     have e:zA5 []++r'=r':=rfl;rw[e]at g1;rw[←g1,U.dec_next (h2 c (by simp))]at g3;cases g3
   | cons c' b' =>
     have e1:=U.dec_next (r:=r) (b:=b) (h2 c (by simp));have e2:=U.dec_next (r:=r') (b:=b') (g2 c' (by simp));rw[g1,e2]at e1;simp only[Zh,YE]at e1;obtain⟨rfl,_⟩:=e1;rw[zAs,zAs,ZC,ZC]at g1;have:=ih (cs':=b') (fun x hx=>h2 x (Zv _ hx)) (List.append_cancel_left g1) (fun x hx=>g2 x (Zv _ hx));exact⟨by rw[this.1],this.2⟩
def U.vN (cs:List Int) (r:List UInt8):Int:=if r=[] then (cs.length:Nat) else ((zA5 cs).length:Nat)
def U.vB (r:List UInt8):Bool:=decide (r=[])
theorem zRq (cs:List Int):U.vN cs []=(cs.length:Nat):=rfl
theorem zQA (cs:List Int) (a:UInt8) (r:List UInt8):U.vN cs (a::r)=((zA5 cs).length:Nat):=rfl
theorem zRr:U.vB []=true:=rfl
theorem zQB (a:UInt8) (r:List UInt8):U.vB (a::r)=false:=rfl
theorem zNG (s:ByteArray) (w:World) (hs:s.size≤maxLen) (hH:Heads w) (cs:List Int) (r:List UInt8) (hd:zH6 s.data.toList cs r) :
 Calls prog 59 #[.string s] w fun e w'=>e=.returned (.tuple #[.int .i64 (U.vN cs r),.bool (U.vB r)])∧Below w.heap.size w w':=by
 obtain⟨d1,d2,d3⟩:=hd;have hlen:s.size=(zA5 cs).length+r.length:=by rw[←zGs,d1,Zd]
 have a6:=zFo cs;have au:=hs;unfold maxLen at hs;have D1:=hy' d1;have D2:=hy' d2;have D3:=hy' d3;have HL:=hy' hlen;clear d1 d2 d3 hlen;go_enter func59,ntmps59;go_wp2;go_loopw [5,4] (fun i n wr=>∃a b,cs=a++b∧i=.int .i64 ((zA5 a).length:Nat)∧n=.int .i64 (a.length:Nat)∧Below w.heap.size w wr) (fun i _ _=>s.size-(intOf i).toNat)
 case atStart=>exact⟨[],cs,rfl,rfl,rfl,Zc _ _⟩
 obtain⟨a,b,aj,rfl,rfl,aa⟩:=hrel;have aq:=aa.size;have aw:=hH.next aa;have af:s.data.toList.drop (zA5 a).length=zA5 b++r:=by rw[D1.o,aj,zAV,ZC,Xv]
 have ag:(zA5 a).length+(zA5 b).length+r.length=s.size:=by rw[HL.o,aj,zAV,Zd]
 have ah:=zFo a;have ap:=hy' aj;clear aj;obtain⟨m,hm⟩:∃m,(zA5 a).length=m:=⟨_,rfl⟩;have HM:=hy' hm;rw[hm]at af ag ah;rw[hm];clear hm;obtain⟨na,ai⟩:∃na,a.length=na:=⟨_,rfl⟩;have ax:=hy' ai;rw[ai]at ah;rw[ai];clear ai;obtain⟨x,hx⟩:∃x:ByteArray,s.extract m s.size=x:=⟨_,rfl⟩;have ao:x.data.toList=zA5 b++r:=by rw[←hx,←af];exact zNF s _
 have a1:x.size≤s.size:=by rw[←zGs,ao,Zd];omega
 have ay:=hy' ao;clear ao af;rcases b with _|⟨c,b⟩
 · have ha:cs=a:=by rw[ap.o,Z4]
   rcases r with _|⟨r0,r'⟩
   · have az:¬(m:Int)<s.size:=by simp[zA5]at ag;omega
     have ak:=hy' ha;clear ha ag;go_wp2;go_ret2;rw[ak.o,zRq,zRr,ax.o];exact⟨rfl,aa⟩
   have az:(m:Int)<s.size:=by rw[ZE]at ag;omega
   have h3:zAA x.data.toList=(0,0,false):=by rw[ay.o];exact zHF D3.o
   have H3:=hy' h3;have ak:=hy' ha;clear ha ag h3;go_wp2_with fail;refine (zFn _ _ (Zi a1 au) aw).mono ?_;rintro e w1 ⟨rfl,ae⟩;rw[H3.o];go_wp2;go_ret2;rw[ak.o,zQA,zQB,HM.o];exact⟨rfl,aa.trans (ae.mono aq)⟩
 have hc:=D2.o c (by rw[ap.o];simp);obtain⟨l1,l2⟩:=U.enc_pos c;have az:(m:Int)<s.size:=by rw[zAs,Zd]at ag;omega
 have h3:zAA x.data.toList=(c,(zAl c).length,true):=by rw[ay.o];exact zHE (U.dec_next hc)
 have hq:m+(zAl c).length≤s.size:=by rw[zAs,Zd]at ag;omega
 have ar:(zA5 (a++[c])).length=m+(zAl c).length:=by rw[zAV,Zd,HM.o];simp[zA5]
 have H3:=hy' h3;have av:=hy' ar;clear ag h3 ar;obtain⟨k,hk⟩:∃k,(zAl c).length=k:=⟨_,rfl⟩;rw[hk]at l1 l2 hq av H3;clear hk;go_wp2_with fail;refine (zFn _ _ (Zi a1 au) aw).mono ?_;rintro e w1 ⟨rfl,ae⟩;rw[H3.o];go_wp2;exact⟨⟨a++[c],b,by rw[ap.o,ZC];rfl,by rw[av.o];go_num,by rw[Zd,ax.o];go_num,aa.trans (ae.mono aq)⟩,by simp[intOf];omega⟩
def RetOwn2 (el:TypeId) (k:IntKind) (l:List Int) (n:Int) (w:World) (e:Ending) (w':World):Prop :=
 ∃A c,e=.returned (.tuple #[.slice A l.length c,.int .i64 n])∧w'.ownsRow w.heap.size el 1 (.slice A l.length c) l.length (l.map (Value.int k))∧Below w.heap.size w w'
theorem RetOwn2.mk {el:TypeId} {k:IntKind} {l:List Int} {n:Int} {w w':World} {v:Value} {m:Nat} {xs:List Value} (h:w'.ownsRow w.heap.size el 1 v m xs) (hm:m=l.length) (hx:xs=l.map (Value.int k)) (hb:Below w.heap.size w w') :
 RetOwn2 el k l n w (.returned (.tuple #[v,.int .i64 n])) w':=by
 subst hm hx;obtain⟨A,c,rfl⟩:=zA2 h;exact⟨A,c,rfl,h,hb⟩
def zOF (r:List UInt8):Int:=if r=[] then 0 else 6
def zHH (cs:List Int) (r:List UInt8):List Int:=if r=[] then cs else []
theorem zJ5 (a:UInt8) (r:List UInt8):zOF (a::r)=6:=rfl
theorem zFZ (cs:List Int) (a:UInt8) (r:List UInt8):zHH cs (a::r)=[]:=rfl
theorem zHI (s:ByteArray) (w:World) (hs:s.size≤1000000000000) (hH:Heads w) (cs:List Int) (r:List UInt8) (hd:zH6 s.data.toList cs r) :
 Calls prog 57 #[.string s] w (RetOwn2 21 .i32 (zHH cs r) (zOF r) w):=by
 obtain⟨d1,d2,d3⟩:=hd;have hlen:s.size=(zA5 cs).length+r.length:=by rw[←zGs,d1,Zd]
 have D1:=hy' d1;have D2:=hy' d2;have D3:=hy' d3;have HL:=hy' hlen;clear d1 d2 d3 hlen;obtain⟨i0,hi,ax,ay,aw⟩:=Z7 zCw;go_enter func57,ntmps57;go_wp2;go_loopw [0,4] (fun x v wr=>∃a b y,cs=a++b∧x=.string y∧y.data.toList=zA5 b++r∧y.size≤s.size∧wr.ownsRow w.heap.size 21 1 v a.length (a.map (Value.int .i32))∧Below w.heap.size w wr) (fun x _ _=>match x with | .string y=>y.size|_=>0)
 case atStart=>exact⟨[],cs,s,rfl,rfl,D1.o,Za _,ZI _ _ _ _,Zc _ _⟩
 obtain⟨a,b,y,aj,rfl,hy,bg,af,ae⟩:=hrel;have au:=ae.size;have av:=hH.next ae;have bf:(zA5 a).length≤s.size:=by rw[HL.o,aj,zAV,Zd];omega
 have bb:=zFo a;have ao:=hy' aj;have HY:=hy' hy;have ar:y.size≤maxLen:=by unfold maxLen;omega
 clear aj hy;rcases b with _|⟨c,b⟩
 · have ha:cs=a:=by rw[ao.o,Z4]
   rcases r with _|⟨r0,r'⟩
   · have he:y.toList.isEmpty=true:=by rw[zER,HY.o];rfl
     have aq:=hy' ha;clear ha;go_wp2;go_ret2;exact RetOwn2.mk af (by rw[show zHH cs []=cs from rfl,aq.o]) (by rw[show zHH cs []=cs from rfl,aq.o]) ae
   have he:y.toList.isEmpty=false:=by rw[zER,HY.o];rfl
   have h3:zAA y.data.toList=(0,0,false):=by rw[HY.o];exact zHF D3.o
   have H3:=hy' h3;clear h3 ha;go_wp2_with fail;refine (zFn _ _ ar av).mono ?_;rintro e w1 ⟨rfl,aa⟩;rw[H3.o];go_wp2;go_ret2;rw[zFZ,zJ5];exact RetOwn2.mk (ZI _ _ _ _) rfl rfl (ae.trans (aa.mono au))
 have hc:=D2.o c (by rw[ao.o];simp);obtain⟨l1,l2⟩:=U.enc_pos c;have ap:y.size=(zAl c).length+((zA5 b).length+r.length):=by rw[←zGs,HY.o,zAs,Zd,Zd,Yk]
 have h3:zAA y.data.toList=(c,(zAl c).length,true):=by rw[HY.o];exact zHE (U.dec_next hc)
 have he:y.toList.isEmpty=false:=zCn y (by omega);obtain⟨k,hk⟩:∃k,(zAl c).length=k:=⟨_,rfl⟩;obtain⟨z,hz⟩:∃z:ByteArray,y.extract k y.size=z:=⟨_,rfl⟩
 have ak:z.data.toList=zA5 b++r:=by
  rw[←hz,zNF,HY.o,zAs,ZC,←hk,Xv]
 have a7:z.size<y.size:=by
  rw[ap,←zGs,ak,Zd];omega
 have H3:=hy' h3;have ba:=hy' ak;rw[hk]at l1 l2 H3 ap;have bc:k≤y.size:=by omega
 have az:=(U.isC_iff c).1 hc;obtain⟨c1,c2,-⟩:=az;clear hk h3 ak ap;have a8:a.length+1≤1000000000001:=by omega
 go_wp2_with fail;refine (zFn _ _ ar av).mono ?_;rintro e w1 ⟨rfl,aa⟩;rw[H3.o];have ai:=zA4 af aa (Za _);have ag:=ae.trans (aa.mono au);have a1:=ag.size;clear af aa;go_wp2_with (at_builtin;refine zAj _ rfl _ _ _ rfl w.heap.size 21 i0 _ 4 underlying70 hi ax ay aw rfl _ a.length _ rfl ai _ rfl rfl (by simp only[maxLen];omega) (by omega) a1 ?_;intro v1 w2 ah a6);exact⟨⟨a++[c],b,z,by rw[ao.o,ZC];rfl,rfl,ba.o,by omega,by rw[Zd,ZK];exact ah,ag.trans a6⟩,a7⟩
def zS1 (cs:List Int) (r:List UInt8):Int:=if r=[] then -1 else ((zA5 cs).length:Nat)
theorem zPp (cs:List Int) (a:UInt8) (r:List UInt8):zS1 cs (a::r)=((zA5 cs).length:Nat):=rfl
theorem zRs (s:ByteArray) (w:World) (hs:s.size≤1000000000000) (cs:List Int) (r:List UInt8) (hd:zH6 s.data.toList cs r) :
 Calls prog 21 #[.string s] w (RetOwn2 3 .i64 (zHH cs r) (zS1 cs r) w):=by
 obtain⟨d1,d2,d3⟩:=hd;have hlen:s.size=(zA5 cs).length+r.length:=by rw[←zGs,d1,Zd]
 have D1:=hy' d1;have D2:=hy' d2;have D3:=hy' d3;have HL:=hy' hlen;clear d1 d2 d3 hlen;obtain⟨i0,hi,a7,a8,a6⟩:=Z7 zDE;go_enter func21,ntmps21;go_wp2;go_loopw [5,4] (fun i v wr=>∃a b,cs=a++b∧i=.int .i64 ((zA5 a).length:Nat)∧wr.ownsRow w.heap.size 3 1 v a.length (a.map (Value.int .i64))∧Below w.heap.size w wr) (fun i _ _=>s.size-(intOf i).toNat)
 case atStart =>
  refine⟨[],cs,rfl,rfl,?_,(Zc _ _).alloc (Za _) _⟩;exact⟨rfl,.inr ⟨w.heap.size,0,#[],rfl,Za _,ZS _ _,Za _,by decide,rfl,rfl⟩⟩
 obtain⟨a,b,ao,rfl,ah,af⟩:=hrel;have aw:=af.size;have ae:s.data.toList.drop (zA5 a).length=zA5 b++r:=by rw[D1.o,ao,zAV,ZC,Xv]
 have ag:(zA5 a).length+(zA5 b).length+r.length=s.size:=by rw[HL.o,ao,zAV,Zd]
 have au:=zFo a;have ar:=hy' ao;clear ao;obtain⟨m,hm⟩:∃m,(zA5 a).length=m:=⟨_,rfl⟩;have HM:=hy' hm;rw[hm]at ae ag au;rw[hm];clear hm;obtain⟨x,hx⟩:∃x:ByteArray,s.extract m s.size=x:=⟨_,rfl⟩;have aq:x.data.toList=zA5 b++r:=by rw[←hx,←ae];exact zNF s _
 have bg:x.size≤s.size:=by rw[←zGs,aq,Zd];omega
 have av:x.size≤maxLen:=by unfold maxLen;omega
 have az:=hy' aq;clear aq ae;rcases b with _|⟨c,b⟩
 · have ha:cs=a:=by rw[ar.o,Z4]
   rcases r with _|⟨r0,r'⟩
   · have a1:¬(m:Int)<s.size:=by simp[zA5]at ag;omega
     have ap:=hy' ha;clear ha ag;go_wp2;go_ret2;rw[show zS1 cs [] = -1 from rfl,show zHH cs []=cs from rfl,ap.o];exact RetOwn2.mk ah rfl rfl af
   have a1:(m:Int)<s.size:=by rw[ZE]at ag;omega
   have h3:zDy x.data.toList=(0,0):=by rw[az.o];exact zES D3.o
   have H3:=hy' h3;have ap:=hy' ha;clear ha ag h3;go_wp2_with fail;refine (zJ4 _ _ av).mono ?_;rintro e w1 ⟨rfl,aa⟩;rw[H3.o];go_wp2;go_ret2;rw[zFZ,zPp,ap.o,HM.o];exact RetOwn2.mk (ZI _ _ _ _) rfl rfl (af.trans (aa.mono aw))
 have hc:=D2.o c (by rw[ar.o];simp);obtain⟨l1,l2⟩:=U.enc_pos c;have a1:(m:Int)<s.size:=by rw[zAs,Zd]at ag;omega
 have h3:zDy x.data.toList=(c,(zAl c).length):=by rw[az.o];exact zHD (U.dec_next hc)
 have hq:m+(zAl c).length≤s.size:=by rw[zAs,Zd]at ag;omega
 have ax:(zA5 (a++[c])).length=m+(zAl c).length:=by rw[zAV,Zd,HM.o];simp[zA5]
 have H3:=hy' h3;have ay:=hy' ax;clear ag h3 ax;obtain⟨k,hk⟩:∃k,(zAl c).length=k:=⟨_,rfl⟩;rw[hk]at l1 l2 hq ay H3;have bf:((k:Int) == 0)=false:=by simp;omega
 clear hk;have bc:a.length+1≤1000000000001:=by omega
 go_wp2_with fail;refine (zJ4 _ _ av).mono ?_;rintro e w1 ⟨rfl,aa⟩;rw[H3.o];have ak:=zA4 ah aa (Za _);have ai:=af.trans (aa.mono aw);have ba:=ai.size;clear ah aa;go_wp2_with (at_builtin;refine zAj _ rfl _ _ _ rfl w.heap.size 3 i0 _ 8 underlying23 hi a7 a8 a6 rfl _ a.length _ rfl ak _ rfl rfl (by simp only[maxLen];omega) (by omega) ba ?_;intro v1 w2 aj bb);exact⟨⟨a++[c],b,by rw[ar.o,ZC];rfl,by rw[ay.o];go_num,by rw[Zd,ZK];exact aj,ai.trans bb⟩,by simp[intOf];omega⟩
end Go.Proofs.YtddbccflcekdpaaGreatDoor
