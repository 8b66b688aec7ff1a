/- utf.Next: the first character of bytes, by walking its text. -/
import Derived.Test.YtjakbblocbicjaaGreatDoorUtf
set_option maxRecDepth 100000
set_option maxHeartbeats 1000000
set_option linter.unusedVariables false
set_option linter.unusedSimpArgs false
namespace Go.Proofs.YtjakbblocbicjaaGreatDoor
open Go.Proofs.Tryz
open Go.RowKit
theorem zCn (s:ByteArray) (k:Nat) (h:k<s.size):((s[k].toNat:Nat):Int)=zB5 s.data.toList k:=by
 have h':k<s.data.toList.length:=by simpa using h
 have:s.data.toList.getD k 0=s[k]:=by
  rw[Yi,Zb h'];rfl
 unfold zB5;rw[this]
theorem zEK (s:ByteArray):s.toList=s.data.toList:=YB s
theorem zCf (s:ByteArray) (h:0<s.size):s.toList.isEmpty=false:=by
 rw[zEK];rcases hl:s.data.toList with _|⟨a,t⟩
 · have:s.data.toList.length=s.size:=by simp
   rw[hl]at this;simp at this;omega
 rfl
def zAz (l:List UInt8):Int × Nat × Bool:=match zAy l with|some (c,n)=>(c,n,true)|none=>(0,0,false)
theorem zI5 (l:List UInt8) (n:Nat) (hn:zAb (zB5 l 0)=n) (h0:1≤n) (i:Nat) (hi:i<n) (ht:∀j,j≤i→1≤j→128≤zB5 l j∧zB5 l j<192) :
 0≤zAl l n i∧zAl l n i≤2097151∧(i+1<n→zAl l n i<32768):=by
 have hb:=zBQ l 0;have ah:1≤i→_:=ht 1;have af:2≤i→_:=fun h=>ht 2 h (by omega)
 have ag:3≤i→_:=fun h=>ht 3 h (by omega)
 have ae:n=1∨n=2∨n=3∨n=4:=by unfold zAb at hn;grind
 have aa:i=0∨i=1∨i=2∨i=3:=by omega
 unfold zAb at hn;rcases ae with rfl|rfl|rfl|rfl <;> rcases aa with rfl|rfl|rfl|rfl <;> simp only[zAl,zCZ] <;> first|omega|grind
theorem zQu:∀n:Fin 256,((n.val:Nat):Int)<128→bits BinOp.and IntKind.u8 ((n.val:Nat):Int) 127=((n.val:Nat):Int):=by decide +kernel
theorem zQv (b:Int) (h1:0≤b) (h2:b<128):bits BinOp.and IntKind.u8 b 127=b:=by
 obtain⟨n,rfl⟩:=YP h1;exact zQu ⟨n,by omega⟩ h2
theorem zPp:∀n:Fin 256,(bits BinOp.andNot IntKind.u8 ((n.val:Nat):Int) 63=128)↔(128≤((n.val:Nat):Int)∧((n.val:Nat):Int)<192):=by decide +kernel
theorem zH0 (b:Int) (h1:0≤b) (h2:b<256):(bits BinOp.andNot IntKind.u8 b 63 != 128)=!decide (128≤b∧b<192):=by
 obtain⟨n,rfl⟩:=YP h1;have:=zPp ⟨n,by omega⟩;rw[bne];congr 1;rw[Yf,YT,Zn];exact this
theorem zKU (l:List UInt8) (h:zAb (zB5 l 0)=0∨l.length<zAb (zB5 l 0)):zAz l=(0,0,false):=by
 have:zAy l=none:=by
  unfold zAy
  by_cases hl:l=[]
  · rw[Zm hl]
  rw[Zk hl,Zm h]
 unfold zAz;rw[this]
theorem zKV:zAz []=(0,0,false):=rfl
theorem zDl (l:List UInt8) (n:Nat) (hn:zAb (zB5 l 0)=n) (j:Nat) (h1:j<n) (h2:1≤j) (h:¬(128≤zB5 l j∧zB5 l j<192)):zAz l=(0,0,false):=by
 have:zAy l=none:=by
  unfold zAy;rw[hn];split
  · rfl
  split
  · rfl
  rw[Zk (fun hh=>h (hh.1 j h1 h2))]
 unfold zAz;rw[this]
theorem zCD (l:List UInt8) (n:Nat) (hn:zAb (zB5 l 0)=n) (h:¬zAA (zAl l n (n-1))=n):zAz l=(0,0,false):=by
 have:zAy l=none:=by
  unfold zAy;rw[hn];split
  · rfl
  split
  · rfl
  rw[Zk (fun hh=>h hh.2)]
 unfold zAz;rw[this]
theorem zE8 (l:List UInt8) (n:Nat) (h0:1≤n) (hl:n≤l.length) (hn:zAb (zB5 l 0)=n) (ht:∀j,j≤n-1→1≤j→128≤zB5 l j∧zB5 l j<192) (h:zAA (zAl l n (n-1))=n) :
 zAz l=(zAl l n (n-1),n,true):=by
 have:zAy l=some (zAl l n (n-1),n):=by
  unfold zAy;rw[hn];rw[Zk (by rintro rfl;simp at hl;omega),Zk (by omega),Zm ⟨fun j h1 h2=>ht j (by omega) h2,h⟩]
 unfold zAz;rw[this]
theorem zRj (s:ByteArray) (w:World) (hs:s.size≤maxLen) (h1:1≤s.size) (hn:zAb (zB5 s.data.toList 0)=1) (hH:Heads w) :
 Calls prog 82 #[.string s] w fun e w'=>e=.returned (.tuple #[.int .i32 (zAz s.data.toList).1,.int .i64 (zAz s.data.toList).2.1,.bool (zAz s.data.toList).2.2])∧Below w.heap.size w w':=by
 have hm:=hH.cell (3*1-2);have hlen:0<s.size:=by omega
 have aj:=zCn s 0 hlen;have hne:=zCf s hlen;obtain⟨q1,q2⟩:=zBQ s.data.toList 0;have BD:=hy' (zI5 s.data.toList 1 hn (by omega));have NT:=hy' (zDl s.data.toList 1 hn);have NW:=hy' (zCD s.data.toList 1 hn);have NY:=hy' (zE8 s.data.toList 1 (by omega) (by simpa using h1) hn);have ah:=zQv (zB5 s.data.toList 0) q1 (by unfold zAb at hn;grind)
 have ag:zAl s.data.toList 1 0=zB5 s.data.toList 0:=by
  unfold zAb at hn;simp only[zAl,zCZ];omega
 have HN:=hy' hn;clear hn;unfold maxLen at hs;simp[U.row]at hm;have HB:=hy' ag;clear ag;go_enter func82,ntmps82;go_wp2_with fail;refine (zCN _ _ q1 q2 hH).mono ?_;rintro e w1 ⟨rfl,aa⟩;rw[HN.o];replace hm:=(aa.cell (p:=⟨0,_,none⟩) hH.lt).trans hm;go_wp2;go_quiet (fail);go_wp2;rw[←HB.o];have af:Heads (w1.drewN nq):=hH.next (below_drewN aa _);have ae:=below_drewN aa nq;clear hm;generalize w1.drewN nq=w2 at *;clear aa;go_loop [7,6] (fun i c=>∃k:Nat,1≤k∧k≤1∧i=.int .i64 k∧c=.int .i32 (zAl s.data.toList 1 (k-1))∧∀j,j≤k-1→1≤j→128≤zB5 s.data.toList j∧zB5 s.data.toList j<192) (fun i _=>5-(intOf i).toNat)
 case atStart=>exact⟨1,by omega,by omega,rfl,rfl,fun j h1 h2=>by omega⟩
 obtain⟨k,ai,ao,rfl,rfl,ht⟩:=hrel;obtain⟨b1,b2,b3⟩:=BD.o (k-1) (by omega) ht;have HT:=hy' ht;clear ht
 by_cases hkn:(k:Int)<1
 · exact absurd hkn (by omega)
 obtain rfl:k=1:=by omega
 clear b3
 by_cases hw:zAA (zAl s.data.toList 1 (1-1))=1
 · have hy:=NY.o HT.o hw;have HY:=hy' hy;have HW:=hy' hw;clear hy hw;go_wp2_with fail;refine (zAT _ _ (Yc (by decide) b1) (Yc b2 (by decide)) af).mono ?_;rintro e w' ⟨rfl,rfl⟩;rw[HW.o];go_wp2;go_ret3;rw[HY.o];exact⟨rfl,ae⟩
 have hy:=NW.o hw;have HY:=hy' hy;have ak:(((zAA (zAl s.data.toList 1 (1-1)):Nat):Int) != 1)=true:=by rw[JO];omega
 clear hy hw;go_wp2_with fail;refine (zAT _ _ (Yc (by decide) b1) (Yc b2 (by decide)) af).mono ?_;rintro e w' ⟨rfl,rfl⟩;go_wp2;go_ret3;rw[HY.o];exact⟨rfl,ae⟩
theorem zRk (s:ByteArray) (w:World) (hs:s.size≤maxLen) (h1:2≤s.size) (hn:zAb (zB5 s.data.toList 0)=2) (hH:Heads w) :
 Calls prog 82 #[.string s] w fun e w'=>e=.returned (.tuple #[.int .i32 (zAz s.data.toList).1,.int .i64 (zAz s.data.toList).2.1,.bool (zAz s.data.toList).2.2])∧Below w.heap.size w w':=by
 have hm:=hH.cell (3*2-2);have hlen:0<s.size:=by omega
 have ap:=zCn s 0 hlen;have hne:=zCf s hlen;obtain⟨q1,q2⟩:=zBQ s.data.toList 0;have BD:=hy' (zI5 s.data.toList 2 hn (by omega));have NT:=hy' (zDl s.data.toList 2 hn);have NW:=hy' (zCD s.data.toList 2 hn);have NY:=hy' (zE8 s.data.toList 2 (by omega) (by simpa using h1) hn)
 have ah:zAl s.data.toList 2 0=zB5 s.data.toList 0%32:=by
  unfold zAb at hn;simp only[zAl,zCZ];grind
 have HN:=hy' hn;clear hn;unfold maxLen at hs;simp[U.row]at hm;have HB:=hy' ah;clear ah;go_enter func82,ntmps82;go_wp2_with fail;refine (zCN _ _ q1 q2 hH).mono ?_;rintro e w1 ⟨rfl,ae⟩;rw[HN.o];replace hm:=(ae.cell (p:=⟨0,_,none⟩) hH.lt).trans hm;go_wp2;go_quiet (fail);go_wp2;rw[←HB.o];have ag:Heads (w1.drewN nq):=hH.next (below_drewN ae _);have aa:=below_drewN ae nq;clear hm;generalize w1.drewN nq=w2 at *;clear ae;go_loop [7,6] (fun i c=>∃k:Nat,1≤k∧k≤2∧i=.int .i64 k∧c=.int .i32 (zAl s.data.toList 2 (k-1))∧∀j,j≤k-1→1≤j→128≤zB5 s.data.toList j∧zB5 s.data.toList j<192) (fun i _=>5-(intOf i).toNat)
 case atStart=>exact⟨1,by omega,by omega,rfl,rfl,fun j h1 h2=>by omega⟩
 obtain⟨k,ai,au,rfl,rfl,ht⟩:=hrel;obtain⟨b1,b2,b3⟩:=BD.o (k-1) (by omega) ht;have HT:=hy' ht;clear ht
 by_cases hkn:(k:Int)<2
 · have b4:=b3 (by omega);have aj:k<s.size:=by omega
   have aq:=zCn s k aj;obtain⟨z1,z2⟩:=zBQ s.data.toList k;have af:=zH0 _ z1 z2;clear b3
   by_cases hta:128≤zB5 s.data.toList k∧zB5 s.data.toList k<192
   · rw[Zp hta]at af;obtain⟨z3,z4⟩:=hta;go_wp2;refine⟨⟨k+1,by omega,by omega,by go_num,?_,?_⟩,by simp[intOf];omega⟩
     · obtain⟨k',rfl⟩:∃k',k=k'+1:=⟨k-1,by omega⟩;have e:zAl s.data.toList 2 (k'+1+1-1)=zAl s.data.toList 2 k'*64+(zB5 s.data.toList (k'+1)-128):=rfl;rw[e,show zB5 s.data.toList (k'+1)%64=zB5 s.data.toList (k'+1)-128 from by omega];rfl
     intro j ao ak
     by_cases hjk:j=k
     · subst hjk;exact⟨z3,z4⟩
     exact HT.o j (by omega) ak
   rw[Zq hta]at af;have hy:=NT.o k (by omega) ai hta;have HY:=hy' hy;clear hy hta;go_wp2;go_ret3;rw[HY.o];exact⟨rfl,aa⟩
 obtain rfl:k=2:=by omega
 clear b3
 by_cases hw:zAA (zAl s.data.toList 2 (2-1))=2
 · have hy:=NY.o HT.o hw;have HY:=hy' hy;have HW:=hy' hw;clear hy hw;go_wp2_with fail;refine (zAT _ _ (Yc (by decide) b1) (Yc b2 (by decide)) ag).mono ?_;rintro e w' ⟨rfl,rfl⟩;rw[HW.o];go_wp2;go_ret3;rw[HY.o];exact⟨rfl,aa⟩
 have hy:=NW.o hw;have HY:=hy' hy;have ar:(((zAA (zAl s.data.toList 2 (2-1)):Nat):Int) != 2)=true:=by rw[JO];omega
 clear hy hw;go_wp2_with fail;refine (zAT _ _ (Yc (by decide) b1) (Yc b2 (by decide)) ag).mono ?_;rintro e w' ⟨rfl,rfl⟩;go_wp2;go_ret3;rw[HY.o];exact⟨rfl,aa⟩
theorem zRl (s:ByteArray) (w:World) (hs:s.size≤maxLen) (h1:3≤s.size) (hn:zAb (zB5 s.data.toList 0)=3) (hH:Heads w) :
 Calls prog 82 #[.string s] w fun e w'=>e=.returned (.tuple #[.int .i32 (zAz s.data.toList).1,.int .i64 (zAz s.data.toList).2.1,.bool (zAz s.data.toList).2.2])∧Below w.heap.size w w':=by
 have hm:=hH.cell (3*3-2);have hlen:0<s.size:=by omega
 have ap:=zCn s 0 hlen;have hne:=zCf s hlen;obtain⟨q1,q2⟩:=zBQ s.data.toList 0;have BD:=hy' (zI5 s.data.toList 3 hn (by omega));have NT:=hy' (zDl s.data.toList 3 hn);have NW:=hy' (zCD s.data.toList 3 hn);have NY:=hy' (zE8 s.data.toList 3 (by omega) (by simpa using h1) hn)
 have ah:zAl s.data.toList 3 0=zB5 s.data.toList 0%16:=by
  unfold zAb at hn;simp only[zAl,zCZ];grind
 have HN:=hy' hn;clear hn;unfold maxLen at hs;simp[U.row]at hm;have HB:=hy' ah;clear ah;go_enter func82,ntmps82;go_wp2_with fail;refine (zCN _ _ q1 q2 hH).mono ?_;rintro e w1 ⟨rfl,ae⟩;rw[HN.o];replace hm:=(ae.cell (p:=⟨0,_,none⟩) hH.lt).trans hm;go_wp2;go_quiet (fail);go_wp2;rw[←HB.o];have ag:Heads (w1.drewN nq):=hH.next (below_drewN ae _);have aa:=below_drewN ae nq;clear hm;generalize w1.drewN nq=w2 at *;clear ae;go_loop [7,6] (fun i c=>∃k:Nat,1≤k∧k≤3∧i=.int .i64 k∧c=.int .i32 (zAl s.data.toList 3 (k-1))∧∀j,j≤k-1→1≤j→128≤zB5 s.data.toList j∧zB5 s.data.toList j<192) (fun i _=>5-(intOf i).toNat)
 case atStart=>exact⟨1,by omega,by omega,rfl,rfl,fun j h1 h2=>by omega⟩
 obtain⟨k,ai,au,rfl,rfl,ht⟩:=hrel;obtain⟨b1,b2,b3⟩:=BD.o (k-1) (by omega) ht;have HT:=hy' ht;clear ht
 by_cases hkn:(k:Int)<3
 · have b4:=b3 (by omega);have aj:k<s.size:=by omega
   have aq:=zCn s k aj;obtain⟨z1,z2⟩:=zBQ s.data.toList k;have af:=zH0 _ z1 z2;clear b3
   by_cases hta:128≤zB5 s.data.toList k∧zB5 s.data.toList k<192
   · rw[Zp hta]at af;obtain⟨z3,z4⟩:=hta;go_wp2;refine⟨⟨k+1,by omega,by omega,by go_num,?_,?_⟩,by simp[intOf];omega⟩
     · obtain⟨k',rfl⟩:∃k',k=k'+1:=⟨k-1,by omega⟩;have e:zAl s.data.toList 3 (k'+1+1-1)=zAl s.data.toList 3 k'*64+(zB5 s.data.toList (k'+1)-128):=rfl;rw[e,show zB5 s.data.toList (k'+1)%64=zB5 s.data.toList (k'+1)-128 from by omega];rfl
     intro j ao ak
     by_cases hjk:j=k
     · subst hjk;exact⟨z3,z4⟩
     exact HT.o j (by omega) ak
   rw[Zq hta]at af;have hy:=NT.o k (by omega) ai hta;have HY:=hy' hy;clear hy hta;go_wp2;go_ret3;rw[HY.o];exact⟨rfl,aa⟩
 obtain rfl:k=3:=by omega
 clear b3
 by_cases hw:zAA (zAl s.data.toList 3 (3-1))=3
 · have hy:=NY.o HT.o hw;have HY:=hy' hy;have HW:=hy' hw;clear hy hw;go_wp2_with fail;refine (zAT _ _ (Yc (by decide) b1) (Yc b2 (by decide)) ag).mono ?_;rintro e w' ⟨rfl,rfl⟩;rw[HW.o];go_wp2;go_ret3;rw[HY.o];exact⟨rfl,aa⟩
 have hy:=NW.o hw;have HY:=hy' hy;have ar:(((zAA (zAl s.data.toList 3 (3-1)):Nat):Int) != 3)=true:=by rw[JO];omega
 clear hy hw;go_wp2_with fail;refine (zAT _ _ (Yc (by decide) b1) (Yc b2 (by decide)) ag).mono ?_;rintro e w' ⟨rfl,rfl⟩;go_wp2;go_ret3;rw[HY.o];exact⟨rfl,aa⟩
theorem zRm (s:ByteArray) (w:World) (hs:s.size≤maxLen) (h1:4≤s.size) (hn:zAb (zB5 s.data.toList 0)=4) (hH:Heads w) :
 Calls prog 82 #[.string s] w fun e w'=>e=.returned (.tuple #[.int .i32 (zAz s.data.toList).1,.int .i64 (zAz s.data.toList).2.1,.bool (zAz s.data.toList).2.2])∧Below w.heap.size w w':=by
 have hm:=hH.cell (3*4-2);have hlen:0<s.size:=by omega
 have ap:=zCn s 0 hlen;have hne:=zCf s hlen;obtain⟨q1,q2⟩:=zBQ s.data.toList 0;have BD:=hy' (zI5 s.data.toList 4 hn (by omega));have NT:=hy' (zDl s.data.toList 4 hn);have NW:=hy' (zCD s.data.toList 4 hn);have NY:=hy' (zE8 s.data.toList 4 (by omega) (by simpa using h1) hn)
 have ah:zAl s.data.toList 4 0=zB5 s.data.toList 0%8:=by
  unfold zAb at hn;simp only[zAl,zCZ];grind
 have HN:=hy' hn;clear hn;unfold maxLen at hs;simp[U.row]at hm;have HB:=hy' ah;clear ah;go_enter func82,ntmps82;go_wp2_with fail;refine (zCN _ _ q1 q2 hH).mono ?_;rintro e w1 ⟨rfl,ae⟩;rw[HN.o];replace hm:=(ae.cell (p:=⟨0,_,none⟩) hH.lt).trans hm;go_wp2;go_quiet (fail);go_wp2;rw[←HB.o];have ag:Heads (w1.drewN nq):=hH.next (below_drewN ae _);have aa:=below_drewN ae nq;clear hm;generalize w1.drewN nq=w2 at *;clear ae;go_loop [7,6] (fun i c=>∃k:Nat,1≤k∧k≤4∧i=.int .i64 k∧c=.int .i32 (zAl s.data.toList 4 (k-1))∧∀j,j≤k-1→1≤j→128≤zB5 s.data.toList j∧zB5 s.data.toList j<192) (fun i _=>5-(intOf i).toNat)
 case atStart=>exact⟨1,by omega,by omega,rfl,rfl,fun j h1 h2=>by omega⟩
 obtain⟨k,ai,au,rfl,rfl,ht⟩:=hrel;obtain⟨b1,b2,b3⟩:=BD.o (k-1) (by omega) ht;have HT:=hy' ht;clear ht
 by_cases hkn:(k:Int)<4
 · have b4:=b3 (by omega);have aj:k<s.size:=by omega
   have aq:=zCn s k aj;obtain⟨z1,z2⟩:=zBQ s.data.toList k;have af:=zH0 _ z1 z2;clear b3
   by_cases hta:128≤zB5 s.data.toList k∧zB5 s.data.toList k<192
   · rw[Zp hta]at af;obtain⟨z3,z4⟩:=hta;go_wp2;refine⟨⟨k+1,by omega,by omega,by go_num,?_,?_⟩,by simp[intOf];omega⟩
     · obtain⟨k',rfl⟩:∃k',k=k'+1:=⟨k-1,by omega⟩;have e:zAl s.data.toList 4 (k'+1+1-1)=zAl s.data.toList 4 k'*64+(zB5 s.data.toList (k'+1)-128):=rfl;rw[e,show zB5 s.data.toList (k'+1)%64=zB5 s.data.toList (k'+1)-128 from by omega];rfl
     intro j ao ak
     by_cases hjk:j=k
     · subst hjk;exact⟨z3,z4⟩
     exact HT.o j (by omega) ak
   rw[Zq hta]at af;have hy:=NT.o k (by omega) ai hta;have HY:=hy' hy;clear hy hta;go_wp2;go_ret3;rw[HY.o];exact⟨rfl,aa⟩
 obtain rfl:k=4:=by omega
 clear b3
 by_cases hw:zAA (zAl s.data.toList 4 (4-1))=4
 · have hy:=NY.o HT.o hw;have HY:=hy' hy;have HW:=hy' hw;clear hy hw;go_wp2_with fail;refine (zAT _ _ (Yc (by decide) b1) (Yc b2 (by decide)) ag).mono ?_;rintro e w' ⟨rfl,rfl⟩;rw[HW.o];go_wp2;go_ret3;rw[HY.o];exact⟨rfl,aa⟩
 have hy:=NW.o hw;have HY:=hy' hy;have ar:(((zAA (zAl s.data.toList 4 (4-1)):Nat):Int) != 4)=true:=by rw[JO];omega
 clear hy hw;go_wp2_with fail;refine (zAT _ _ (Yc (by decide) b1) (Yc b2 (by decide)) ag).mono ?_;rintro e w' ⟨rfl,rfl⟩;go_wp2;go_ret3;rw[HY.o];exact⟨rfl,aa⟩
theorem zFi (s:ByteArray) (w:World) (hs:s.size≤maxLen) (hH:Heads w) :
 Calls prog 82 #[.string s] w fun e w'=>e=.returned (.tuple #[.int .i32 (zAz s.data.toList).1,.int .i64 (zAz s.data.toList).2.1,.bool (zAz s.data.toList).2.2])∧Below w.heap.size w w':=by
 by_cases h0:s.size=0
 · have hl:s.data.toList=[]:=List.eq_nil_of_length_eq_zero (by simpa using h0);have he:s.toList.isEmpty=true:=by rw[zEK,hl];rfl
   rw[hl,zKV];clear hl h0;go_enter func82,ntmps82;go_wp2;go_ret3;exact⟨rfl,Zc _ _⟩
 have hlen:0<s.size:=by omega
 have ae:zAb (zB5 s.data.toList 0)≤4:=by unfold zAb;grind
 by_cases hsm:zAb (zB5 s.data.toList 0)=0∨s.size<zAb (zB5 s.data.toList 0)
 · have hy:=zKU s.data.toList (by simpa using hsm);have HY:=hy' hy;have af:=zCn s 0 hlen;have hne:=zCf s hlen;obtain⟨q1,q2⟩:=zBQ s.data.toList 0;clear hy;unfold maxLen at hs;obtain⟨n,hn⟩:∃n,zAb (zB5 s.data.toList 0)=n:=⟨_,rfl⟩;rw[hn]at ae hsm;have HN:=hy' hn;clear hn h0
   by_cases hz:n=0
   · subst hz;clear hsm;go_enter func82,ntmps82;go_wp2_with fail;refine (zCN _ _ q1 q2 hH).mono ?_;rintro e w1 ⟨rfl,aa⟩;rw[HN.o];go_wp2;go_ret3;rw[HY.o];exact⟨rfl,aa⟩
   have ah:((n:Int) == 0)=false:=by simp;omega
   have ag:(s.size:Int)<(n:Int):=by omega
   clear hsm hz;go_enter func82,ntmps82;go_wp2_with fail;refine (zCN _ _ q1 q2 hH).mono ?_;rintro e w1 ⟨rfl,aa⟩;rw[HN.o];go_wp2;go_ret3;rw[HY.o];exact⟨rfl,aa⟩
 have hc:zAb (zB5 s.data.toList 0)=1∨zAb (zB5 s.data.toList 0)=2∨zAb (zB5 s.data.toList 0)=3∨zAb (zB5 s.data.toList 0)=4:=by omega
 rcases hc with h|h|h|h
 · exact zRj s w hs (by omega) h hH
 · exact zRk s w hs (by omega) h hH
 · exact zRl s w hs (by omega) h hH
 exact zRm s w hs (by omega) h hH
theorem U.ris_any (c:Int) (w:World) :
 Calls prog 75 #[.int .i64 c] w fun e w'=>e=.returned (.bool (U.isC c))∧w=w':=by
 have hd:∀x:Bool,(x=true↔(0≤c∧c≤1114111∧(c<55296∨57343<c)))→U.isC c=x:=by
  intro x hx;rw[Yf,U.isC_iff,hx]
 have HD:=hy' hd;clear hd;go_enter func75,ntmps75;go_wp2
 all_goals
  go_ret;refine⟨zB9 (HD.o _ ?_).symm,rfl⟩;simp
  try omega
theorem zRn (l:List UInt8) (n i:Nat) (hi:i≤3) : -100000000≤zAl l n i∧zAl l n i≤100000000:=by
 have h0:=zBQ l 0;have h1:=zBQ l 1;have h2:=zBQ l 2;have h3:=zBQ l 3;have hh:0≤zCZ n∧zCZ n≤240:=by unfold zCZ;split <;> omega
 have aa:i=0∨i=1∨i=2∨i=3:=by omega
 rcases aa with rfl|rfl|rfl|rfl <;> simp only[zAl,Z1,Nat.reduceAdd] <;> omega
theorem zMh (s:ByteArray) (w:World) (h1:1≤s.size) (h2:s.size≤4) :
 Calls prog 91 #[.string s] w fun e w'=>e=.returned (.int .i64 (zAl s.data.toList s.size (s.size-1)))∧w=w':=by
 have ag:=zCn s 0 (by omega);obtain⟨q1,q2⟩:=zBQ s.data.toList 0;have BD:=hy' (zRn s.data.toList s.size);obtain⟨n,hn⟩:∃n,s.size=n:=⟨_,rfl⟩;have hlen:0<s.size:=by omega
 have aa:n=1∨n=2∨n=3∨n=4:=by omega
 have ha:zAl s.data.toList n 0=zB5 s.data.toList 0-zCZ n:=rfl;rcases aa with rfl|rfl|rfl|rfl
 all_goals
  simp only[zCZ]at ha;have HA:=hy' ha;clear ha;go_enter func91,ntmps91;go_wp2;go_loop [4,3] (fun i c=>∃k:Nat,1≤k∧k≤s.size∧i=.int .i64 k∧c=.int .i64 (zAl s.data.toList s.size (k-1))) (fun i _=>5-(intOf i).toNat)
  case atStart=>exact⟨1,by omega,by omega,rfl,by rw[hn];exact Z6 _ (by first|exact HA.o.symm|exact HA.o.symm.trans (by omega)|(have:=HA.o;omega))⟩
  obtain⟨k,ai,aj,rfl,rfl⟩:=hrel
  by_cases hkn:(k:Int)<s.size
  · have af:k<s.size:=by omega
    have ah:=zCn s k af;obtain⟨z1,z2⟩:=zBQ s.data.toList k;have ae:=BD.o (k-1) (by omega);obtain⟨b1,b2⟩:=ae;have HN:=hy' hn;clear hn;go_wp2;refine⟨⟨k+1,by omega,by omega,by go_num,?_⟩,by simp[intOf];omega⟩;obtain⟨k',rfl⟩:∃k',k=k'+1:=⟨k-1,by omega⟩;have e:zAl s.data.toList s.size (k'+1+1-1)=zAl s.data.toList s.size k'*64+(zB5 s.data.toList (k'+1)-128):=rfl;rw[e];exact Z6 _ (by simp only[X6];omega)
  obtain rfl:k=s.size:=by omega
  go_wp2;go_ret;exact⟨rfl,rfl⟩
theorem zSI (c:Int) (h:c<128):strOfNums [c]=⟨(zAn c).toArray⟩:=by unfold zAn;rw[if_pos h];rfl
theorem zSJ (c:Int) (h:¬c<128) (h':c<2048):strOfNums [192+c/64,128+c%64]=⟨(zAn c).toArray⟩:=by unfold zAn;rw[if_neg h,if_pos h'];rfl
theorem zSK (c:Int) (h:¬c<128) (h':¬c<2048) (aa:c<65536):strOfNums [224+c/4096,128+c/64%64,128+c%64]=⟨(zAn c).toArray⟩:=by unfold zAn;rw[if_neg h,if_neg h',if_pos aa];rfl
theorem zSL (c:Int) (h:¬c<128) (h':¬c<2048) (aa:¬c<65536):strOfNums [240+c/262144,128+c/4096%64,128+c/64%64,128+c%64]=⟨(zAn c).toArray⟩:=by unfold zAn;rw[if_neg h,if_neg h',if_neg aa];rfl
theorem zI6 (w:World) (xs:List Int) (n:Nat) (hn:xs.length=n) :
 (convert 98 9 (.slice (some ⟨w.heap.size,0,none⟩) n n)).run prog (w.alloc (.cells (xs.map (Value.int .u8)).toArray 5))=.ok (.string (strOfNums xs)) (w.alloc (.cells (xs.map (Value.int .u8)).toArray 5)):=by
 refine Qm _ _ 5 underlying98 underlying5 _ 0 n n xs hn (fun i hi=>?_) _ underlying9;have hb:(w.alloc (.cells (xs.map (Value.int .u8)).toArray 5)).heap[w.heap.size]?=some (.cells (xs.map (Value.int .u8)).toArray 5 (0,0)):=ZT _ _;simp only[World.cell?,hb];have:i<xs.length:=by omega
 simp[this,List.getD]
theorem zIP (c:Int) (w:World) (hc:U.isC c=true) :
 Calls prog 30 #[.int .i64 c] w fun e w'=>e=.returned (.string ⟨(zAn c).toArray⟩)∧Below w.heap.size w w':=by
 obtain⟨h1,h2,h3⟩:=(U.isC_iff c).1 hc;clear h3 hc
 by_cases c1:c<128
 · have hcv:=zI6 w [c] 1 rfl;rw[zSI c c1]at hcv;simp only[ZV,Yr]at hcv;go_enter func30,ntmps30;go_wp2;go_ret;exact⟨rfl,(Zc _ _).alloc (Za _) _⟩
 by_cases c2:c<2048
 · have hcv:=zI6 w [192+c/64,128+c%64] 2 rfl;rw[zSJ c c1 c2]at hcv;simp only[ZV,Yr]at hcv;go_enter func30,ntmps30;go_wp2;go_ret;exact⟨rfl,(Zc _ _).alloc (Za _) _⟩
 by_cases c3:c<65536
 · have hcv:=zI6 w [224+c/4096,128+c/64%64,128+c%64] 3 rfl;rw[zSK c c1 c2 c3]at hcv;simp only[ZV,Yr]at hcv;go_enter func30,ntmps30;go_wp2;go_ret;exact⟨rfl,(Zc _ _).alloc (Za _) _⟩
 have hcv:=zI6 w [240+c/262144,128+c/4096%64,128+c/64%64,128+c%64] 4 rfl;rw[zSL c c1 c2 c3]at hcv;simp only[ZV,Yr]at hcv;go_enter func30,ntmps30;go_wp2;go_ret;exact⟨rfl,(Zc _ _).alloc (Za _) _⟩
theorem zPq {P:Program} {f:FuncId} {args:Array Value} {w:World} {n:Nat} {v:Value}
 (h:Calls P f args (w.drewN n) fun e w'=>e=.returned v∧w.drewN n=w'):Calls P f args (w.drewN n) fun e w''=>e=.returned v∧∃m,w''=w.drewN m :=
 Calls.quiet_of_same (h.mono fun _ _ ⟨he,hm⟩=>⟨he,hm.symm⟩)
def zDm (l:List UInt8):Int × Nat:=match zAy l with|some (c,n)=>(c,n)|none=>(0,0)
theorem zHs {l:List UInt8} {c:Int} {n:Nat} (h:zAy l=some (c,n)):zDm l=(c,n):=by unfold zDm;rw[h]
theorem zEL {l:List UInt8} (h:zAy l=none):zDm l=(0,0):=by unfold zDm;rw[h]
theorem zNy (l:List UInt8) (c:Int) (j:Nat) (hj:j≤l.length) (hc:U.isC c=true) (he:zAn c=l.take j):zAy l=some (c,j):=by
 have h:=zGZ c hc (l.drop j);rw[he,ZI,Zr,Ka hj]at h;exact h
theorem zQw (c:Int) (hc:U.isC c=true):zAl (zAn c) (zAn c).length ((zAn c).length-1)=c:=by
 have h:=zGZ c hc [];rw[Z3]at h;unfold zAy at h;split at h
 · cases h
 split at h
 · cases h
 split at h
 · simp only[Zg,Yx]at h;obtain⟨h1,h2⟩:=h;rw[h2]at h1;exact h1
 cases h
theorem zD0 (l:List UInt8) (c:Int) (n:Nat) (h:zAy l=some (c,n)):1≤n∧n≤4∧n≤l.length∧U.isC c=true∧zAn c=l.take n∧zAl (l.take n) n (n-1)=c:=by
 obtain⟨hc,hn,t,rfl⟩:=zHr l c n h;have hl:=zMg c hc;have h1:=(zIO c).2 hc;have h4:=zKa c;have ht:(zAn c++t).take n=zAn c:=by rw[hn,←hl];simp
 refine⟨by omega,by omega,by rw[Zd];omega,hc,ht.symm,?_⟩;rw[ht,hn,←hl];exact zQw c hc
theorem zQx (s:ByteArray) (k:Nat):(s.extract 0 k).data.toList=s.data.toList.take k:=by
 simp[Jb,Ju]
theorem zIQ (s:ByteArray) (w:World) (hs:s.size≤maxLen) :
 Calls prog 67 #[.string s] w fun e w'=>e=.returned (.tuple #[.int .i64 (zDm s.data.toList).1,.int .i64 (zDm s.data.toList).2])∧Below w.heap.size w w':=by
 unfold maxLen at hs;go_enter func67,ntmps67;go_wp2;go_loopw [4] (fun i wr=>∃k:Nat,1≤k∧k≤5∧i=.int .i64 k∧Below w.heap.size w wr∧∀j,j<k→∀c,zAy s.data.toList≠some (c,j)) (fun i _=>5-(intOf i).toNat)
 case atStart=>exact⟨1,by omega,by omega,rfl,Zc _ _,fun j hj c h=>by have:=(zD0 _ _ _ h).1;omega⟩
 obtain⟨k,au,av,rfl,aa,ap⟩:=hrel;have ao:=aa.size;have ae:=hy' ap;clear ap
 by_cases hk:(k:Int)<5
 rotate_left
 · have hn:zAy s.data.toList=none:=by
    rcases hh:zAy s.data.toList with _|⟨c,n⟩
    · rfl
    have g:=zD0 _ _ _ hh;exact absurd hh (ae.o n (by omega) c)
   have HN:=hy' (zEL hn);clear hn;go_wp2;go_ret2;rw[HN.o];exact⟨rfl,aa⟩
 by_cases hks:(k:Int)≤s.size
 rotate_left
 · have hn:zAy s.data.toList=none:=by
    rcases hh:zAy s.data.toList with _|⟨c,n⟩
    · rfl
    have g:=zD0 _ _ _ hh;have gl:s.data.toList.length=s.size:=by simp
    exact absurd hh (ae.o n (by omega) c)
   have HN:=hy' (zEL hn);clear hn;go_wp2;go_ret2;rw[HN.o];exact⟨rfl,aa⟩
 obtain⟨x,hx⟩:∃x:ByteArray,s.extract 0 k=x:=⟨_,rfl⟩;have ai:x.data.toList=s.data.toList.take k:=by rw[←hx];exact zQx s k
 have aj:x.size=k:=by
  have:x.data.toList.length=x.size:=by simp
  rw[←this,ai];simp;omega
 have ah:=hy' ai;have ag:=hy' aj;clear ai aj;go_wp2_with fail;refine (zMh _ _ (by rw[ag.o];omega) (by rw[ag.o];omega)).mono ?_;rintro e w' ⟨rfl,rfl⟩;rw[ah.o,ag.o];obtain⟨c,hc⟩:∃c,zAl (List.take k s.data.toList) k (k-1)=c:=⟨_,rfl⟩;rw[hc]
 by_cases hch:U.isC c=true
 · obtain⟨z1,z2,-⟩:=(U.isC_iff c).1 hch;have HC:=hy' hc;have af:=hy' hch;clear hc;go_wp2;go_region_held3 (fun _=>True) (trivial) (first|(go_at_call 75;refine (U.ris_any _ _).mono ?_;rintro e w' ⟨rfl,rfl⟩)|(go_at_call 30;refine (zIP _ _ af.o).mono ?_;rintro e w4 ⟨rfl,ak⟩));go_wp2
   · have he:(zAn c == x.toList)=true:=by assumption
     have ar:zAn c=s.data.toList.take k:=by rw[←ah.o,←zEK];exact eq_of_beq he
     have hn:=zNy s.data.toList c k (by simp;omega) af.o ar;go_ret2;rw[zHs hn];exact⟨rfl,aa.trans ((Zc _ _).drew.trans (ak.mono ao))⟩
   have he:(zAn c == x.toList)=false:=by assumption
   refine⟨⟨k+1,by omega,by omega,by go_num,aa.trans ((Zc _ _).drew.trans (ak.mono ao)),fun j hj c' h=>?_⟩,by simp[intOf];omega⟩
   by_cases hjk:j=k
   · subst hjk;obtain⟨_,_,_,g4,g5,g6⟩:=zD0 _ _ _ h;rw[HC.o]at g6;subst g6;rw[zEK,ah.o,g5]at he;simp at he
   exact ae.o j (by omega) c' h
 have aq:U.isC c=false:=by simpa using hch
 have HC:=hy' hc;have af:=hy' hch;clear hc hch;go_wp2;go_quiet ((go_at_call 75;exact zPq (U.ris_any _ _)));go_wp2;refine⟨⟨k+1,by omega,by omega,by go_num,below_drewN aa _,fun j hj c' h=>?_⟩,by simp[intOf];omega⟩
 by_cases hjk:j=k
 · subst hjk;obtain⟨_,_,_,g4,_,g6⟩:=zD0 _ _ _ h;rw[HC.o]at g6;subst g6;exact af.o g4
 exact ae.o j (by omega) c' h
theorem zNz (s:ByteArray) (k:Nat):(s.extract k s.size).data.toList=s.data.toList.drop k:=by
 have h:s.data.toList.length=s.size:=by simp
 simp only[Jb,Ju];rw[List.extract_eq_take_drop,Zi (by rw[ZN];omega)]
theorem zFA (s:ByteArray):s.data.toList.length=s.size:=by simp
def zRo (s:ByteArray) (n:Nat):ByteArray:=if n<s.size then s.extract 0 n else s
theorem zQy (s:ByteArray) (n:Nat):(zRo s n).data.toList=s.data.toList.take n:=by
 unfold zRo;split
 · exact zQx s n
 rw[Zi (by rw[zFA];omega)]
theorem zQz (s:ByteArray) (n:Nat):(zRo s n).size≤n:=by
 rw[←zFA,zQy,Zr];omega
theorem U.cut_any (s:ByteArray) (n:Nat) (w:World) (hs:s.size≤maxLen) :
 Calls prog 32 #[.string s,.int .i64 n] w fun e w'=>e=.returned (.string (zRo s n))∧w=w':=by
 unfold maxLen at hs
 by_cases h:n<s.size
 · have hc:zRo s n=s.extract 0 n:=by unfold zRo;rw[if_pos h]
   have HC:=hy' hc;clear hc;go_enter func32,ntmps32;go_wp2;go_ret;rw[HC.o];exact⟨rfl,rfl⟩
 have hc:zRo s n=s:=by unfold zRo;rw[if_neg h]
 have HC:=hy' hc;clear hc;go_enter func32,ntmps32;go_wp2;go_ret;rw[HC.o];exact⟨rfl,rfl⟩
theorem zHt {l:List UInt8} {c:Int} {k:Nat} (h:zAy l=some (c,k)):zAz l=(c,k,true):=by unfold zAz;rw[h]
theorem zHu {l:List UInt8} (h:zAy l=none):zAz l=(0,0,false):=by unfold zAz;rw[h]
def zAd (cs:List Int):List UInt8:=cs.flatMap zAn
theorem zAu (c:Int) (cs:List Int):zAd (c::cs)=zAn c++zAd cs:=rfl
theorem zAZ (a b:List Int):zAd (a++b)=zAd a++zAd b:=by unfold zAd;rw[List.flatMap_append]
theorem zC8 (c:Int):1≤(zAn c).length∧(zAn c).length≤4:=by unfold zAn;grind
theorem zDL (cs:List Int):cs.length≤(zAd cs).length:=by
 induction cs with
 | nil=>simp
 | cons c cs ih=>rw[zAu,Zd,ZB];have:=(zC8 c).1;omega
def zH1 (l:List UInt8) (cs:List Int) (r:List UInt8):Prop:=l=zAd cs++r∧(∀c∈cs,U.isC c=true)∧zAy r=none
theorem zMi (l:List UInt8):∃cs r,zH1 l cs r:=by
 have:∀n,∀l:List UInt8,l.length≤n→∃cs r,zH1 l cs r:=by
  intro n
  induction n with
  | zero =>
     intro l h;have h0:l=[]:=ZG (by omega)
     exact⟨[],l,rfl,by simp,by rw[h0];rfl⟩
  | succ n ih =>
    intro l h;rcases hn:zAy l with _|⟨c,k⟩
    · exact⟨[],l,rfl,by simp,hn⟩
    obtain⟨hc,_,t,rfl⟩:=zHr l c k hn;obtain⟨cs,r,h1,h2,h3⟩:=ih t (by rw[Zd]at h;have:=(zC8 c).1;omega);refine⟨c::cs,r,by rw[zAu,ZD,←h1],?_,h3⟩;intro x hx;rcases List.mem_cons.1 hx with rfl|hx
    · exact hc
    exact h2 x hx
 exact this l.length l (Za _)
theorem zCg {c:Int} {b:List Int} {r:List UInt8} (hc:U.isC c=true):zAy (zAd (c::b)++r)=some (c,(zAn c).length):=by
 rw[zAu,ZD];exact zGZ c hc _
theorem zHv {l:List UInt8} {cs cs':List Int} {r r':List UInt8} (h:zH1 l cs r) (h':zH1 l cs' r'):cs=cs'∧r=r':=by
 obtain⟨rfl,h2,h3⟩:=h;obtain⟨g1,g2,g3⟩:=h'
 induction cs generalizing cs' with
 | nil =>
   cases cs' with
   | nil=>exact⟨rfl,g1⟩
   | cons c b =>
     have e:zAd []++r=r:=rfl;rw[e]at g1;rw[g1,zCg (g2 c (by simp))]at h3;cases h3
 | cons c b ih =>
   cases cs' with
   | nil =>
     have e:zAd []++r'=r':=rfl;rw[e]at g1;rw[←g1,zCg (h2 c (by simp))]at g3;cases g3
   | cons c' b' =>
     have e1:=zCg (r:=r) (b:=b) (h2 c (by simp));have e2:=zCg (r:=r') (b:=b') (g2 c' (by simp));rw[g1,e2]at e1;simp only[Zg,Yx]at e1;obtain⟨rfl,_⟩:=e1;rw[zAu,zAu,ZD,ZD]at g1;have:=ih (cs':=b') (fun x hx=>h2 x (Zy _ hx)) (List.append_cancel_left g1) (fun x hx=>g2 x (Zy _ hx));exact⟨by rw[this.1],this.2⟩
def U.vN (cs:List Int) (r:List UInt8):Int:=if r=[] then (cs.length:Nat) else ((zAd cs).length:Nat)
def U.vB (r:List UInt8):Bool:=decide (r=[])
theorem zRp (cs:List Int):U.vN cs []=(cs.length:Nat):=rfl
theorem zQA (cs:List Int) (a:UInt8) (r:List UInt8):U.vN cs (a::r)=((zAd cs).length:Nat):=rfl
theorem zRq:U.vB []=true:=rfl
theorem zQB (a:UInt8) (r:List UInt8):U.vB (a::r)=false:=rfl
theorem zS1 (s:ByteArray) (w:World) (hs:s.size≤maxLen) (hH:Heads w) (cs:List Int) (r:List UInt8) (hd:zH1 s.data.toList cs r) :
 Calls prog 56 #[.string s] w fun e w'=>e=.returned (.tuple #[.int .i64 (U.vN cs r),.bool (U.vB r)])∧Below w.heap.size w w':=by
 obtain⟨d1,d2,d3⟩:=hd;have hlen:s.size=(zAd cs).length+r.length:=by rw[←zFA,d1,Zd]
 have a6:=zDL cs;have ar:=hs;unfold maxLen at hs;have D1:=hy' d1;have D2:=hy' d2;have D3:=hy' d3;have HL:=hy' hlen;clear d1 d2 d3 hlen;go_enter func56,ntmps56;go_wp2;go_loopw [5,4] (fun i n wr=>∃a b,cs=a++b∧i=.int .i64 ((zAd a).length:Nat)∧n=.int .i64 (a.length:Nat)∧Below w.heap.size w wr) (fun i _ _=>s.size-(intOf i).toNat)
 case atStart=>exact⟨[],cs,rfl,rfl,rfl,Zc _ _⟩
 obtain⟨a,b,ai,rfl,rfl,af⟩:=hrel;have ay:=af.size;have au:=hH.next af;have ae:s.data.toList.drop (zAd a).length=zAd b++r:=by rw[D1.o,ai,zAZ,ZD,X8]
 have ag:(zAd a).length+(zAd b).length+r.length=s.size:=by rw[HL.o,ai,zAZ,Zd]
 have ah:=zDL a;have ao:=hy' ai;clear ai;obtain⟨m,hm⟩:∃m,(zAd a).length=m:=⟨_,rfl⟩;have HM:=hy' hm;rw[hm]at ae ag ah;rw[hm];clear hm;obtain⟨na,aj⟩:∃na,a.length=na:=⟨_,rfl⟩;have ax:=hy' aj;rw[aj]at ah;rw[aj];clear aj;obtain⟨x,hx⟩:∃x:ByteArray,s.extract m s.size=x:=⟨_,rfl⟩;have ap:x.data.toList=zAd b++r:=by rw[←hx,←ae];exact zNz s _
 have aq:x.size≤s.size:=by rw[←zFA,ap,Zd];omega
 have az:=hy' ap;clear ap ae;rcases b with _|⟨c,b⟩
 · have ha:cs=a:=by rw[ao.o,Z3]
   rcases r with _|⟨r0,r'⟩
   · have aw:¬(m:Int)<s.size:=by simp[zAd]at ag;omega
     have ak:=hy' ha;clear ha ag;go_wp2;go_ret2;rw[ak.o,zRp,zRq,ax.o];exact⟨rfl,af⟩
   have aw:(m:Int)<s.size:=by rw[ZB]at ag;omega
   have h3:zAz x.data.toList=(0,0,false):=by rw[az.o];exact zHu D3.o
   have H3:=hy' h3;have ak:=hy' ha;clear ha ag h3;go_wp2_with fail;refine (zFi _ _ (Zh aq ar) au).mono ?_;rintro e w1 ⟨rfl,aa⟩;rw[H3.o];go_wp2;go_ret2;rw[ak.o,zQA,zQB,HM.o];exact⟨rfl,af.trans (aa.mono ay)⟩
 have hc:=D2.o c (by rw[ao.o];simp);obtain⟨l1,l2⟩:=zC8 c;have aw:(m:Int)<s.size:=by rw[zAu,Zd]at ag;omega
 have h3:zAz x.data.toList=(c,(zAn c).length,true):=by rw[az.o];exact zHt (zCg hc)
 have hq:m+(zAn c).length≤s.size:=by rw[zAu,Zd]at ag;omega
 have a1:(zAd (a++[c])).length=m+(zAn c).length:=by rw[zAZ,Zd,HM.o];simp[zAd]
 have H3:=hy' h3;have av:=hy' a1;clear ag h3 a1;obtain⟨k,hk⟩:∃k,(zAn c).length=k:=⟨_,rfl⟩;rw[hk]at l1 l2 hq av H3;clear hk;go_wp2_with fail;refine (zFi _ _ (Zh aq ar) au).mono ?_;rintro e w1 ⟨rfl,aa⟩;rw[H3.o];go_wp2;exact⟨⟨a++[c],b,by rw[ao.o,ZD];rfl,by rw[av.o];go_num,by rw[Zd,ax.o];go_num,af.trans (aa.mono ay)⟩,by simp[intOf];omega⟩
def RetOwn2 (el:TypeId) (k:IntKind) (l:List Int) (n:Int) (w:World) (e:Ending) (w':World):Prop :=
 ∃A c,e=.returned (.tuple #[.slice A l.length c,.int .i64 n])∧w'.ownsRow w.heap.size el 1 (.slice A l.length c) l.length (l.map (Value.int k))∧Below w.heap.size w w'
theorem RetOwn2.mk {el:TypeId} {k:IntKind} {l:List Int} {n:Int} {w w':World} {v:Value} {m:Nat} {xs:List Value} (h:w'.ownsRow w.heap.size el 1 v m xs) (hm:m=l.length) (hx:xs=l.map (Value.int k)) (hb:Below w.heap.size w w') :
 RetOwn2 el k l n w (.returned (.tuple #[v,.int .i64 n])) w':=by
 subst hm hx;obtain⟨A,c,rfl⟩:=zA3 h;exact⟨A,c,rfl,h,hb⟩
def zOC (r:List UInt8):Int:=if r=[] then 0 else 6
def zGs (cs:List Int) (r:List UInt8):List Int:=if r=[] then cs else []
theorem zIR (a:UInt8) (r:List UInt8):zOC (a::r)=6:=rfl
theorem zE9 (cs:List Int) (a:UInt8) (r:List UInt8):zGs cs (a::r)=[]:=rfl
theorem zHw (s:ByteArray) (w:World) (hs:s.size≤1000000000000) (hH:Heads w) (cs:List Int) (r:List UInt8) (hd:zH1 s.data.toList cs r) :
 Calls prog 61 #[.string s] w (RetOwn2 21 .i32 (zGs cs r) (zOC r) w):=by
 obtain⟨d1,d2,d3⟩:=hd;have hlen:s.size=(zAd cs).length+r.length:=by rw[←zFA,d1,Zd]
 have D1:=hy' d1;have D2:=hy' d2;have D3:=hy' d3;have HL:=hy' hlen;clear d1 d2 d3 hlen;obtain⟨i0,hi,bb,a1,a8⟩:=Z2 zBL;go_enter func61,ntmps61;go_wp2;go_loopw [0,4] (fun x v wr=>∃a b y,cs=a++b∧x=.string y∧y.data.toList=zAd b++r∧y.size≤s.size∧wr.ownsRow w.heap.size 21 1 v a.length (a.map (Value.int .i32))∧Below w.heap.size w wr) (fun x _ _=>match x with | .string y=>y.size|_=>0)
 case atStart=>exact⟨[],cs,s,rfl,rfl,D1.o,Za _,ZE _ _ _ _,Zc _ _⟩
 obtain⟨a,b,y,ao,rfl,hy,bg,af,ae⟩:=hrel;have ar:=ae.size;have aq:=hH.next ae;have bc:(zAd a).length≤s.size:=by rw[HL.o,ao,zAZ,Zd];omega
 have ba:=zDL a;have ap:=hy' ao;have HY:=hy' hy;have av:y.size≤maxLen:=by unfold maxLen;omega
 clear ao hy;rcases b with _|⟨c,b⟩
 · have ha:cs=a:=by rw[ap.o,Z3]
   rcases r with _|⟨r0,r'⟩
   · have he:y.toList.isEmpty=true:=by rw[zEK,HY.o];rfl
     have au:=hy' ha;clear ha;go_wp2;go_ret2;exact RetOwn2.mk af (by rw[show zGs cs []=cs from rfl,au.o]) (by rw[show zGs cs []=cs from rfl,au.o]) ae
   have he:y.toList.isEmpty=false:=by rw[zEK,HY.o];rfl
   have h3:zAz y.data.toList=(0,0,false):=by rw[HY.o];exact zHu D3.o
   have H3:=hy' h3;clear h3 ha;go_wp2_with fail;refine (zFi _ _ av aq).mono ?_;rintro e w1 ⟨rfl,aa⟩;rw[H3.o];go_wp2;go_ret2;rw[zE9,zIR];exact RetOwn2.mk (ZE _ _ _ _) rfl rfl (ae.trans (aa.mono ar))
 have hc:=D2.o c (by rw[ap.o];simp);obtain⟨l1,l2⟩:=zC8 c;have aj:y.size=(zAn c).length+((zAd b).length+r.length):=by rw[←zFA,HY.o,zAu,Zd,Zd,Yn]
 have h3:zAz y.data.toList=(c,(zAn c).length,true):=by rw[HY.o];exact zHt (zCg hc)
 have he:y.toList.isEmpty=false:=zCf y (by omega);obtain⟨k,hk⟩:∃k,(zAn c).length=k:=⟨_,rfl⟩;obtain⟨z,hz⟩:∃z:ByteArray,y.extract k y.size=z:=⟨_,rfl⟩
 have ak:z.data.toList=zAd b++r:=by
  rw[←hz,zNz,HY.o,zAu,ZD,←hk,X8]
 have aw:z.size<y.size:=by
  rw[aj,←zFA,ak,Zd];omega
 have H3:=hy' h3;have az:=hy' ak;rw[hk]at l1 l2 H3 aj;have bf:k≤y.size:=by omega
 have a7:=(U.isC_iff c).1 hc;obtain⟨c1,c2,-⟩:=a7;clear hk h3 ak aj;have ax:a.length+1≤1000000000001:=by omega
 go_wp2_with fail;refine (zFi _ _ av aq).mono ?_;rintro e w1 ⟨rfl,aa⟩;rw[H3.o];have ah:=zA4 af aa (Za _);have ai:=ae.trans (aa.mono ar);have a6:=ai.size;clear af aa;go_wp2_with (at_builtin;refine zAa _ rfl _ _ _ rfl w.heap.size 21 i0 _ 4 underlying35 hi bb a1 a8 rfl _ a.length _ rfl ah _ rfl rfl (by simp only[maxLen];omega) (by omega) a6 ?_;intro v1 w2 ag ay);exact⟨⟨a++[c],b,z,by rw[ap.o,ZD];rfl,rfl,az.o,by omega,by rw[Zd,ZL];exact ag,ai.trans ay⟩,aw⟩
def zPr (cs:List Int) (r:List UInt8):Int:=if r=[] then -1 else ((zAd cs).length:Nat)
theorem zKb (cs:List Int) (a:UInt8) (r:List UInt8):zPr cs (a::r)=((zAd cs).length:Nat):=rfl
theorem zKW (s:ByteArray) (w:World) (hs:s.size≤1000000000000) (cs:List Int) (r:List UInt8) (hd:zH1 s.data.toList cs r) :
 Calls prog 45 #[.string s] w (RetOwn2 3 .i64 (zGs cs r) (zPr cs r) w):=by
 obtain⟨d1,d2,d3⟩:=hd;have hlen:s.size=(zAd cs).length+r.length:=by rw[←zFA,d1,Zd]
 have D1:=hy' d1;have D2:=hy' d2;have D3:=hy' d3;have HL:=hy' hlen;clear d1 d2 d3 hlen;obtain⟨i0,hi,bc,a8,bb⟩:=Z2 zDT;go_enter func45,ntmps45;go_wp2;go_loopw [5,4] (fun i v wr=>∃a b,cs=a++b∧i=.int .i64 ((zAd a).length:Nat)∧wr.ownsRow w.heap.size 3 1 v a.length (a.map (Value.int .i64))∧Below w.heap.size w wr) (fun i _ _=>s.size-(intOf i).toNat)
 case atStart =>
  refine⟨[],cs,rfl,rfl,?_,(Zc _ _).alloc (Za _) _⟩;exact⟨rfl,.inr ⟨w.heap.size,0,#[],rfl,Za _,ZT _ _,Za _,by decide,rfl,rfl⟩⟩
 obtain⟨a,b,ao,rfl,ah,af⟩:=hrel;have ay:=af.size;have ae:s.data.toList.drop (zAd a).length=zAd b++r:=by rw[D1.o,ao,zAZ,ZD,X8]
 have ag:(zAd a).length+(zAd b).length+r.length=s.size:=by rw[HL.o,ao,zAZ,Zd]
 have aq:=zDL a;have ar:=hy' ao;clear ao;obtain⟨m,hm⟩:∃m,(zAd a).length=m:=⟨_,rfl⟩;have HM:=hy' hm;rw[hm]at ae ag aq;rw[hm];clear hm;obtain⟨x,hx⟩:∃x:ByteArray,s.extract m s.size=x:=⟨_,rfl⟩;have au:x.data.toList=zAd b++r:=by rw[←hx,←ae];exact zNz s _
 have bf:x.size≤s.size:=by rw[←zFA,au,Zd];omega
 have av:x.size≤maxLen:=by unfold maxLen;omega
 have az:=hy' au;clear au ae;rcases b with _|⟨c,b⟩
 · have ha:cs=a:=by rw[ar.o,Z3]
   rcases r with _|⟨r0,r'⟩
   · have ax:¬(m:Int)<s.size:=by simp[zAd]at ag;omega
     have ap:=hy' ha;clear ha ag;go_wp2;go_ret2;rw[show zPr cs [] = -1 from rfl,show zGs cs []=cs from rfl,ap.o];exact RetOwn2.mk ah rfl rfl af
   have ax:(m:Int)<s.size:=by rw[ZB]at ag;omega
   have h3:zDm x.data.toList=(0,0):=by rw[az.o];exact zEL D3.o
   have H3:=hy' h3;have ap:=hy' ha;clear ha ag h3;go_wp2_with fail;refine (zIQ _ _ av).mono ?_;rintro e w1 ⟨rfl,aa⟩;rw[H3.o];go_wp2;go_ret2;rw[zE9,zKb,ap.o,HM.o];exact RetOwn2.mk (ZE _ _ _ _) rfl rfl (af.trans (aa.mono ay))
 have hc:=D2.o c (by rw[ar.o];simp);obtain⟨l1,l2⟩:=zC8 c;have ax:(m:Int)<s.size:=by rw[zAu,Zd]at ag;omega
 have h3:zDm x.data.toList=(c,(zAn c).length):=by rw[az.o];exact zHs (zCg hc)
 have hq:m+(zAn c).length≤s.size:=by rw[zAu,Zd]at ag;omega
 have a1:(zAd (a++[c])).length=m+(zAn c).length:=by rw[zAZ,Zd,HM.o];simp[zAd]
 have H3:=hy' h3;have aw:=hy' a1;clear ag h3 a1;obtain⟨k,hk⟩:∃k,(zAn c).length=k:=⟨_,rfl⟩;rw[hk]at l1 l2 hq aw H3;have bg:((k:Int) == 0)=false:=by simp;omega
 clear hk;have a6:a.length+1≤1000000000001:=by omega
 go_wp2_with fail;refine (zIQ _ _ av).mono ?_;rintro e w1 ⟨rfl,aa⟩;rw[H3.o];have aj:=zA4 ah aa (Za _);have ak:=af.trans (aa.mono ay);have ba:=ak.size;clear ah aa;go_wp2_with (at_builtin;refine zAa _ rfl _ _ _ rfl w.heap.size 3 i0 _ 8 underlying23 hi bc a8 bb rfl _ a.length _ rfl aj _ rfl rfl (by simp only[maxLen];omega) (by omega) ba ?_;intro v1 w2 ai a7);exact⟨⟨a++[c],b,by rw[ar.o,ZD];rfl,by rw[aw.o];go_num,by rw[Zd,ZL];exact ai,ak.trans a7⟩,by simp[intOf];omega⟩
end Go.Proofs.YtjakbblocbicjaaGreatDoor
