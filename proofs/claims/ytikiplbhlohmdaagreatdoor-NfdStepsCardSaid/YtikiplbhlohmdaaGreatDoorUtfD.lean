/- utf.Next: the first character of bytes, by walking its text. -/
import Derived.Test.YtikiplbhlohmdaaGreatDoorUtf
set_option linter.unusedVariables false
set_option linter.unusedSimpArgs false
namespace Go.Proofs.YtikiplbhlohmdaaGreatDoor
open Go.RowKit
theorem U.bv_get (s:ByteArray) (k:Nat) (h:k<s.size):((s[k].toNat:Nat):Int)=U.bv s.data.toList k:=by
 have h':k<s.data.toList.length:=by simpa using h
 have:s.data.toList.getD k 0=s[k]:=by
  rw[Xi,Zc h']
  rfl
 unfold U.bv
 rw[this]
theorem ba_list (s:ByteArray):s.toList=s.data.toList:=Yw s
theorem ba_nonempty (s:ByteArray) (h:0<s.size):s.toList.isEmpty=false:=by
 rw[ba_list]
 rcases hl:s.data.toList with _|⟨a,t⟩
 · have:s.data.toList.length=s.size:=by simp
   rw[hl]at this
   simp at this
   omega
 · rfl
def U.next3 (l:List UInt8):Int × Nat × Bool:=match U.nextK l with|some (c,n)=>(c,n,true)|none=>(0,0,false)
theorem U.acc_bd (l:List UInt8) (n:Nat) (hn:U.sizeK (U.bv l 0)=n) (h0:1≤n) (i:Nat) (hi:i<n) (ht:∀j,j≤i→1≤j→128≤U.bv l j∧U.bv l j<192) :
 0≤U.accK l n i∧U.accK l n i≤2097151∧(i+1<n→U.accK l n i<32768):=by
 have hb:=U.bv_lt l 0
 have ag:1≤i→_:=ht 1
 have af:2≤i→_:=fun h=>ht 2 h (by omega)
 have ah:3≤i→_:=fun h=>ht 3 h (by omega)
 have ae:n=1∨n=2∨n=3∨n=4:=by unfold U.sizeK at hn;grind
 have aa:i=0∨i=1∨i=2∨i=3:=by omega
 unfold U.sizeK at hn
 rcases ae with rfl|rfl|rfl|rfl <;> rcases aa with rfl|rfl|rfl|rfl <;> simp only[U.accK,U.headK] <;> first|omega|grind
theorem U.low_dec:∀n:Fin 256,((n.val:Nat):Int)<128→bits BinOp.and IntKind.u8 ((n.val:Nat):Int) 127=((n.val:Nat):Int):=by decide +kernel
theorem U.low_and (b:Int) (h1:0≤b) (h2:b<128):bits BinOp.and IntKind.u8 b 127=b:=by
 obtain⟨n,rfl⟩:=YF h1
 exact U.low_dec ⟨n,by omega⟩ h2
theorem U.tail_dec:∀n:Fin 256,(bits BinOp.andNot IntKind.u8 ((n.val:Nat):Int) 63=128)↔(128≤((n.val:Nat):Int)∧((n.val:Nat):Int)<192):=by decide +kernel
theorem U.tail_iff (b:Int) (h1:0≤b) (h2:b<256):(bits BinOp.andNot IntKind.u8 b 63 != 128)=!decide (128≤b∧b<192):=by
 obtain⟨n,rfl⟩:=YF h1
 have:=U.tail_dec ⟨n,by omega⟩
 rw[bne]
 congr 1
 rw[Yb,YP,Zm]
 exact this
theorem U.next3_small (l:List UInt8) (h:U.sizeK (U.bv l 0)=0∨l.length<U.sizeK (U.bv l 0)):U.next3 l=(0,0,false):=by
 have:U.nextK l=none:=by
  unfold U.nextK
  by_cases hl:l=[]
  · rw[Zp hl]
  · rw[Zl hl,Zp h]
 unfold U.next3;rw[this]
theorem U.next3_empty:U.next3 []=(0,0,false):=rfl
theorem U.next3_tail (l:List UInt8) (n:Nat) (hn:U.sizeK (U.bv l 0)=n) (j:Nat) (h1:j<n) (h2:1≤j) (h:¬(128≤U.bv l j∧U.bv l j<192)):U.next3 l=(0,0,false):=by
 have:U.nextK l=none:=by
  unfold U.nextK
  rw[hn]
  split
  · rfl
  · split
    · rfl
    · rw[Zl (fun hh=>h (hh.1 j h1 h2))]
 unfold U.next3;rw[this]
theorem U.next3_width (l:List UInt8) (n:Nat) (hn:U.sizeK (U.bv l 0)=n) (h:¬U.width (U.accK l n (n-1))=n):U.next3 l=(0,0,false):=by
 have:U.nextK l=none:=by
  unfold U.nextK
  rw[hn]
  split
  · rfl
  · split
    · rfl
    · rw[Zl (fun hh=>h hh.2)]
 unfold U.next3;rw[this]
theorem U.next3_yes (l:List UInt8) (n:Nat) (h0:1≤n) (hl:n≤l.length) (hn:U.sizeK (U.bv l 0)=n) (ht:∀j,j≤n-1→1≤j→128≤U.bv l j∧U.bv l j<192) (h:U.width (U.accK l n (n-1))=n) :
 U.next3 l=(U.accK l n (n-1),n,true):=by
 have:U.nextK l=some (U.accK l n (n-1),n):=by
  unfold U.nextK
  rw[hn]
  rw[Zl (by rintro rfl;simp at hl;omega),Zl (by omega),Zp ⟨fun j h1 h2=>ht j (by omega) h2,h⟩]
 unfold U.next3;rw[this]
section
set_option maxRecDepth 100000
set_option maxHeartbeats 400000
theorem U.next_1 (s:ByteArray) (w:World) (hs:s.size≤maxLen) (h1:1≤s.size) (hn:U.sizeK (U.bv s.data.toList 0)=1) (hH:Heads w) :
 Calls Tryz.prog 80 #[.string s] w fun e w'=>e=.returned (.tuple #[.int .i32 (U.next3 s.data.toList).1,.int .i64 (U.next3 s.data.toList).2.1,.bool (U.next3 s.data.toList).2.2])∧Below w.heap.size w w':=by
 have hm:=hH.cell (3*1-2)
 have hlen:0<s.size:=by omega
 have ao:=U.bv_get s 0 hlen
 have hne:=ba_nonempty s hlen
 obtain⟨q1,q2⟩:=U.bv_lt s.data.toList 0
 have BD:=Za (U.acc_bd s.data.toList 1 hn (by omega))
 have NT:=Za (U.next3_tail s.data.toList 1 hn)
 have NW:=Za (U.next3_width s.data.toList 1 hn)
 have NY:=Lib.hid (U.next3_yes s.data.toList 1 (by omega) (by simpa using h1) hn)
 have ah:=U.low_and (U.bv s.data.toList 0) q1 (by unfold U.sizeK at hn;grind)
 have ag:U.accK s.data.toList 1 0=U.bv s.data.toList 0:=by
  unfold U.sizeK at hn
  simp only[U.accK,U.headK]
  omega
 have HN:=Za hn
 clear hn
 unfold maxLen at hs
 simp[U.row]at hm
 have HB:=Za ag
 clear ag
 go_enter Tryz.func80,Tryz.ntmps80
 go_wp2_with fail
 refine (U.size_any _ _ q1 q2 hH).mono ?_
 rintro e w1 ⟨rfl,aa⟩
 rw[HN.out]
 replace hm:=(aa.cell (p:=⟨0,_,none⟩) hH.lt).trans hm
 go_wp2
 go_quiet (fail)
 go_wp2
 rw[←HB.out]
 have af:Heads (w1.drewN nq):=hH.next (below_drewN aa _)
 have ae:=below_drewN aa nq
 clear hm
 generalize w1.drewN nq=w2 at *
 clear aa
 go_loop [7,6] (fun i c=>∃k:Nat,1≤k∧k≤1∧i=.int .i64 k∧c=.int .i32 (U.accK s.data.toList 1 (k-1))∧∀j,j≤k-1→1≤j→128≤U.bv s.data.toList j∧U.bv s.data.toList j<192) (fun i _=>5-(intOf i).toNat)
 case atStart=>exact⟨1,by omega,by omega,rfl,rfl,fun j h1 h2=>by omega⟩
 case round =>
  obtain⟨k,ak,ai,rfl,rfl,ht⟩:=hrel
  obtain⟨b1,b2,b3⟩:=BD.out (k-1) (by omega) ht
  have HT:=Za ht
  clear ht
  by_cases hkn:(k:Int)<1
  · exact absurd hkn (by omega)
  · obtain rfl:k=1:=by omega
    clear b3
    by_cases hw:U.width (U.accK s.data.toList 1 (1-1))=1
    · have hy:=NY.out HT.out hw
      have HY:=Za hy
      have HW:=Za hw
      clear hy hw
      go_wp2_with fail
      refine (U.width_any _ _ (Z9 (by decide) b1) (Z9 b2 (by decide)) af).mono ?_
      rintro e w' ⟨rfl,rfl⟩
      rw[HW.out]
      go_wp2
      go_ret3
      rw[HY.out]
      exact⟨rfl,ae⟩
    · have hy:=NW.out hw
      have HY:=Za hy
      have aj:(((U.width (U.accK s.data.toList 1 (1-1)):Nat):Int) != 1)=true:=by rw[bne_iff_ne];omega
      clear hy hw
      go_wp2_with fail
      refine (U.width_any _ _ (Z9 (by decide) b1) (Z9 b2 (by decide)) af).mono ?_
      rintro e w' ⟨rfl,rfl⟩
      go_wp2
      go_ret3
      rw[HY.out]
      exact⟨rfl,ae⟩
theorem U.next_2 (s:ByteArray) (w:World) (hs:s.size≤maxLen) (h1:2≤s.size) (hn:U.sizeK (U.bv s.data.toList 0)=2) (hH:Heads w) :
 Calls Tryz.prog 80 #[.string s] w fun e w'=>e=.returned (.tuple #[.int .i32 (U.next3 s.data.toList).1,.int .i64 (U.next3 s.data.toList).2.1,.bool (U.next3 s.data.toList).2.2])∧Below w.heap.size w w':=by
 have hm:=hH.cell (3*2-2)
 have hlen:0<s.size:=by omega
 have ar:=U.bv_get s 0 hlen
 have hne:=ba_nonempty s hlen
 obtain⟨q1,q2⟩:=U.bv_lt s.data.toList 0
 have BD:=Za (U.acc_bd s.data.toList 2 hn (by omega))
 have NT:=Za (U.next3_tail s.data.toList 2 hn)
 have NW:=Za (U.next3_width s.data.toList 2 hn)
 have NY:=Lib.hid (U.next3_yes s.data.toList 2 (by omega) (by simpa using h1) hn)
 have ah:U.accK s.data.toList 2 0=U.bv s.data.toList 0%32:=by
  unfold U.sizeK at hn
  simp only[U.accK,U.headK]
  grind
 have HN:=Za hn
 clear hn
 unfold maxLen at hs
 simp[U.row]at hm
 have HB:=Za ah
 clear ah
 go_enter Tryz.func80,Tryz.ntmps80
 go_wp2_with fail
 refine (U.size_any _ _ q1 q2 hH).mono ?_
 rintro e w1 ⟨rfl,ae⟩
 rw[HN.out]
 replace hm:=(ae.cell (p:=⟨0,_,none⟩) hH.lt).trans hm
 go_wp2
 go_quiet (fail)
 go_wp2
 rw[←HB.out]
 have af:Heads (w1.drewN nq):=hH.next (below_drewN ae _)
 have aa:=below_drewN ae nq
 clear hm
 generalize w1.drewN nq=w2 at *
 clear ae
 go_loop [7,6] (fun i c=>∃k:Nat,1≤k∧k≤2∧i=.int .i64 k∧c=.int .i32 (U.accK s.data.toList 2 (k-1))∧∀j,j≤k-1→1≤j→128≤U.bv s.data.toList j∧U.bv s.data.toList j<192) (fun i _=>5-(intOf i).toNat)
 case atStart=>exact⟨1,by omega,by omega,rfl,rfl,fun j h1 h2=>by omega⟩
 case round =>
  obtain⟨k,ai,ap,rfl,rfl,ht⟩:=hrel
  obtain⟨b1,b2,b3⟩:=BD.out (k-1) (by omega) ht
  have HT:=Za ht
  clear ht
  by_cases hkn:(k:Int)<2
  · have b4:=b3 (by omega)
    have aj:k<s.size:=by omega
    have au:=U.bv_get s k aj
    obtain⟨z1,z2⟩:=U.bv_lt s.data.toList k
    have ag:=U.tail_iff _ z1 z2
    clear b3
    by_cases hta:128≤U.bv s.data.toList k∧U.bv s.data.toList k<192
    · rw[Zn hta]at ag
      obtain⟨z3,z4⟩:=hta
      go_wp2
      refine⟨⟨k+1,by omega,by omega,by go_num,?_,?_⟩,by simp[intOf];omega⟩
      · obtain⟨k',rfl⟩:∃k',k=k'+1:=⟨k-1,by omega⟩
        have e:U.accK s.data.toList 2 (k'+1+1-1)=U.accK s.data.toList 2 k'*64+(U.bv s.data.toList (k'+1)-128):=rfl
        rw[e,show U.bv s.data.toList (k'+1)%64=U.bv s.data.toList (k'+1)-128 from by omega]
        rfl
      · intro j ao ak
        by_cases hjk:j=k
        · subst hjk;exact⟨z3,z4⟩
        · exact HT.out j (by omega) ak
    · rw[Zo hta]at ag
      have hy:=NT.out k (by omega) ai hta
      have HY:=Za hy
      clear hy hta
      go_wp2
      go_ret3
      rw[HY.out]
      exact⟨rfl,aa⟩
  · obtain rfl:k=2:=by omega
    clear b3
    by_cases hw:U.width (U.accK s.data.toList 2 (2-1))=2
    · have hy:=NY.out HT.out hw
      have HY:=Za hy
      have HW:=Za hw
      clear hy hw
      go_wp2_with fail
      refine (U.width_any _ _ (Z9 (by decide) b1) (Z9 b2 (by decide)) af).mono ?_
      rintro e w' ⟨rfl,rfl⟩
      rw[HW.out]
      go_wp2
      go_ret3
      rw[HY.out]
      exact⟨rfl,aa⟩
    · have hy:=NW.out hw
      have HY:=Za hy
      have aq:(((U.width (U.accK s.data.toList 2 (2-1)):Nat):Int) != 2)=true:=by rw[bne_iff_ne];omega
      clear hy hw
      go_wp2_with fail
      refine (U.width_any _ _ (Z9 (by decide) b1) (Z9 b2 (by decide)) af).mono ?_
      rintro e w' ⟨rfl,rfl⟩
      go_wp2
      go_ret3
      rw[HY.out]
      exact⟨rfl,aa⟩
theorem U.next_3 (s:ByteArray) (w:World) (hs:s.size≤maxLen) (h1:3≤s.size) (hn:U.sizeK (U.bv s.data.toList 0)=3) (hH:Heads w) :
 Calls Tryz.prog 80 #[.string s] w fun e w'=>e=.returned (.tuple #[.int .i32 (U.next3 s.data.toList).1,.int .i64 (U.next3 s.data.toList).2.1,.bool (U.next3 s.data.toList).2.2])∧Below w.heap.size w w':=by
 have hm:=hH.cell (3*3-2)
 have hlen:0<s.size:=by omega
 have ar:=U.bv_get s 0 hlen
 have hne:=ba_nonempty s hlen
 obtain⟨q1,q2⟩:=U.bv_lt s.data.toList 0
 have BD:=Za (U.acc_bd s.data.toList 3 hn (by omega))
 have NT:=Za (U.next3_tail s.data.toList 3 hn)
 have NW:=Za (U.next3_width s.data.toList 3 hn)
 have NY:=Lib.hid (U.next3_yes s.data.toList 3 (by omega) (by simpa using h1) hn)
 have ah:U.accK s.data.toList 3 0=U.bv s.data.toList 0%16:=by
  unfold U.sizeK at hn
  simp only[U.accK,U.headK]
  grind
 have HN:=Za hn
 clear hn
 unfold maxLen at hs
 simp[U.row]at hm
 have HB:=Za ah
 clear ah
 go_enter Tryz.func80,Tryz.ntmps80
 go_wp2_with fail
 refine (U.size_any _ _ q1 q2 hH).mono ?_
 rintro e w1 ⟨rfl,ae⟩
 rw[HN.out]
 replace hm:=(ae.cell (p:=⟨0,_,none⟩) hH.lt).trans hm
 go_wp2
 go_quiet (fail)
 go_wp2
 rw[←HB.out]
 have af:Heads (w1.drewN nq):=hH.next (below_drewN ae _)
 have aa:=below_drewN ae nq
 clear hm
 generalize w1.drewN nq=w2 at *
 clear ae
 go_loop [7,6] (fun i c=>∃k:Nat,1≤k∧k≤3∧i=.int .i64 k∧c=.int .i32 (U.accK s.data.toList 3 (k-1))∧∀j,j≤k-1→1≤j→128≤U.bv s.data.toList j∧U.bv s.data.toList j<192) (fun i _=>5-(intOf i).toNat)
 case atStart=>exact⟨1,by omega,by omega,rfl,rfl,fun j h1 h2=>by omega⟩
 case round =>
  obtain⟨k,ai,ap,rfl,rfl,ht⟩:=hrel
  obtain⟨b1,b2,b3⟩:=BD.out (k-1) (by omega) ht
  have HT:=Za ht
  clear ht
  by_cases hkn:(k:Int)<3
  · have b4:=b3 (by omega)
    have aj:k<s.size:=by omega
    have au:=U.bv_get s k aj
    obtain⟨z1,z2⟩:=U.bv_lt s.data.toList k
    have ag:=U.tail_iff _ z1 z2
    clear b3
    by_cases hta:128≤U.bv s.data.toList k∧U.bv s.data.toList k<192
    · rw[Zn hta]at ag
      obtain⟨z3,z4⟩:=hta
      go_wp2
      refine⟨⟨k+1,by omega,by omega,by go_num,?_,?_⟩,by simp[intOf];omega⟩
      · obtain⟨k',rfl⟩:∃k',k=k'+1:=⟨k-1,by omega⟩
        have e:U.accK s.data.toList 3 (k'+1+1-1)=U.accK s.data.toList 3 k'*64+(U.bv s.data.toList (k'+1)-128):=rfl
        rw[e,show U.bv s.data.toList (k'+1)%64=U.bv s.data.toList (k'+1)-128 from by omega]
        rfl
      · intro j ao ak
        by_cases hjk:j=k
        · subst hjk;exact⟨z3,z4⟩
        · exact HT.out j (by omega) ak
    · rw[Zo hta]at ag
      have hy:=NT.out k (by omega) ai hta
      have HY:=Za hy
      clear hy hta
      go_wp2
      go_ret3
      rw[HY.out]
      exact⟨rfl,aa⟩
  · obtain rfl:k=3:=by omega
    clear b3
    by_cases hw:U.width (U.accK s.data.toList 3 (3-1))=3
    · have hy:=NY.out HT.out hw
      have HY:=Za hy
      have HW:=Za hw
      clear hy hw
      go_wp2_with fail
      refine (U.width_any _ _ (Z9 (by decide) b1) (Z9 b2 (by decide)) af).mono ?_
      rintro e w' ⟨rfl,rfl⟩
      rw[HW.out]
      go_wp2
      go_ret3
      rw[HY.out]
      exact⟨rfl,aa⟩
    · have hy:=NW.out hw
      have HY:=Za hy
      have aq:(((U.width (U.accK s.data.toList 3 (3-1)):Nat):Int) != 3)=true:=by rw[bne_iff_ne];omega
      clear hy hw
      go_wp2_with fail
      refine (U.width_any _ _ (Z9 (by decide) b1) (Z9 b2 (by decide)) af).mono ?_
      rintro e w' ⟨rfl,rfl⟩
      go_wp2
      go_ret3
      rw[HY.out]
      exact⟨rfl,aa⟩
theorem U.next_4 (s:ByteArray) (w:World) (hs:s.size≤maxLen) (h1:4≤s.size) (hn:U.sizeK (U.bv s.data.toList 0)=4) (hH:Heads w) :
 Calls Tryz.prog 80 #[.string s] w fun e w'=>e=.returned (.tuple #[.int .i32 (U.next3 s.data.toList).1,.int .i64 (U.next3 s.data.toList).2.1,.bool (U.next3 s.data.toList).2.2])∧Below w.heap.size w w':=by
 have hm:=hH.cell (3*4-2)
 have hlen:0<s.size:=by omega
 have ar:=U.bv_get s 0 hlen
 have hne:=ba_nonempty s hlen
 obtain⟨q1,q2⟩:=U.bv_lt s.data.toList 0
 have BD:=Za (U.acc_bd s.data.toList 4 hn (by omega))
 have NT:=Za (U.next3_tail s.data.toList 4 hn)
 have NW:=Za (U.next3_width s.data.toList 4 hn)
 have NY:=Lib.hid (U.next3_yes s.data.toList 4 (by omega) (by simpa using h1) hn)
 have ah:U.accK s.data.toList 4 0=U.bv s.data.toList 0%8:=by
  unfold U.sizeK at hn
  simp only[U.accK,U.headK]
  grind
 have HN:=Za hn
 clear hn
 unfold maxLen at hs
 simp[U.row]at hm
 have HB:=Za ah
 clear ah
 go_enter Tryz.func80,Tryz.ntmps80
 go_wp2_with fail
 refine (U.size_any _ _ q1 q2 hH).mono ?_
 rintro e w1 ⟨rfl,ae⟩
 rw[HN.out]
 replace hm:=(ae.cell (p:=⟨0,_,none⟩) hH.lt).trans hm
 go_wp2
 go_quiet (fail)
 go_wp2
 rw[←HB.out]
 have af:Heads (w1.drewN nq):=hH.next (below_drewN ae _)
 have aa:=below_drewN ae nq
 clear hm
 generalize w1.drewN nq=w2 at *
 clear ae
 go_loop [7,6] (fun i c=>∃k:Nat,1≤k∧k≤4∧i=.int .i64 k∧c=.int .i32 (U.accK s.data.toList 4 (k-1))∧∀j,j≤k-1→1≤j→128≤U.bv s.data.toList j∧U.bv s.data.toList j<192) (fun i _=>5-(intOf i).toNat)
 case atStart=>exact⟨1,by omega,by omega,rfl,rfl,fun j h1 h2=>by omega⟩
 case round =>
  obtain⟨k,ai,ap,rfl,rfl,ht⟩:=hrel
  obtain⟨b1,b2,b3⟩:=BD.out (k-1) (by omega) ht
  have HT:=Za ht
  clear ht
  by_cases hkn:(k:Int)<4
  · have b4:=b3 (by omega)
    have aj:k<s.size:=by omega
    have au:=U.bv_get s k aj
    obtain⟨z1,z2⟩:=U.bv_lt s.data.toList k
    have ag:=U.tail_iff _ z1 z2
    clear b3
    by_cases hta:128≤U.bv s.data.toList k∧U.bv s.data.toList k<192
    · rw[Zn hta]at ag
      obtain⟨z3,z4⟩:=hta
      go_wp2
      refine⟨⟨k+1,by omega,by omega,by go_num,?_,?_⟩,by simp[intOf];omega⟩
      · obtain⟨k',rfl⟩:∃k',k=k'+1:=⟨k-1,by omega⟩
        have e:U.accK s.data.toList 4 (k'+1+1-1)=U.accK s.data.toList 4 k'*64+(U.bv s.data.toList (k'+1)-128):=rfl
        rw[e,show U.bv s.data.toList (k'+1)%64=U.bv s.data.toList (k'+1)-128 from by omega]
        rfl
      · intro j ao ak
        by_cases hjk:j=k
        · subst hjk;exact⟨z3,z4⟩
        · exact HT.out j (by omega) ak
    · rw[Zo hta]at ag
      have hy:=NT.out k (by omega) ai hta
      have HY:=Za hy
      clear hy hta
      go_wp2
      go_ret3
      rw[HY.out]
      exact⟨rfl,aa⟩
  · obtain rfl:k=4:=by omega
    clear b3
    by_cases hw:U.width (U.accK s.data.toList 4 (4-1))=4
    · have hy:=NY.out HT.out hw
      have HY:=Za hy
      have HW:=Za hw
      clear hy hw
      go_wp2_with fail
      refine (U.width_any _ _ (Z9 (by decide) b1) (Z9 b2 (by decide)) af).mono ?_
      rintro e w' ⟨rfl,rfl⟩
      rw[HW.out]
      go_wp2
      go_ret3
      rw[HY.out]
      exact⟨rfl,aa⟩
    · have hy:=NW.out hw
      have HY:=Za hy
      have aq:(((U.width (U.accK s.data.toList 4 (4-1)):Nat):Int) != 4)=true:=by rw[bne_iff_ne];omega
      clear hy hw
      go_wp2_with fail
      refine (U.width_any _ _ (Z9 (by decide) b1) (Z9 b2 (by decide)) af).mono ?_
      rintro e w' ⟨rfl,rfl⟩
      go_wp2
      go_ret3
      rw[HY.out]
      exact⟨rfl,aa⟩
theorem U.next_any (s:ByteArray) (w:World) (hs:s.size≤maxLen) (hH:Heads w) :
 Calls Tryz.prog 80 #[.string s] w fun e w'=>e=.returned (.tuple #[.int .i32 (U.next3 s.data.toList).1,.int .i64 (U.next3 s.data.toList).2.1,.bool (U.next3 s.data.toList).2.2])∧Below w.heap.size w w':=by
 by_cases h0:s.size=0
 · have hl:s.data.toList=[]:=List.eq_nil_of_length_eq_zero (by simpa using h0)
   have he:s.toList.isEmpty=true:=by rw[ba_list,hl];rfl
   rw[hl,U.next3_empty]
   clear hl h0
   go_enter Tryz.func80,Tryz.ntmps80
   go_wp2
   go_ret3
   exact⟨rfl,Zd _ _⟩
 · have hlen:0<s.size:=by omega
   have ae:U.sizeK (U.bv s.data.toList 0)≤4:=by unfold U.sizeK;grind
   by_cases hsm:U.sizeK (U.bv s.data.toList 0)=0∨s.size<U.sizeK (U.bv s.data.toList 0)
   · have hy:=U.next3_small s.data.toList (by simpa using hsm)
     have HY:=Za hy
     have ag:=U.bv_get s 0 hlen
     have hne:=ba_nonempty s hlen
     obtain⟨q1,q2⟩:=U.bv_lt s.data.toList 0
     clear hy
     unfold maxLen at hs
     obtain⟨n,hn⟩:∃n,U.sizeK (U.bv s.data.toList 0)=n:=⟨_,rfl⟩
     rw[hn]at ae hsm
     have HN:=Za hn
     clear hn h0
     by_cases hz:n=0
     · subst hz
       clear hsm
       go_enter Tryz.func80,Tryz.ntmps80
       go_wp2_with fail
       refine (U.size_any _ _ q1 q2 hH).mono ?_
       rintro e w1 ⟨rfl,aa⟩
       rw[HN.out]
       go_wp2
       go_ret3
       rw[HY.out]
       exact⟨rfl,aa⟩
     · have ah:((n:Int) == 0)=false:=by simp;omega
       have af:(s.size:Int)<(n:Int):=by omega
       clear hsm hz
       go_enter Tryz.func80,Tryz.ntmps80
       go_wp2_with fail
       refine (U.size_any _ _ q1 q2 hH).mono ?_
       rintro e w1 ⟨rfl,aa⟩
       rw[HN.out]
       go_wp2
       go_ret3
       rw[HY.out]
       exact⟨rfl,aa⟩
   · have hc:U.sizeK (U.bv s.data.toList 0)=1∨U.sizeK (U.bv s.data.toList 0)=2∨U.sizeK (U.bv s.data.toList 0)=3∨U.sizeK (U.bv s.data.toList 0)=4:=by omega
     rcases hc with h|h|h|h
     · exact U.next_1 s w hs (by omega) h hH
     · exact U.next_2 s w hs (by omega) h hH
     · exact U.next_3 s w hs (by omega) h hH
     · exact U.next_4 s w hs (by omega) h hH
theorem U.ris_any (c:Int) (w:World) :
 Calls Tryz.prog 39 #[.int .i64 c] w fun e w'=>e=.returned (.bool (U.isC c))∧w=w':=by
 have hd:∀x:Bool,(x=true↔(0≤c∧c≤1114111∧(c<55296∨57343<c)))→U.isC c=x:=by
  intro x hx
  rw[Yb,U.isC_iff,hx]
 have HD:=Za hd
 clear hd
 go_enter Tryz.func39,Tryz.ntmps39
 go_wp2
 all_goals
  go_ret
  refine⟨ret_bool (HD.out _ ?_).symm,rfl⟩
  simp
  try omega
end
theorem U.num_bd (l:List UInt8) (n i:Nat) (hi:i≤3) : -100000000≤U.accK l n i∧U.accK l n i≤100000000:=by
 have h0:=U.bv_lt l 0
 have h1:=U.bv_lt l 1
 have h2:=U.bv_lt l 2
 have h3:=U.bv_lt l 3
 have hh:0≤U.headK n∧U.headK n≤240:=by unfold U.headK;split <;> omega
 have aa:i=0∨i=1∨i=2∨i=3:=by omega
 rcases aa with rfl|rfl|rfl|rfl <;> simp only[U.accK,Z1,Nat.reduceAdd] <;> omega
set_option maxRecDepth 100000 in
set_option maxHeartbeats 400000 in
theorem U.number_any (s:ByteArray) (w:World) (h1:1≤s.size) (h2:s.size≤4) :
 Calls Tryz.prog 82 #[.string s] w fun e w'=>e=.returned (.int .i64 (U.accK s.data.toList s.size (s.size-1)))∧w=w':=by
 have ah:=U.bv_get s 0 (by omega)
 obtain⟨q1,q2⟩:=U.bv_lt s.data.toList 0
 have BD:=Za (U.num_bd s.data.toList s.size)
 obtain⟨n,hn⟩:∃n,s.size=n:=⟨_,rfl⟩
 have hlen:0<s.size:=by omega
 have aa:n=1∨n=2∨n=3∨n=4:=by omega
 have ha:U.accK s.data.toList n 0=U.bv s.data.toList 0-U.headK n:=rfl
 rcases aa with rfl|rfl|rfl|rfl
 all_goals
  simp only[U.headK]at ha
  have HA:=Za ha
  clear ha
  go_enter Tryz.func82,Tryz.ntmps82
  go_wp2
  go_loop [4,3] (fun i c=>∃k:Nat,1≤k∧k≤s.size∧i=.int .i64 k∧c=.int .i64 (U.accK s.data.toList s.size (k-1))) (fun i _=>5-(intOf i).toNat)
  case atStart=>exact⟨1,by omega,by omega,rfl,by rw[hn];exact Z4 _ (by first|exact HA.out.symm|exact HA.out.symm.trans (by omega)|(have:=HA.out;omega))⟩
  case round =>
   obtain⟨k,ag,aj,rfl,rfl⟩:=hrel
   by_cases hkn:(k:Int)<s.size
   · have af:k<s.size:=by omega
     have ai:=U.bv_get s k af
     obtain⟨z1,z2⟩:=U.bv_lt s.data.toList k
     have ae:=BD.out (k-1) (by omega)
     obtain⟨b1,b2⟩:=ae
     have HN:=Za hn
     clear hn
     go_wp2
     refine⟨⟨k+1,by omega,by omega,by go_num,?_⟩,by simp[intOf];omega⟩
     obtain⟨k',rfl⟩:∃k',k=k'+1:=⟨k-1,by omega⟩
     have e:U.accK s.data.toList s.size (k'+1+1-1)=U.accK s.data.toList s.size k'*64+(U.bv s.data.toList (k'+1)-128):=rfl
     rw[e]
     exact Z4 _ (by simp only[Xj];omega)
   · obtain rfl:k=s.size:=by omega
     go_wp2
     go_ret
     exact⟨rfl,rfl⟩
theorem U.enc1 (c:Int) (h:c<128):strOfNums [c]=⟨(U.enc c).toArray⟩:=by unfold U.enc;rw[if_pos h];rfl
theorem U.enc2 (c:Int) (h:¬c<128) (h':c<2048):strOfNums [192+c/64,128+c%64]=⟨(U.enc c).toArray⟩:=by unfold U.enc;rw[if_neg h,if_pos h'];rfl
theorem U.enc3 (c:Int) (h:¬c<128) (h':¬c<2048) (aa:c<65536):strOfNums [224+c/4096,128+c/64%64,128+c%64]=⟨(U.enc c).toArray⟩:=by unfold U.enc;rw[if_neg h,if_neg h',if_pos aa];rfl
theorem U.enc4 (c:Int) (h:¬c<128) (h':¬c<2048) (aa:¬c<65536):strOfNums [240+c/262144,128+c/4096%64,128+c/64%64,128+c%64]=⟨(U.enc c).toArray⟩:=by unfold U.enc;rw[if_neg h,if_neg h',if_neg aa];rfl
theorem conv_lit (w:World) (xs:List Int) (n:Nat) (hn:xs.length=n) :
 (convert 77 9 (.slice (some ⟨w.heap.size,0,none⟩) n n)).run Tryz.prog (w.alloc (.cells (xs.map (Value.int .u8)).toArray 5))=.ok (.string (strOfNums xs)) (w.alloc (.cells (xs.map (Value.int .u8)).toArray 5)):=by
 refine run_convert_bytes_arg _ _ 5 Tryz.underlying77 Tryz.underlying5 _ 0 n n xs hn (fun i hi=>?_) _ Tryz.underlying9
 have hb:(w.alloc (.cells (xs.map (Value.int .u8)).toArray 5)).heap[w.heap.size]?=some (.cells (xs.map (Value.int .u8)).toArray 5 (0,0)):=ZP _ _
 simp only[World.cell?,hb]
 have:i<xs.length:=by omega
 simp[this,List.getD]
set_option maxRecDepth 100000 in
set_option maxHeartbeats 400000 in
theorem U.bytes_any (c:Int) (w:World) (hc:U.isC c=true) :
 Calls Tryz.prog 20 #[.int .i64 c] w fun e w'=>e=.returned (.string ⟨(U.enc c).toArray⟩)∧Below w.heap.size w w':=by
 obtain⟨h1,h2,h3⟩:=(U.isC_iff c).1 hc
 clear h3 hc
 by_cases c1:c<128
 · have hcv:=conv_lit w [c] 1 rfl
   rw[U.enc1 c c1]at hcv
   simp only[ZT,Ys]at hcv
   go_enter Tryz.func20,Tryz.ntmps20
   go_wp2
   go_ret
   exact⟨rfl,(Zd _ _).alloc (Zb _) _⟩
 · by_cases c2:c<2048
   · have hcv:=conv_lit w [192+c/64,128+c%64] 2 rfl
     rw[U.enc2 c c1 c2]at hcv
     simp only[ZT,Ys]at hcv
     go_enter Tryz.func20,Tryz.ntmps20
     go_wp2
     go_ret
     exact⟨rfl,(Zd _ _).alloc (Zb _) _⟩
   · by_cases c3:c<65536
     · have hcv:=conv_lit w [224+c/4096,128+c/64%64,128+c%64] 3 rfl
       rw[U.enc3 c c1 c2 c3]at hcv
       simp only[ZT,Ys]at hcv
       go_enter Tryz.func20,Tryz.ntmps20
       go_wp2
       go_ret
       exact⟨rfl,(Zd _ _).alloc (Zb _) _⟩
     · have hcv:=conv_lit w [240+c/262144,128+c/4096%64,128+c/64%64,128+c%64] 4 rfl
       rw[U.enc4 c c1 c2 c3]at hcv
       simp only[ZT,Ys]at hcv
       go_enter Tryz.func20,Tryz.ntmps20
       go_wp2
       go_ret
       exact⟨rfl,(Zd _ _).alloc (Zb _) _⟩
theorem quiet_same {P:Program} {f:FuncId} {args:Array Value} {w:World} {n:Nat} {v:Value}
 (h:Calls P f args (w.drewN n) fun e w'=>e=.returned v∧w.drewN n=w'):Calls P f args (w.drewN n) fun e w''=>e=.returned v∧∃m,w''=w.drewN m :=
 Calls.quiet_of_same (h.mono fun _ _ ⟨he,hm⟩=>⟨he,hm.symm⟩)
def U.firstK (l:List UInt8):Int × Nat:=match U.nextK l with|some (c,n)=>(c,n)|none=>(0,0)
theorem U.first_some {l:List UInt8} {c:Int} {n:Nat} (h:U.nextK l=some (c,n)):U.firstK l=(c,n):=by unfold U.firstK;rw[h]
theorem U.first_none {l:List UInt8} (h:U.nextK l=none):U.firstK l=(0,0):=by unfold U.firstK;rw[h]
theorem U.good_next (l:List UInt8) (c:Int) (j:Nat) (hj:j≤l.length) (hc:U.isC c=true) (he:U.enc c=l.take j):U.nextK l=some (c,j):=by
 have h:=U.nextK_of c hc (l.drop j)
 rw[he,ZG,Zq,XT hj]at h
 exact h
theorem U.acc_enc (c:Int) (hc:U.isC c=true):U.accK (U.enc c) (U.enc c).length ((U.enc c).length-1)=c:=by
 have h:=U.nextK_of c hc []
 rw[Yc]at h
 unfold U.nextK at h
 split at h
 · cases h
 · split at h
   · cases h
   · split at h
     · simp only[Zi,Yy]at h
       obtain⟨h1,h2⟩:=h
       rw[h2]at h1
       exact h1
     · cases h
theorem U.next_good (l:List UInt8) (c:Int) (n:Nat) (h:U.nextK l=some (c,n)):1≤n∧n≤4∧n≤l.length∧U.isC c=true∧U.enc c=l.take n∧U.accK (l.take n) n (n-1)=c:=by
 obtain⟨hc,hn,t,rfl⟩:=U.nextK_some l c n h
 have hl:=U.enc_len c hc
 have h1:=(U.width_pos c).2 hc
 have h4:=U.width_le c
 have ht:(U.enc c++t).take n=U.enc c:=by rw[hn,←hl];simp
 refine⟨by omega,by omega,by rw[Ze];omega,hc,ht.symm,?_⟩
 rw[ht,hn,←hl]
 exact U.acc_enc c hc
theorem ba_take (s:ByteArray) (k:Nat):(s.extract 0 k).data.toList=s.data.toList.take k:=by
 simp[ByteArray.data_extract,Array.toList_extract]
set_option maxRecDepth 100000 in
set_option maxHeartbeats 1000000 in
theorem U.first_any (s:ByteArray) (w:World) (hs:s.size≤maxLen) :
 Calls Tryz.prog 54 #[.string s] w fun e w'=>e=.returned (.tuple #[.int .i64 (U.firstK s.data.toList).1,.int .i64 (U.firstK s.data.toList).2])∧Below w.heap.size w w':=by
 unfold maxLen at hs
 go_enter Tryz.func54,Tryz.ntmps54
 go_wp2
 go_loopw [4] (fun i wr=>∃k:Nat,1≤k∧k≤5∧i=.int .i64 k∧Below w.heap.size w wr∧∀j,j<k→∀c,U.nextK s.data.toList≠some (c,j)) (fun i _=>5-(intOf i).toNat)
 case atStart=>exact⟨1,by omega,by omega,rfl,Zd _ _,fun j hj c h=>by have:=(U.next_good _ _ _ h).1;omega⟩
 case round =>
  obtain⟨k,av,au,rfl,aa,ap⟩:=hrel
  have ao:=aa.size
  have ae:=Za ap
  clear ap
  by_cases hk:(k:Int)<5
  · by_cases hks:(k:Int)≤s.size
    · obtain⟨x,hx⟩:∃x:ByteArray,s.extract 0 k=x:=⟨_,rfl⟩
      have ah:x.data.toList=s.data.toList.take k:=by rw[←hx];exact ba_take s k
      have aj:x.size=k:=by
       have:x.data.toList.length=x.size:=by simp
       rw[←this,ah];simp;omega
      have ai:=Za ah
      have ag:=Za aj
      clear ah aj
      go_wp2_with fail
      refine (U.number_any _ _ (by rw[ag.out];omega) (by rw[ag.out];omega)).mono ?_
      rintro e w' ⟨rfl,rfl⟩
      rw[ai.out,ag.out]
      obtain⟨c,hc⟩:∃c,U.accK (List.take k s.data.toList) k (k-1)=c:=⟨_,rfl⟩
      rw[hc]
      by_cases hch:U.isC c=true
      · obtain⟨z1,z2,-⟩:=(U.isC_iff c).1 hch
        have HC:=Za hc
        have af:=Za hch
        clear hc
        go_wp2
        go_region_held3 (fun _=>True) (trivial) (first|(go_at_call 39;refine (U.ris_any _ _).mono ?_;rintro e w' ⟨rfl,rfl⟩)|(go_at_call 20;refine (U.bytes_any _ _ af.out).mono ?_;rintro e w4 ⟨rfl,ak⟩))
        go_wp2
        · have he:(U.enc c == x.toList)=true:=by assumption
          have ar:U.enc c=s.data.toList.take k:=by rw[←ai.out,←ba_list];exact eq_of_beq he
          have hn:=U.good_next s.data.toList c k (by simp;omega) af.out ar
          go_ret2
          rw[U.first_some hn]
          exact⟨rfl,aa.trans ((Zd _ _).drew.trans (ak.mono ao))⟩
        · have he:(U.enc c == x.toList)=false:=by assumption
          refine⟨⟨k+1,by omega,by omega,by go_num,aa.trans ((Zd _ _).drew.trans (ak.mono ao)),fun j hj c' h=>?_⟩,by simp[intOf];omega⟩
          by_cases hjk:j=k
          · subst hjk
            obtain⟨_,_,_,g4,g5,g6⟩:=U.next_good _ _ _ h
            rw[HC.out]at g6
            subst g6
            rw[ba_list,ai.out,g5]at he
            simp at he
          · exact ae.out j (by omega) c' h
      · have aq:U.isC c=false:=by simpa using hch
        have HC:=Za hc
        have af:=Za hch
        clear hc hch
        go_wp2
        go_quiet ((go_at_call 39;exact quiet_same (U.ris_any _ _)))
        go_wp2
        refine⟨⟨k+1,by omega,by omega,by go_num,below_drewN aa _,fun j hj c' h=>?_⟩,by simp[intOf];omega⟩
        by_cases hjk:j=k
        · subst hjk
          obtain⟨_,_,_,g4,_,g6⟩:=U.next_good _ _ _ h
          rw[HC.out]at g6
          subst g6
          exact af.out g4
        · exact ae.out j (by omega) c' h
    · have hn:U.nextK s.data.toList=none:=by
       rcases hh:U.nextK s.data.toList with _|⟨c,n⟩
       · rfl
       · have g:=U.next_good _ _ _ hh
         have gl:s.data.toList.length=s.size:=by simp
         exact absurd hh (ae.out n (by omega) c)
      have HN:=Za (U.first_none hn)
      clear hn
      go_wp2
      go_ret2
      rw[HN.out]
      exact⟨rfl,aa⟩
  · have hn:U.nextK s.data.toList=none:=by
     rcases hh:U.nextK s.data.toList with _|⟨c,n⟩
     · rfl
     · have g:=U.next_good _ _ _ hh
       exact absurd hh (ae.out n (by omega) c)
    have HN:=Za (U.first_none hn)
    clear hn
    go_wp2
    go_ret2
    rw[HN.out]
    exact⟨rfl,aa⟩
theorem ba_drop (s:ByteArray) (k:Nat):(s.extract k s.size).data.toList=s.data.toList.drop k:=by
 have h:s.data.toList.length=s.size:=by simp
 simp only[ByteArray.data_extract,Array.toList_extract]
 rw[List.extract_eq_take_drop,Zj (by rw[ZK];omega)]
theorem ba_len (s:ByteArray):s.data.toList.length=s.size:=by simp
def cutS (s:ByteArray) (n:Nat):ByteArray:=if n<s.size then s.extract 0 n else s
theorem cutS_list (s:ByteArray) (n:Nat):(cutS s n).data.toList=s.data.toList.take n:=by
 unfold cutS
 split
 · exact ba_take s n
 · rw[Zj (by rw[ba_len];omega)]
theorem cutS_size (s:ByteArray) (n:Nat):(cutS s n).size≤n:=by
 rw[←ba_len,cutS_list,Zq];omega
set_option maxRecDepth 100000 in
set_option maxHeartbeats 400000 in
theorem U.cut_any (s:ByteArray) (n:Nat) (w:World) (hs:s.size≤maxLen) :
 Calls Tryz.prog 14 #[.string s,.int .i64 n] w fun e w'=>e=.returned (.string (cutS s n))∧w=w':=by
 unfold maxLen at hs
 by_cases h:n<s.size
 · have hc:cutS s n=s.extract 0 n:=by unfold cutS;rw[if_pos h]
   have HC:=Za hc
   clear hc
   go_enter Tryz.func14,Tryz.ntmps14
   go_wp2
   go_ret
   rw[HC.out]
   exact⟨rfl,rfl⟩
 · have hc:cutS s n=s:=by unfold cutS;rw[if_neg h]
   have HC:=Za hc
   clear hc
   go_enter Tryz.func14,Tryz.ntmps14
   go_wp2
   go_ret
   rw[HC.out]
   exact⟨rfl,rfl⟩
theorem U.next3_some {l:List UInt8} {c:Int} {k:Nat} (h:U.nextK l=some (c,k)):U.next3 l=(c,k,true):=by unfold U.next3;rw[h]
theorem U.next3_none {l:List UInt8} (h:U.nextK l=none):U.next3 l=(0,0,false):=by unfold U.next3;rw[h]
def U.encs (cs:List Int):List UInt8:=cs.flatMap U.enc
theorem U.encs_cons (c:Int) (cs:List Int):U.encs (c::cs)=U.enc c++U.encs cs:=rfl
theorem U.encs_append (a b:List Int):U.encs (a++b)=U.encs a++U.encs b:=by unfold U.encs;rw[List.flatMap_append]
theorem U.enc_pos (c:Int):1≤(U.enc c).length∧(U.enc c).length≤4:=by unfold U.enc;grind
theorem U.encs_len (cs:List Int):cs.length≤(U.encs cs).length:=by
 induction cs with
 | nil=>simp
 | cons c cs ih=>rw[U.encs_cons,Ze,ZI];have:=(U.enc_pos c).1;omega
def U.Dec (l:List UInt8) (cs:List Int) (r:List UInt8):Prop:=l=U.encs cs++r∧(∀c∈cs,U.isC c=true)∧U.nextK r=none
theorem U.dec_exists (l:List UInt8):∃cs r,U.Dec l cs r:=by
 have:∀n,∀l:List UInt8,l.length≤n→∃cs r,U.Dec l cs r:=by
  intro n
  induction n with
  | zero =>
     intro l h;have h0:l=[]:=Zy (by omega)
     exact⟨[],l,rfl,by simp,by rw[h0];rfl⟩
  | succ n ih =>
    intro l h
    rcases hn:U.nextK l with _|⟨c,k⟩
    · exact⟨[],l,rfl,by simp,hn⟩
    · obtain⟨hc,_,t,rfl⟩:=U.nextK_some l c k hn
      obtain⟨cs,r,h1,h2,h3⟩:=ih t (by rw[Ze]at h;have:=(U.enc_pos c).1;omega)
      refine⟨c::cs,r,by rw[U.encs_cons,Zz,←h1],?_,h3⟩
      intro x hx
      rcases List.mem_cons.1 hx with rfl|hx
      · exact hc
      · exact h2 x hx
 exact this l.length l (Zb _)
theorem U.dec_next {c:Int} {b:List Int} {r:List UInt8} (hc:U.isC c=true):U.nextK (U.encs (c::b)++r)=some (c,(U.enc c).length):=by
 rw[U.encs_cons,Zz];exact U.nextK_of c hc _
theorem U.dec_unique {l:List UInt8} {cs cs':List Int} {r r':List UInt8} (h:U.Dec l cs r) (h':U.Dec l cs' r'):cs=cs'∧r=r':=by
 obtain⟨rfl,h2,h3⟩:=h
 obtain⟨g1,g2,g3⟩:=h'
 induction cs generalizing cs' with
 | nil =>
   cases cs' with
   | nil=>exact⟨rfl,g1⟩
   | cons c b =>
     have e:U.encs []++r=r:=rfl
     rw[e]at g1
     rw[g1,U.dec_next (g2 c (by simp))]at h3
     cases h3
 | cons c b ih =>
   cases cs' with
   | nil =>
     have e:U.encs []++r'=r':=rfl
     rw[e]at g1
     rw[←g1,U.dec_next (h2 c (by simp))]at g3
     cases g3
   | cons c' b' =>
     have e1:=U.dec_next (r:=r) (b:=b) (h2 c (by simp))
     have e2:=U.dec_next (r:=r') (b:=b') (g2 c' (by simp))
     rw[g1,e2]at e1
     simp only[Zi,Yy]at e1
     obtain⟨rfl,_⟩:=e1
     rw[U.encs_cons,U.encs_cons,Zz,Zz]at g1
     have:=ih (cs':=b') (fun x hx=>h2 x (Zx _ hx)) (List.append_cancel_left g1) (fun x hx=>g2 x (Zx _ hx))
     exact⟨by rw[this.1],this.2⟩
end Go.Proofs.YtikiplbhlohmdaaGreatDoor
