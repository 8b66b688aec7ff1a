/- The law NfcBytes, by walking its text. -/
import Derived.Test.YtjakbblocbicjaaGreatDoorNcLaw
import Derived.Test.YtjakbblocbicjaaGreatDoorNcRJoin
import Derived.Test.YtjakbblocbicjaaGreatDoorTxSame
import Derived.Test.YtjakbblocbicjaaGreatDoorUtfE
namespace Go.Proofs.YtjakbblocbicjaaGreatDoor
open Go.RowKit
set_option linter.unusedSimpArgs false
set_option linter.unusedVariables false
set_option maxRecDepth 100000 in
set_option maxHeartbeats 4000000 in
theorem Nc.nfcBytes_any (w:World) (A XA PA MA:Option Addr) (n c xn xc pn pc mn mc:Nat) (T0:List Rw.Row) (E0 P M:List Int) (hT:Tx.In A XA PA MA n c xn xc pn pc mn mc T0 E0 P M w) (s0:ByteArray) (hs0:s0.size≤maxLen) (hL:Nf.Laid w) :
 Calls Tryz.prog 10 #[.agg #[.slice A n c,.slice XA xn xc,.slice PA pn pc,.slice MA mn mc],.string s0] w fun e w'=>e=.returned (.bool true)∧Below w.heap.size w w':=by
 have HMADE:=hy' (fun W (hW:Below w.heap.size w W)=>zFx A XA PA MA n c xn xc pn pc mn mc T0 E0 P M 1 W (by decide) (hT.below hW) (Rw.Laid.next hL.1 hW));have HAW:=hy' (fun W (hW:Below w.heap.size w W)=>zFv W (hL.next hW));obtain⟨wa,hwa⟩:∃wa,w.alloc (.cells #[.slice A n c,.slice XA xn xc,.slice PA pn pc,.slice MA mn mc] 27)=wa:=⟨_,rfl⟩;have hba:Below w.heap.size w wa:=by rw[←hwa];exact (Below.refl _ _).alloc (Nat.le_refl _) _
 have hat:Rw.At wa w.heap.size 27 [.slice A n c,.slice XA xn xc,.slice PA pn pc,.slice MA mn mc]:=by rw[←hwa];exact Rw.At.new w 27 [.slice A n c,.slice XA xn xc,.slice PA pn pc,.slice MA mn mc]
 have HWA:=hy' hwa;have HBA:=hy' hba;have HAT:=hy' hat;have HH:=hy' hL.2;have HCU:=hy' (fun W=>U.cut_any s0 200 W hs0);have HC2:=hy' (zQz s0 200);clear hwa hba hat hT hL hs0;go_enter Tryz.func10,Tryz.ntmps10;go_upto_region 1 with (fail)
 rw[HWA.o];go_wp2_with fail;refine (HAW.o wa HBA.o).mono ?_;rintro e w1 ⟨rfl,hb1⟩;have hat1:=HAT.o.below hb1;have HB1:=hy' (HBA.o.trans (hb1.mono HBA.o.size));have x0:=hat1.cell 0 rfl;have x1:=hat1.cell 1 rfl;have x2:=hat1.cell 2 rfl;have x3:=hat1.cell 3 rfl;have xl:=hat1.lt;clear hb1 hat1;go_wp2_with fail;refine (HMADE.o w1 HB1.o).mono ?_;rintro e w2 ⟨p,v2,T,E,S,l,Al,cl,rfl,his,hdo,hR,hown,hlc,hll,hap,hb2⟩;obtain⟨pb,rfl,hpbl⟩:=his.form;obtain⟨A2,c2,XA2,xc2,rfl,hdo2⟩:=id hdo;obtain⟨n2,hn2⟩:∃k,T.length=k:=⟨_,rfl⟩;obtain⟨xn2,hxn2⟩:∃k,E.length=k:=⟨_,rfl⟩;obtain⟨ln,hln⟩:∃k,l.length=k:=⟨_,rfl⟩;unfold zAX at hdo hap ⊢;rw[hn2,hxn2]at hdo ⊢;simp only[hn2,hxn2]at hap;rw[hln]at hown hll hap ⊢;obtain⟨w3,hw3⟩:∃w3,w2.alloc (.cells #[.slice A2 n2 c2,.slice XA2 xn2 xc2] 25)=w3:=⟨_,rfl⟩;have hb3:Below w2.heap.size w2 w3:=by rw[←hw3];exact (Below.refl _ _).alloc (Nat.le_refl _) _
 have hat3:Rw.At w3 w2.heap.size 25 [.slice A2 n2 c2,.slice XA2 xn2 xc2]:=by rw[←hw3];exact Rw.At.new w2 25 [.slice A2 n2 c2,.slice XA2 xn2 xc2]
 have HW3:=hy' hw3;have HB3:=hy' (HB1.o.trans ((hb2.trans (hb3.mono hb2.size)).mono HB1.o.size));have HT3:=hy' hat3;have HI3:=hy' (his.below hb3);have HD3:=hy' (hdo.below hb3);have HL3:=hy' (zA4 hown hb3 (Nat.le_refl _));have HR:=hy' hR;have HLC:=hy' hlc;have HLN:=hy' hln;have HN2:=hy' hn2;have HAP:Hy (∀w'',w3.grownBy w'' (Value.slice Al ln cl).ownBlock→Ud.Is w'' (.pointer (some ⟨pb,0,none⟩)) T S∧Md.Doc w'' (.agg #[.slice A2 n2 c2,.slice XA2 xn2 xc2]) T E):=hy' fun w'' hg=>hap w'' (zA0 (by rw[←hw3];exact World.grownBy_alloc _ _ _) hg)
 have HLB:=hy' (fun x (hx:x∈l)=>Tx.isC_i32 (hlc x hx));have z0:=hat3.cell 0 rfl;have z1:=hat3.cell 1 rfl;have zl:=hat3.lt;clear x0 x1 x2 x3 xl hap hdo hdo2 his hR hown hlc hln hn2 hxn2 hw3 hb3 hat3 hb2 HMADE HAW HWA HBA HAT;go_upto_region 4 with (fail)
 rw[HW3.o];have hok:=HR.o.ok;have HH3:=hy' (HH.o.next HB3.o);obtain⟨y,hy⟩:∃y,zRo s0 200=y:=⟨_,rfl⟩;have hyz:y.size≤200:=by rw[←hy];exact HC2.o
 have HCU3:Hy (Calls Tryz.prog 32 #[.string s0,.int .i64 200] w3 fun e w'=>e=.returned (.string y)∧w3=w'):=hy' (by have:=HCU.o w3;rw[hy]at this;exact this);obtain⟨cs,r,hd⟩:=zMi y.data.toList
 have hcs:cs.length≤200:=by
  have h1:=zDL cs;have h2:y.size=(zAd cs).length+r.length:=by rw[←zFA,hd.1,List.length_append]
  omega
 have hcase:(Nf.tn T cs r=0)∨(Nf.tn T cs r≠0∧Nf.tl T cs r=[]):=by
  unfold Nf.tn Nf.tl
  by_cases h1:r=[]
  · by_cases h2:(Nf.fl T cs).length≤1024
    · left;rw[if_pos h1,if_pos h2]
    right;rw[if_pos h1,if_neg h2,if_neg (fun g=>h2 g.2)];exact⟨by decide,rfl⟩
  right;rw[if_neg h1,if_neg (fun g=>h1 g.1)];exact⟨by decide,rfl⟩
 obtain⟨z,hz⟩:∃z,Nf.tl T cs r=z:=⟨_,rfl⟩;obtain⟨tn,htn⟩:∃e,Nf.tn T cs r=e:=⟨_,rfl⟩
 have hzc:∀c∈z,C.isC c=true:=by
  rw[←hz];unfold Nf.tl;split
  · exact Nf.chars_isC hok hd.2.1
  simp
 have hzl:z.length≤6400:=by
  rw[←hz];unfold Nf.tl;split
  · have:=Nf.chars_le hok cs;omega
  simp
 obtain⟨m,hm⟩:∃m,z.length=m:=⟨_,rfl⟩;obtain⟨J,hJ⟩:∃J,zBw T S z=J:=⟨_,rfl⟩;obtain⟨jn,hjn⟩:∃q,J.length=q:=⟨_,rfl⟩;have hjc:∀c∈J,C.isC c=true:=by rw[←hJ];exact zDr hok hzc
 have hjl:jn≤6400:=by rw[←hjn,←hJ];exact Nat.le_trans (zDW _).1 hzl
 have HOF:Hy (∀W,Below w3.heap.size w3 W→Calls Tryz.prog 36 #[.pointer (some ⟨pb,0,none⟩),.string y] W fun e w'=>e=.returned (.tuple #[.string (zAv J),.int .i64 tn])∧Below W.heap.size W w'):=hy' fun W hW=>by
  have:=Nc.of_any _ T S y W hok (HI3.o.below hW) (by omega) (HH3.o.next hW) cs r hd (by omega);unfold Nc.tl at this;rw[hz,htn,hJ]at this;exact this
 have HIS:Hy (∀W,Below w3.heap.size w3 W→tn≠0→Calls Tryz.prog 38 #[.pointer (some ⟨pb,0,none⟩),.string y] W fun e w'=>e=.returned (.bool false)∧Below W.heap.size W w'):=hy' fun W hW hne=>by
  have:=Nc.is_any _ T S y W hok (HI3.o.below hW) (by omega) (HH3.o.next hW) cs r hd (by omega);rw[htn,decide_eq_false hne,Bool.false_and]at this;exact this
 have HRO:Hy (∀W,Below w3.heap.size w3 W→Calls Tryz.prog 39 #[.agg #[.slice A2 n2 c2,.slice XA2 xn2 xc2],.string y] W fun e w'=>∃A' c',e=.returned (.tuple #[.slice A' m c',.int .i64 tn])∧Sl w' w'.heap.size A' (z.map (Value.int .i64))∧Below W.heap.size W w'):=hy' fun W hW=>by
  refine (Nf.rtext_any _ T E y W (by have:=HR.o.tl;omega) hok.bd (fun r hr=>by have:=(HR.o.rok r hr).2.2.1;omega) (fun c=>zAS hok c) (HD3.o.below hW) (by omega) cs r hd (by omega)).mono ?_;rintro e w' ⟨A',c',rfl,ho,hb⟩;rw[hz,hm]at ho ⊢;rw[htn];exact⟨A',c',rfl,Sl.of_own ho,hb⟩
 have HRJ:Hy (∀A' c' W,Below w3.heap.size w3 W→Sl W W.heap.size A' (z.map (Value.int .i64))→Calls Tryz.prog 40 #[.agg #[.slice A2 n2 c2,.slice XA2 xn2 xc2],.slice A' m c'] W fun e w'=>∃A' c',e=.returned (.slice A' jn c')∧Sl w' w'.heap.size A' (J.map (Value.int .i64))∧Below W.heap.size W w'):=hy' fun A' c' W hW hs=>by
  refine (zF5 _ T E S A' m c' z W hok HR.o.mem (by have:=HR.o.tl;omega) (by have:=HR.o.el;omega) (fun r hr=>by have:=(HR.o.rok r hr).2.2.1;omega) (HD3.o.below hW) hm (by omega) hzc hs).mono ?_;rintro e w' ⟨A',c',rfl,ho,hb⟩;rw[hJ,hjn]at ho ⊢;exact⟨A',c',rfl,Sl.of_own ho,hb⟩
 have HEN:Hy (∀A' c' W,Sl W W.heap.size A' (J.map (Value.int .i64))→Calls Tryz.prog 26 #[.slice A' jn c'] W fun e w'=>e=.returned (.string (zAv J))∧Below W.heap.size W w'):=hy' fun A' c' W hA=>zEs A' jn c' J W hjn (by omega) hA hjc
 have HUP:=hy' (Below.refl w3.heap.size w3);obtain⟨sz,hsz⟩:∃q,zAv J=q:=⟨_,rfl⟩
 have htw:tn=0∨(tn≠0∧sz=⟨#[]⟩):=by
  rw[htn,hz]at hcase;rcases hcase with h|⟨h1,h2⟩
  · exact .inl h
  refine .inr ⟨h1,?_⟩;subst h2;rw[←hsz,←hJ];rfl
 rw[hsz]at HOF HEN;have HTW:=hy' htw;have HU:Hy ((sz.toList == sz.toList)=true):=hy' (by rw[zG9,decide_eq_true rfl]);clear hok hd hz htn hzc hzl hm hcs hyz hy z0 z1 zl HL3 hsz htw hcase hJ hjn hjc hjl;go_wp2_with fail;refine HCU3.o.mono ?_;rintro e w' ⟨rfl,rfl⟩;go_wp2_with fail;refine (HOF.o w3 HUP.o).mono ?_;rintro e q1 ⟨rfl,hb⟩;have HQ1:=hy' (HUP.o.trans (hb.mono HUP.o.size));have ht:=HT3.o.below HQ1.o;have z0:=ht.cell 0 rfl;have z1:=ht.cell 1 rfl;have zl:=ht.lt;clear hb ht;go_wp2_with fail;refine (HRO.o q1 HQ1.o).mono ?_;rintro e q2 ⟨A7,c7,rfl,hs7,hb⟩;have HQ2:=hy' (HQ1.o.trans (hb.mono HQ1.o.size));have HS7:=hy' hs7;clear hb hs7 z0 z1 zl;have e2:(tn == tn)=true:=by simp
 have e2':(tn != tn)=false:=by simp
 have hu:=HU.o;have ht:=HT3.o.below HQ2.o;have z0:=ht.cell 0 rfl;have z1:=ht.cell 1 rfl;have zl:=ht.lt;clear ht;rcases HTW.o with rfl|⟨hne,rfl⟩
 · go_wp2_with fail;refine (HRJ.o A7 c7 q2 HQ2.o HS7.o).mono ?_;rintro e q3 ⟨A8,c8,rfl,hs8,hb⟩;have HQ3:=hy' (HQ2.o.trans (hb.mono HQ2.o.size));have HS8:=hy' hs8;clear hs8 hb z0 z1 zl;go_wp2_with fail;refine (HEN.o A8 c8 q3 HS8.o).mono ?_;rintro e q4 ⟨rfl,hb⟩;have HQ4:=hy' (HB3.o.trans ((HQ3.o.trans (hb.mono HQ3.o.size)).mono HB3.o.size));clear hb;go_wp2_with fail;go_ret;exact⟨by first|rfl|(simp;done),HQ4.o⟩
 have e4:(tn == 0)=false:=by simpa using hne
 have e4':(tn != 0)=true:=by rw[bne,e4];rfl
 have HNE:=hy' hne;clear hne z0 z1 zl;go_wp2_with fail;refine (HIS.o q2 HQ2.o HNE.o).mono ?_;rintro e q3 ⟨rfl,hb⟩;have HQ3:=hy' (HB3.o.trans ((HQ2.o.trans (hb.mono HQ2.o.size)).mono HB3.o.size));clear hb;go_wp2_with fail;go_ret;exact⟨by first|rfl|(simp;done),HQ3.o⟩
end Go.Proofs.YtjakbblocbicjaaGreatDoor
