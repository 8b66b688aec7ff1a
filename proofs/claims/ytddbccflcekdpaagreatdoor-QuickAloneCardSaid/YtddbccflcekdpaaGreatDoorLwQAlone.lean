/- The law QuickAlone, by walking its text. -/
import Derived.Test.YtddbccflcekdpaaGreatDoorQkAwake
import Derived.Test.YtddbccflcekdpaaGreatDoorSlCut
import Derived.Test.YtddbccflcekdpaaGreatDoorUtfE
import Derived.Test.YtddbccflcekdpaaGreatDoorMdTable
import Derived.BigQuiet
namespace Go.Proofs.YtddbccflcekdpaaGreatDoor
open Go.RowKit
set_option linter.unusedSimpArgs false
set_option linter.unusedVariables false
theorem Qk.alone2 {T:List Rw.Row} {S:List Int} (ok:Ud.Ok T S) (c:Int):(zMx T S [c]=0)↔Qk.set T S c=false:=by
 have h0:=(zDP ok c).1
 have hi:Or.inB (Md.cls T) 0 [c]=true:=by
  unfold Or.inB;rw[if_neg (by omega)];rfl
 unfold zMx;rw[if_pos hi];show min 2 (Qk.one T S c)=0↔_;unfold Qk.one;cases Qk.set T S c
 · exact⟨fun _=>rfl,fun _=>rfl⟩
 simp only[if_pos];split
 · exact⟨fun h=>absurd h (by decide),fun h=>by cases h⟩
 exact⟨fun h=>absurd h (by decide),fun h=>by cases h⟩
set_option maxRecDepth 100000 in
set_option maxHeartbeats 4000000 in
theorem Qk.quickAlone_any (w:World) (A XA PA MA:Option Addr) (n c xn xc pn pc mn mc:Nat) (T0:List Rw.Row) (E0 P M:List Int) (hT:Tx.In A XA PA MA n c xn xc pn pc mn mc T0 E0 P M w) (hL:Nf.Laid w) :
 Calls Tryz.prog 5 #[.agg #[.slice A n c,.slice XA xn xc,.slice PA pn pc,.slice MA mn mc]] w fun e w'=>e=.returned (.bool true)∧Below w.heap.size w w':=by
 have HMADE:=hy' (fun W (hW:Below w.heap.size w W)=>zHl A XA PA MA n c xn xc pn pc mn mc T0 E0 P M 12 W (by decide) (hT.below hW) (Rw.Laid.next hL.1 hW));have HAW:=hy' (fun W (hW:Below w.heap.size w W)=>Qk.awake19 W (hL.next hW));obtain⟨wa,hwa⟩:∃wa,w.alloc (.cells #[.slice A n c,.slice XA xn xc,.slice PA pn pc,.slice MA mn mc] 27)=wa:=⟨_,rfl⟩;have hba:Below w.heap.size w wa:=by rw[←hwa];exact (Below.refl _ _).alloc (Nat.le_refl _) _
 have hat:Rw.At wa w.heap.size 27 [.slice A n c,.slice XA xn xc,.slice PA pn pc,.slice MA mn mc]:=by rw[←hwa];exact Rw.At.new w 27 [.slice A n c,.slice XA xn xc,.slice PA pn pc,.slice MA mn mc]
 have HWA:=hy' hwa;have HBA:=hy' hba;have HAT:=hy' hat;have HH:=hy' hL.2;clear hwa hba hat hT hL;go_enter Tryz.func5,Tryz.ntmps5;go_upto_region 1 with (fail)
 rw[HWA.o];go_wp2_with fail;refine (HAW.o wa HBA.o).mono ?_;rintro e w1 ⟨rfl,hb1⟩;have hat1:=HAT.o.below hb1;have HB1:=hy' (HBA.o.trans (hb1.mono HBA.o.size));have x0:=hat1.cell 0 rfl;have x1:=hat1.cell 1 rfl;have x2:=hat1.cell 2 rfl;have x3:=hat1.cell 3 rfl;have xl:=hat1.lt;clear hb1 hat1;go_wp2_with fail;refine (HMADE.o w1 HB1.o).mono ?_;rintro e w2 ⟨p,v2,T,E,S,l,Al,cl,rfl,his,hdo,hR,hown,hlc,hll,hap,hb2⟩;obtain⟨pb,rfl,hpbl⟩:=his.form;obtain⟨A2,c2,XA2,xc2,rfl,hdo2⟩:=id hdo;obtain⟨n2,hn2⟩:∃k,T.length=k:=⟨_,rfl⟩;obtain⟨xn2,hxn2⟩:∃k,E.length=k:=⟨_,rfl⟩;obtain⟨ln,hln⟩:∃k,l.length=k:=⟨_,rfl⟩;unfold zBs at hdo hap ⊢;rw[hn2,hxn2]at hdo ⊢;simp only[hn2,hxn2]at hap;rw[hln]at hown hll hap ⊢;obtain⟨w3,hw3⟩:∃w3,w2.alloc (.cells #[.slice A2 n2 c2,.slice XA2 xn2 xc2] 25)=w3:=⟨_,rfl⟩;have hb3:Below w2.heap.size w2 w3:=by rw[←hw3];exact (Below.refl _ _).alloc (Nat.le_refl _) _
 have hat3:Rw.At w3 w2.heap.size 25 [.slice A2 n2 c2,.slice XA2 xn2 xc2]:=by rw[←hw3];exact Rw.At.new w2 25 [.slice A2 n2 c2,.slice XA2 xn2 xc2]
 have HW3:=hy' hw3;have HB3:=hy' (HB1.o.trans ((hb2.trans (hb3.mono hb2.size)).mono HB1.o.size));have HT3:=hy' hat3;have HI3:=hy' (his.below hb3);have HD3:=hy' (hdo.below hb3);have HL3:=hy' (zA4 hown hb3 (Nat.le_refl _));have HR:=hy' hR;have HLC:=hy' hlc;have HLN:=hy' hln;have HN2:=hy' hn2;have HAP:Hy (∀w'',w3.grownBy w'' (Value.slice Al ln cl).ownBlock→Ud.Is w'' (.pointer (some ⟨pb,0,none⟩)) T S∧Md.Doc w'' (.agg #[.slice A2 n2 c2,.slice XA2 xn2 xc2]) T E):=hy' fun w'' hg=>hap w'' (zA0 (by rw[←hw3];exact World.grownBy_alloc _ _ _) hg)
 have HLB:=hy' (fun x (hx:x∈l)=>Tx.isC_i32 (hlc x hx));have z0:=hat3.cell 0 rfl;have z1:=hat3.cell 1 rfl;have zl:=hat3.lt;clear x0 x1 x2 x3 xl hap hdo hdo2 his hR hown hlc hln hn2 hxn2 hw3 hb3 hat3 hb2 HMADE HAW HWA HBA HAT;go_upto_region 4 with (fail)
 rw[HW3.o];have hok:=HR.o.ok;have HL33:=hy' (Sl.of_own HL3.o);have HH3:=hy' (HH.o.next HB3.o);have HQ0:=hy' (Below.refl w3.heap.size w3)
 have HIC:Hy (∀(z:List Int) (s:ByteArray) (b:Bool) (W:World),Below w3.heap.size w3 W→(∀c∈z,C.isC c=true)→(Nf.fl T z).length≤1024→zA6 z=s→decide (Nc.chars T S z=z)=b→Calls Tryz.prog 29 #[.pointer (some ⟨pb,0,none⟩),.string s] W fun e w'=>e=.returned (.bool b)∧Below W.heap.size W w'):=hy' fun z s b W hW hz hf hs hr=>by
  have:=Nc.is_chars _ T S z W hok (HI3.o.below hW) (HH3.o.next hW) hz (by have:=zBE hok z;omega) hf;rw[hs,hr]at this;exact this
 have HQC:Hy (∀(z:List Int) (s:ByteArray) (a:Int) (W:World),Below w3.heap.size w3 W→(∀c∈z,C.isC c=true)→z.length≤2000→zA6 z=s→zMx T S z=a→Calls Tryz.prog 23 #[.pointer (some ⟨pb,0,none⟩),.string s] W fun e w'=>e=.returned (.tuple #[.int .i64 a,.int .i64 0])∧Below W.heap.size W w'):=hy' fun z s a W hW hz hl hs ha=>by
  have:=Qk.C_chars _ T S W hok (HI3.o.below hW) (HH3.o.next hW) z hz (by omega);rw[hs,ha]at this;exact this
 have HST:Hy (∀(x:Int) (b:Bool) (W:World),Below w3.heap.size w3 W→C.isC x=true→Qk.set T S x=b→Calls Tryz.prog 25 #[.pointer (some ⟨pb,0,none⟩),.int .i32 x] W fun e w'=>e=.returned (.bool b)∧Below W.heap.size W w'):=hy' fun x b W hW hx hb=>by
  have:=Qk.settled_any _ T S x W hok (HI3.o.below hW) hx;rw[hb]at this;exact this
 clear HL3 z0 z1 zl;go_wp2_with fail;go_loopw [8,9,10,11,25] (fun _ _ _ _ i wr=>∃k:Nat,k≤ln∧i=.int .i64 k∧Below w3.heap.size w3 wr) (fun _ _ _ _ i _=>ln-(intOf i).toNat)
 case atStart=>exact⟨0,Nat.zero_le _,rfl,HQ0.o⟩
 obtain⟨k,hk,rfl,hbr⟩:=hrel;obtain⟨q0,rfl⟩:∃q:World,q=wr:=⟨_,rfl⟩;have HQ0:=hy' hbr
 by_cases hlt:k<ln
 rotate_left
 · have kI:¬(k:Int)<ln:=by omega
   have HF:=hy' (HB3.o.trans (hbr.mono HB3.o.size));clear hbr;go_wp2_with fail;go_ret;exact⟨rfl,HF.o⟩
 obtain⟨x,hx⟩:∃x,l[k]?=some x:=⟨_,List.getElem?_eq_getElem (by rw[HLN.o];exact hlt)⟩;have hxm:=List.mem_of_getElem? hx;have hxc:=HLC.o x hxm;obtain⟨hx1,hx2⟩:=HLB.o x hxm;obtain⟨ab,ao,rfl,hab,hac⟩:=HL33.o (by rw[List.length_map,HLN.o];omega);have hc:=hac k (by rw[List.length_map,HLN.o];exact hlt);rw[List.getElem?_map,hx,Option.map_some,←(zAI hbr).1 _ _ hab]at hc;have hab2:=Nat.lt_of_lt_of_le hab hbr.size;have hw0:IntKind.i32.wrap x=x:=by rw[IntKind.wrap_i32];omega
 have kI:(k:Int)<ln:=by omega
 have k0:(0:Int)≤k:=by omega
 have HBY:=zJ3 x q0 hxc;have hz:∀c∈[x],C.isC c=true:=fun c hc=>by rw[List.mem_singleton]at hc;rw[hc];exact hxc
 have hen:zA6 [x]=⟨(zAl x).toArray⟩:=by rw[zCe hz];unfold zA5;rw[List.flatMap_cons,List.flatMap_nil,List.append_nil]
 obtain⟨s,hs⟩:∃q:ByteArray,⟨(zAl x).toArray⟩=q:=⟨_,rfl⟩;rw[hs]at HBY hen;obtain⟨a,ha⟩:∃a,zMx T S [x]=a:=⟨_,rfl⟩;obtain⟨b,hb⟩:∃b,Qk.set T S x=b:=⟨_,rfl⟩
 have hab0:(a == 0)=!b:=by
  have h1:=Qk.alone2 hok x;rw[ha,hb]at h1;cases b
  · rw[h1.2 rfl];rfl
  cases he:(a == 0) with
  | false=>rfl
  | true=>exact absurd (h1.1 (by simpa using he)) (by decide)
 have hic:decide (Nc.chars T S [x]=[x])=b:=hb;have hfx:(Nf.fl T [x]).length≤1024:=zFs hok (by simp);have H1:=hy' (fun W hW=>HQC.o [x] s a W hW hz (by simp) hen ha);have H2:=hy' (fun W hW=>HST.o x b W hW hxc hb);have H3:=hy' (fun W hW=>HIC.o [x] s b W hW hz hfx hen hic);clear hx hac hbr hz hen hs ha hb hic hfx hxm hxc hx1 hx2;go_wp2_with fail;refine HBY.mono ?_;rintro e q1 ⟨rfl,hb⟩;have HQ1:=hy' (HQ0.o.trans (hb.mono HQ0.o.size));clear hb hc hab2 HBY;go_wp2_with fail;refine (H1.o q1 HQ1.o).mono ?_;rintro e q2 ⟨rfl,hb⟩;have HQ2:=hy' (HQ1.o.trans (hb.mono HQ1.o.size));clear hb;cases b
 all_goals
  simp only[Bool.not_false,Bool.not_true]at hab0;go_wp2_with fail;refine (H2.o q2 HQ2.o).mono ?_;rintro e q3 ⟨rfl,hb⟩;have HQ3:=hy' (HQ2.o.trans (hb.mono HQ2.o.size));clear hb;go_wp2_with fail;refine (H3.o q3 HQ3.o).mono ?_;rintro e q4 ⟨rfl,hb⟩;have HQ4:=hy' (HQ3.o.trans (hb.mono HQ3.o.size));clear hb;go_wp2_with fail;refine (H2.o q4 HQ4.o).mono ?_;rintro e q5 ⟨rfl,hb⟩;have HQ5:=hy' (HQ4.o.trans (hb.mono HQ4.o.size));clear hb;go_wp2_with fail;exact⟨⟨k+1,by omega,by first|rfl|go_num,HQ5.o⟩,by simp[intOf];omega⟩
end Go.Proofs.YtddbccflcekdpaaGreatDoor
