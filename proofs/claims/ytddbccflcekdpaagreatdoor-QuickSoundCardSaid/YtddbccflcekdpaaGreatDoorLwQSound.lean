/- The law QuickSound, by walking its text. -/
import Derived.Test.YtddbccflcekdpaaGreatDoorQkAwake
import Derived.Test.YtddbccflcekdpaaGreatDoorQkYes
import Derived.Test.YtddbccflcekdpaaGreatDoorSlCut
import Derived.Test.YtddbccflcekdpaaGreatDoorMdTable
import Derived.BigQuiet
namespace Go.Proofs.YtddbccflcekdpaaGreatDoor
open Go.RowKit
set_option linter.unusedSimpArgs false
set_option linter.unusedVariables false
theorem Qk.made_any (s:ByteArray) (a:Int) (w:World):Calls Tryz.prog 30 #[.string s,.int .i64 a] w fun e w'=>e=.returned (.string s)∧w=w':=by
 go_enter Tryz.func30,Tryz.ntmps30;go_wp2_with fail;go_ret;exact⟨rfl,rfl⟩
set_option maxRecDepth 100000 in
set_option maxHeartbeats 4000000 in
theorem Qk.quickSound_any (w:World) (A XA PA MA:Option Addr) (n c xn xc pn pc mn mc:Nat) (T0:List Rw.Row) (E0 P M:List Int) (hT:Tx.In A XA PA MA n c xn xc pn pc mn mc T0 E0 P M w) (hL:Nf.Laid w) :
 Calls Tryz.prog 6 #[.agg #[.slice A n c,.slice XA xn xc,.slice PA pn pc,.slice MA mn mc]] w fun e w'=>e=.returned (.bool true)∧Below w.heap.size w w':=by
 have HMADE:=hy' (fun W (hW:Below w.heap.size w W)=>zHl A XA PA MA n c xn xc pn pc mn mc T0 E0 P M 20 W (by decide) (hT.below hW) (Rw.Laid.next hL.1 hW));have HAW:=hy' (fun W (hW:Below w.heap.size w W)=>Qk.awake19 W (hL.next hW));obtain⟨wa,hwa⟩:∃wa,w.alloc (.cells #[.slice A n c,.slice XA xn xc,.slice PA pn pc,.slice MA mn mc] 27)=wa:=⟨_,rfl⟩;have hba:Below w.heap.size w wa:=by rw[←hwa];exact (Below.refl _ _).alloc (Nat.le_refl _) _
 have hat:Rw.At wa w.heap.size 27 [.slice A n c,.slice XA xn xc,.slice PA pn pc,.slice MA mn mc]:=by rw[←hwa];exact Rw.At.new w 27 [.slice A n c,.slice XA xn xc,.slice PA pn pc,.slice MA mn mc]
 have HWA:=hy' hwa;have HBA:=hy' hba;have HAT:=hy' hat;have HH:=hy' hL.2;clear hwa hba hat hT hL;go_enter Tryz.func6,Tryz.ntmps6;go_upto_region 1 with (fail)
 rw[HWA.o];go_wp2_with fail;refine (HAW.o wa HBA.o).mono ?_;rintro e w1 ⟨rfl,hb1⟩;have hat1:=HAT.o.below hb1;have HB1:=hy' (HBA.o.trans (hb1.mono HBA.o.size));have x0:=hat1.cell 0 rfl;have x1:=hat1.cell 1 rfl;have x2:=hat1.cell 2 rfl;have x3:=hat1.cell 3 rfl;have xl:=hat1.lt;clear hb1 hat1;go_wp2_with fail;refine (HMADE.o w1 HB1.o).mono ?_;rintro e w2 ⟨p,v2,T,E,S,l,Al,cl,rfl,his,hdo,hR,hown,hlc,hll,hap,hb2⟩;obtain⟨pb,rfl,hpbl⟩:=his.form;obtain⟨A2,c2,XA2,xc2,rfl,hdo2⟩:=id hdo;obtain⟨n2,hn2⟩:∃k,T.length=k:=⟨_,rfl⟩;obtain⟨xn2,hxn2⟩:∃k,E.length=k:=⟨_,rfl⟩;obtain⟨ln,hln⟩:∃k,l.length=k:=⟨_,rfl⟩;unfold zBs at hdo hap ⊢;rw[hn2,hxn2]at hdo ⊢;simp only[hn2,hxn2]at hap;rw[hln]at hown hll hap ⊢;obtain⟨w3,hw3⟩:∃w3,w2.alloc (.cells #[.slice A2 n2 c2,.slice XA2 xn2 xc2] 25)=w3:=⟨_,rfl⟩;have hb3:Below w2.heap.size w2 w3:=by rw[←hw3];exact (Below.refl _ _).alloc (Nat.le_refl _) _
 have hat3:Rw.At w3 w2.heap.size 25 [.slice A2 n2 c2,.slice XA2 xn2 xc2]:=by rw[←hw3];exact Rw.At.new w2 25 [.slice A2 n2 c2,.slice XA2 xn2 xc2]
 have HW3:=hy' hw3;have HB3:=hy' (HB1.o.trans ((hb2.trans (hb3.mono hb2.size)).mono HB1.o.size));have HT3:=hy' hat3;have HI3:=hy' (his.below hb3);have HD3:=hy' (hdo.below hb3);have HL3:=hy' (zA4 hown hb3 (Nat.le_refl _));have HR:=hy' hR;have HLC:=hy' hlc;have HLN:=hy' hln;have HN2:=hy' hn2;have HAP:Hy (∀w'',w3.grownBy w'' (Value.slice Al ln cl).ownBlock→Ud.Is w'' (.pointer (some ⟨pb,0,none⟩)) T S∧Md.Doc w'' (.agg #[.slice A2 n2 c2,.slice XA2 xn2 xc2]) T E):=hy' fun w'' hg=>hap w'' (zA0 (by rw[←hw3];exact World.grownBy_alloc _ _ _) hg)
 have HLB:=hy' (fun x (hx:x∈l)=>Tx.isC_i32 (hlc x hx));have z0:=hat3.cell 0 rfl;have z1:=hat3.cell 1 rfl;have zl:=hat3.lt;clear x0 x1 x2 x3 xl hap hdo hdo2 his hR hown hlc hln hn2 hxn2 hw3 hb3 hat3 hb2 HMADE HAW HWA HBA HAT;go_upto_region 4 with (fail)
 rw[HW3.o];have hok:=HR.o.ok;have HL33:=hy' (Sl.of_own HL3.o);have HH3:=hy' (HH.o.next HB3.o);have HQ0:=hy' (Below.refl w3.heap.size w3)
 have HEN:Hy (∀(A':Option Addr) (m c':Nat) (z:List Int) (sq:ByteArray) (W:World),z.length=m→m≤2000→(∀c∈z,C.isC c=true)→zA6 z=sq→Sl W W.heap.size A' (z.map (Value.int .i64))→Calls Tryz.prog 13 #[.slice A' m c'] W fun e w'=>e=.returned (.string sq)∧Below W.heap.size W w'):=hy' fun A' m c' z sq W hz hm hzl hs hA=>by
  have:=zG1 A' m c' z W hz (by omega) hA hzl;rw[hs]at this;exact this
 have HOD:Hy (∀(z:List Int) (s r:ByteArray) (W:World),Below w3.heap.size w3 W→(∀c∈z,C.isC c=true)→(Nf.fl T z).length≤1024→zA6 z=s→zA6 (Nf.chars T z)=r→Calls Tryz.prog 14 #[.pointer (some ⟨pb,0,none⟩),.string s] W fun e w'=>e=.returned (.tuple #[.string r,.int .i64 0])∧Below W.heap.size W w'):=hy' fun z s r W hW hz hf hs hr=>by
  have:=Nf.of_chars _ T S z W hok (HI3.o.below hW) (HH3.o.next hW) hz (by have:=zBE hok z;omega) hf;rw[hs,hr]at this;exact this
 have HOC:Hy (∀(z:List Int) (s r:ByteArray) (W:World),Below w3.heap.size w3 W→(∀c∈z,C.isC c=true)→(Nf.fl T z).length≤1024→zA6 z=s→zA6 (Nc.chars T S z)=r→Calls Tryz.prog 31 #[.pointer (some ⟨pb,0,none⟩),.string s] W fun e w'=>e=.returned (.tuple #[.string r,.int .i64 0])∧Below W.heap.size W w'):=hy' fun z s r W hW hz hf hs hr=>by
  have:=Nc.of_chars _ T S z W hok (HI3.o.below hW) (HH3.o.next hW) hz (by have:=zBE hok z;omega) hf;rw[hs,hr]at this;exact this
 have HID:Hy (∀(z:List Int) (s:ByteArray) (b:Bool) (W:World),Below w3.heap.size w3 W→(∀c∈z,C.isC c=true)→(Nf.fl T z).length≤1024→zA6 z=s→decide (Nf.chars T z=z)=b→Calls Tryz.prog 18 #[.pointer (some ⟨pb,0,none⟩),.string s] W fun e w'=>e=.returned (.bool b)∧Below W.heap.size W w'):=hy' fun z s b W hW hz hf hs hr=>by
  have:=Nf.is_chars _ T S z W hok (HI3.o.below hW) (HH3.o.next hW) hz (by have:=zBE hok z;omega) hf;rw[hs,hr]at this;exact this
 have HIC:Hy (∀(z:List Int) (s:ByteArray) (b:Bool) (W:World),Below w3.heap.size w3 W→(∀c∈z,C.isC c=true)→(Nf.fl T z).length≤1024→zA6 z=s→decide (Nc.chars T S z=z)=b→Calls Tryz.prog 29 #[.pointer (some ⟨pb,0,none⟩),.string s] W fun e w'=>e=.returned (.bool b)∧Below W.heap.size W w'):=hy' fun z s b W hW hz hf hs hr=>by
  have:=Nc.is_chars _ T S z W hok (HI3.o.below hW) (HH3.o.next hW) hz (by have:=zBE hok z;omega) hf;rw[hs,hr]at this;exact this
 have HQD:Hy (∀(z:List Int) (s:ByteArray) (a:Int) (W:World),Below w3.heap.size w3 W→(∀c∈z,C.isC c=true)→z.length≤2000→zA6 z=s→Qk.D T z=a→Calls Tryz.prog 22 #[.pointer (some ⟨pb,0,none⟩),.string s] W fun e w'=>e=.returned (.tuple #[.int .i64 a,.int .i64 0])∧Below W.heap.size W w'):=hy' fun z s a W hW hz hl hs ha=>by
  have:=Qk.D_chars _ T S W hok (HI3.o.below hW) (HH3.o.next hW) z hz (by omega);rw[hs,ha]at this;exact this
 have HQC:Hy (∀(z:List Int) (s:ByteArray) (a:Int) (W:World),Below w3.heap.size w3 W→(∀c∈z,C.isC c=true)→z.length≤2000→zA6 z=s→zMx T S z=a→Calls Tryz.prog 23 #[.pointer (some ⟨pb,0,none⟩),.string s] W fun e w'=>e=.returned (.tuple #[.int .i64 a,.int .i64 0])∧Below W.heap.size W w'):=hy' fun z s a W hW hz hl hs ha=>by
  have:=Qk.C_chars _ T S W hok (HI3.o.below hW) (HH3.o.next hW) z hz (by omega);rw[hs,ha]at this;exact this
 have hfl:(Nf.fl T l).length≤1024:=zFs hok (by rw[HLN.o];omega)
 have HALL:Hy (∀(z:List Int) (s:ByteArray),(∀c∈z,C.isC c=true)→(Nf.fl T z).length≤1024→zA6 z=s→∃(a c:Int) (d e:Bool),((a == 2)=d∧(a == 1)=false∧((c == 2)=true→e=true)∧((c == 0)=true→e=false))∧(∀W,Below w3.heap.size w3 W→Calls Tryz.prog 22 #[.pointer (some ⟨pb,0,none⟩),.string s] W fun e w'=>e=.returned (.tuple #[.int .i64 a,.int .i64 0])∧Below W.heap.size W w')∧(∀W,Below w3.heap.size w3 W→Calls Tryz.prog 23 #[.pointer (some ⟨pb,0,none⟩),.string s] W fun e w'=>e=.returned (.tuple #[.int .i64 c,.int .i64 0])∧Below W.heap.size W w')∧(∀W,Below w3.heap.size w3 W→Calls Tryz.prog 18 #[.pointer (some ⟨pb,0,none⟩),.string s] W fun e w'=>e=.returned (.bool d)∧Below W.heap.size W w')∧(∀W,Below w3.heap.size w3 W→Calls Tryz.prog 29 #[.pointer (some ⟨pb,0,none⟩),.string s] W fun r w'=>r=.returned (.bool e)∧Below W.heap.size W w')):=hy' fun z s hz hf hs=>by
  have hl:z.length≤2000:=by have:=zBE hok z;omega
  have hD:=Qk.D_eq hok z;refine⟨Qk.D T z,zMx T S z,decide (Nf.chars T z=z),decide (Nc.chars T S z=z),⟨?_,?_,fun h=>?_,fun h=>?_⟩,fun W hW=>HQD.o z s _ W hW hz hl hs rfl,fun W hW=>HQC.o z s _ W hW hz hl hs rfl,fun W hW=>HID.o z s _ W hW hz hf hs rfl,fun W hW=>HIC.o z s _ W hW hz hf hs rfl⟩
  · rw[hD]
    by_cases h:Nf.chars T z=z
    · rw[if_pos h,decide_eq_true h];rfl
    rw[if_neg h,decide_eq_false h];rfl
  · rw[hD];split <;> rfl
  · exact decide_eq_true (Qk.yes2 hok (by simpa using h))
  exact decide_eq_false (Qk.no_of hok (by simpa using h))
 obtain⟨R,hR⟩:∃R,Nc.chars T S l=R:=⟨_,rfl⟩;obtain⟨Z,hZ⟩:∃Z,Nf.chars T l=Z:=⟨_,rfl⟩;have hzc:∀c∈Z,C.isC c=true:=by rw[←hZ];exact Nf.chars_isC hok HLC.o
 have hrc:∀c∈R,C.isC c=true:=by rw[←hR];exact Nc.chars_isC hok HLC.o
 have hzf:(Nf.fl T Z).length≤1024:=by rw[←hZ];exact Nf.fl_ch hok hfl
 have hrf:(Nf.fl T R).length≤1024:=by rw[←hR];exact Nc.fl_ch hok hfl
 obtain⟨sl,hsl⟩:∃q,zA6 l=q:=⟨_,rfl⟩;obtain⟨sr,hsr⟩:∃q,zA6 R=q:=⟨_,rfl⟩;obtain⟨sz,hsz⟩:∃q,zA6 Z=q:=⟨_,rfl⟩;have H1:Hy (∀W,Below w3.heap.size w3 W→Calls Tryz.prog 31 #[.pointer (some ⟨pb,0,none⟩),.string sl] W fun e w'=>e=.returned (.tuple #[.string sr,.int .i64 0])∧Below W.heap.size W w'):=hy' fun W hW=>HOC.o l sl sr W hW HLC.o hfl hsl (by rw[hR,hsr])
 have H2:Hy (∀W,Below w3.heap.size w3 W→Calls Tryz.prog 14 #[.pointer (some ⟨pb,0,none⟩),.string sl] W fun e w'=>e=.returned (.tuple #[.string sz,.int .i64 0])∧Below W.heap.size W w'):=hy' fun W hW=>HOD.o l sl sz W hW HLC.o hfl hsl (by rw[hZ,hsz])
 have HSLE:=hy' hsl;obtain⟨P,hP⟩:∃P:ByteArray→Prop,P=fun s=>∃(a c:Int) (d e:Bool),((a == 2)=d∧(a == 1)=false∧((c == 2)=true→e=true)∧((c == 0)=true→e=false))∧(∀W,Below w3.heap.size w3 W→Calls Tryz.prog 22 #[.pointer (some ⟨pb,0,none⟩),.string s] W fun e w'=>e=.returned (.tuple #[.int .i64 a,.int .i64 0])∧Below W.heap.size W w')∧(∀W,Below w3.heap.size w3 W→Calls Tryz.prog 23 #[.pointer (some ⟨pb,0,none⟩),.string s] W fun e w'=>e=.returned (.tuple #[.int .i64 c,.int .i64 0])∧Below W.heap.size W w')∧(∀W,Below w3.heap.size w3 W→Calls Tryz.prog 18 #[.pointer (some ⟨pb,0,none⟩),.string s] W fun e w'=>e=.returned (.bool d)∧Below W.heap.size W w')∧(∀W,Below w3.heap.size w3 W→Calls Tryz.prog 29 #[.pointer (some ⟨pb,0,none⟩),.string s] W fun r w'=>r=.returned (.bool e)∧Below W.heap.size W w'):=⟨_,rfl⟩
 have HS3:Hy (∀k:Nat,k<3→∃s,([.string sl,.string sr,.string sz]:List Value)[k]?=some (.string s)∧P s):=hy' fun k hk=>by
  rw[hP]
  match k,hk with
  | 0,_=>exact⟨sl,rfl,HALL.o l sl HLC.o hfl hsl⟩
  | 1,_=>exact⟨sr,rfl,HALL.o R sr hrc hrf hsr⟩
  | 2,_=>exact⟨sz,rfl,HALL.o Z sz hzc hzf hsz⟩
 have HP:=hy' hP;clear hok hfl hR hZ hzc hrc hzf hrf hsl hsr hsz hP HALL HL3 z0 z1 zl;go_wp2_with fail;refine (HEN.o Al ln cl l sl w3 HLN.o (by omega) HLC.o HSLE.o HL33.o).mono ?_;rintro e q1 ⟨rfl,hb⟩;have HQ1:=hy' (HQ0.o.trans (hb.mono HQ0.o.size));clear hb;go_wp2_with fail;refine (H1.o q1 HQ1.o).mono ?_;rintro e q2 ⟨rfl,hb⟩;have HQ2:=hy' (HQ1.o.trans (hb.mono HQ1.o.size));clear hb;go_wp2_with fail;refine (Qk.made_any sr 0 q2).mono ?_;rintro e q2' ⟨rfl,rfl⟩;go_wp2_with fail;refine (H2.o q2 HQ2.o).mono ?_;rintro e q3 ⟨rfl,hb⟩;have HQ3:=hy' (HQ2.o.trans (hb.mono HQ2.o.size));clear hb;go_wp2_with fail;refine (Qk.made_any sz 0 q3).mono ?_;rintro e q3' ⟨rfl,rfl⟩;obtain⟨q4,hq4⟩:∃q4,q3.alloc (.cells #[.string sl,.string sr,.string sz] 9)=q4:=⟨_,rfl⟩;have hb4:Below q3.heap.size q3 q4:=by rw[←hq4];exact (Below.refl _ _).alloc (Nat.le_refl _) _
 have hblk:q4.heap[q3.heap.size]?=some (.cells #[.string sl,.string sr,.string sz] 9 (0,0)):=by rw[←hq4];exact heap_alloc_new q3 _
 have hlt4:q3.heap.size<q4.heap.size:=by rw[←hq4,World.size_alloc];omega
 have HQ4:=hy' (HQ3.o.trans (hb4.mono HQ3.o.size));have HBK:=hy' hblk;have HW4:=hy' hq4;have HLT:=hy' hlt4;clear hb4 hblk hq4 hlt4;go_upto_block 0 with (fail)
 rw[HW4.o];go_wp2_with fail;go_loopw [9,10,11,12,13,42] (fun _ _ _ _ _ i wr=>∃k:Nat,k≤3∧i=.int .i64 k∧Below q4.heap.size q4 wr) (fun _ _ _ _ _ i _=>3-(intOf i).toNat)
 case atStart=>exact⟨0,Nat.zero_le _,rfl,Below.refl _ _⟩
 obtain⟨k,hk,rfl,hbr⟩:=hrel;obtain⟨r0,rfl⟩:∃q:World,q=wr:=⟨_,rfl⟩;have HR0:=hy' (HQ4.o.trans (hbr.mono HQ4.o.size));have HRR:=hy' hbr
 by_cases hlt:k<3
 rotate_left
 · obtain rfl:k=3:=by omega
   have HF:=hy' (HB3.o.trans (HR0.o.mono HB3.o.size));clear hbr;go_wp2_with fail;go_ret;exact⟨rfl,HF.o⟩
 obtain⟨s,hs,hPs⟩:=HS3.o k hlt;rw[HP.o]at hPs;obtain⟨a,c,d,e,⟨f1,f2,f3,f4⟩,g1,g2,g3,g4⟩:=hPs
 have hc:r0.cell? ⟨q3.heap.size,k,none⟩=some (.string s):=by
  rw[(zAI hbr).1 _ _ HLT.o,(zIe HBK.o k).1,List.getElem?_toArray];exact hs
 have hab2:=Nat.lt_of_lt_of_le HLT.o hbr.size;have kI:(k:Int)<3:=by omega
 have k0:(0:Int)≤k:=by omega
 have G1:=hy' g1;have G2:=hy' g2;have G3:=hy' g3;have G4:=hy' g4;have F3:=hy' f3;have F4:=hy' f4;clear hbr hs g1 g2 g3 g4 f3 f4;go_wp2_with fail;refine (G1.o r0 HR0.o).mono ?_;rintro e' r1 ⟨rfl,hb⟩;have HR1:=hy' (HR0.o.trans (hb.mono HR0.o.size));have HRR1:=hy' (HRR.o.trans (hb.mono HRR.o.size));clear hb hc hab2;go_wp2_with fail;refine (G2.o r1 HR1.o).mono ?_;rintro e' r2 ⟨rfl,hb⟩;have HR2:=hy' (HR1.o.trans (hb.mono HR1.o.size));have HRR2:=hy' (HRR1.o.trans (hb.mono HRR1.o.size));clear hb
 have hcs:((c == 2)=true∧(c == 0)=false∧e=true)∨((c == 2)=false∧(c == 0)=true∧e=false)∨((c == 2)=false∧(c == 0)=false):=by
  cases h2:(c == 2) with
  | true =>
    left
    have:c=2:=by simpa using h2
    subst this;exact⟨rfl,rfl,F3.o h2⟩
  | false =>
    right
    cases h0:(c == 0) with
    | true=>exact .inl ⟨rfl,rfl,F4.o h0⟩
    | false=>exact .inr ⟨rfl,rfl⟩
 cases d
 all_goals
  go_wp2_with fail;refine (G3.o r2 HR2.o).mono ?_;rintro e' r3 ⟨rfl,hb⟩;have HR3:=hy' (HR2.o.trans (hb.mono HR2.o.size));have HRR3:=hy' (HRR2.o.trans (hb.mono HRR2.o.size));clear hb;rcases hcs with ⟨h2,h0,rfl⟩|⟨h2,h0,rfl⟩|⟨h2,h0⟩
  · go_wp2_with fail;refine (G4.o r3 HR3.o).mono ?_;rintro e' r4 ⟨rfl,hb⟩;have HR4:=hy' (HR3.o.trans (hb.mono HR3.o.size));have HRR4:=hy' (HRR3.o.trans (hb.mono HRR3.o.size));clear hb;go_wp2_with fail;exact⟨⟨k+1,by omega,by first|rfl|go_num,HRR4.o⟩,by simp[intOf];omega⟩
  · go_wp2_with fail;refine (G4.o r3 HR3.o).mono ?_;rintro e' r4 ⟨rfl,hb⟩;have HR4:=hy' (HR3.o.trans (hb.mono HR3.o.size));have HRR4:=hy' (HRR3.o.trans (hb.mono HRR3.o.size));clear hb;go_wp2_with fail;exact⟨⟨k+1,by omega,by first|rfl|go_num,HRR4.o⟩,by simp[intOf];omega⟩
  go_wp2_with fail;exact⟨⟨k+1,by omega,by first|rfl|go_num,HRR3.o⟩,by simp[intOf];omega⟩
end Go.Proofs.YtddbccflcekdpaaGreatDoor
