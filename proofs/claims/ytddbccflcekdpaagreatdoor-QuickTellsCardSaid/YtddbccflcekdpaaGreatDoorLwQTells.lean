/- The law QuickTells, by walking its text. -/
import Derived.Test.YtddbccflcekdpaaGreatDoorQkAwake
import Derived.Test.YtddbccflcekdpaaGreatDoorSlCut
import Derived.Test.YtddbccflcekdpaaGreatDoorUtfE
import Derived.Test.YtddbccflcekdpaaGreatDoorUtf
import Derived.Test.YtddbccflcekdpaaGreatDoorNcRChars
import Derived.Test.YtddbccflcekdpaaGreatDoorMdRef4
import Derived.Test.YtddbccflcekdpaaGreatDoorSpSafe
import Derived.Test.YtddbccflcekdpaaGreatDoorMdTable
import Derived.BigQuiet
import Derived.Deep.DeepCutAuto
import Derived.Deep.CutBlock
namespace Go.Proofs.YtddbccflcekdpaaGreatDoor
open Go.RowKit
set_option linter.unusedSimpArgs false
set_option linter.unusedVariables false
set_option maxRecDepth 100000 in
set_option maxHeartbeats 4000000 in
theorem Qk.quickTells_any (w:World) (A XA PA MA:Option Addr) (n c xn xc pn pc mn mc:Nat) (T0:List Rw.Row) (E0 P M:List Int) (hT:Tx.In A XA PA MA n c xn xc pn pc mn mc T0 E0 P M w) (s0:ByteArray) (hs0:s0.size≤maxLen) (hL:Nf.Laid w) :
 Calls Tryz.prog 4 #[.agg #[.slice A n c,.slice XA xn xc,.slice PA pn pc,.slice MA mn mc],.string s0] w fun e w'=>e=.returned (.bool true)∧Below w.heap.size w w':=by
 have HMADE:=hy' (fun W (hW:Below w.heap.size w W)=>zHl A XA PA MA n c xn xc pn pc mn mc T0 E0 P M 20 W (by decide) (hT.below hW) (Rw.Laid.next hL.1 hW));have HAW:=hy' (fun W (hW:Below w.heap.size w W)=>Qk.awake19 W (hL.next hW));obtain⟨wa,hwa⟩:∃wa,w.alloc (.cells #[.slice A n c,.slice XA xn xc,.slice PA pn pc,.slice MA mn mc] 27)=wa:=⟨_,rfl⟩;have hba:Below w.heap.size w wa:=by rw[←hwa];exact (Below.refl _ _).alloc (Nat.le_refl _) _
 have hat:Rw.At wa w.heap.size 27 [.slice A n c,.slice XA xn xc,.slice PA pn pc,.slice MA mn mc]:=by rw[←hwa];exact Rw.At.new w 27 [.slice A n c,.slice XA xn xc,.slice PA pn pc,.slice MA mn mc]
 have HWA:=hy' hwa;have HBA:=hy' hba;have HAT:=hy' hat;have HH:=hy' hL.2;have HCU:=hy' (fun W=>U.cut_any s0 100 W hs0);have HC2:=hy' (zSG s0 100);clear hwa hba hat hT hL hs0;go_enter Tryz.func4,Tryz.ntmps4;go_upto_region 1 with (fail)
 rw[HWA.o];go_wp2_with fail;refine (HAW.o wa HBA.o).mono ?_;rintro e w1 ⟨rfl,hb1⟩;have hat1:=HAT.o.below hb1;have HB1:=hy' (HBA.o.trans (hb1.mono HBA.o.size));have x0:=hat1.cell 0 rfl;have x1:=hat1.cell 1 rfl;have x2:=hat1.cell 2 rfl;have x3:=hat1.cell 3 rfl;have xl:=hat1.lt;clear hb1 hat1;go_wp2_with fail;refine (HMADE.o w1 HB1.o).mono ?_;rintro e w2 ⟨p,v2,T,E,S,l,Al,cl,rfl,his,hdo,hR,hown,hlc,hll,hap,hb2⟩;obtain⟨pb,rfl,hpbl⟩:=his.form;obtain⟨A2,c2,XA2,xc2,rfl,hdo2⟩:=id hdo;obtain⟨n2,hn2⟩:∃k,T.length=k:=⟨_,rfl⟩;obtain⟨xn2,hxn2⟩:∃k,E.length=k:=⟨_,rfl⟩;obtain⟨ln,hln⟩:∃k,l.length=k:=⟨_,rfl⟩;unfold zBs at hdo hap ⊢;rw[hn2,hxn2]at hdo ⊢;simp only[hn2,hxn2]at hap;rw[hln]at hown hll hap ⊢;obtain⟨w3,hw3⟩:∃w3,w2.alloc (.cells #[.slice A2 n2 c2,.slice XA2 xn2 xc2] 25)=w3:=⟨_,rfl⟩;have hb3:Below w2.heap.size w2 w3:=by rw[←hw3];exact (Below.refl _ _).alloc (Nat.le_refl _) _
 have hat3:Rw.At w3 w2.heap.size 25 [.slice A2 n2 c2,.slice XA2 xn2 xc2]:=by rw[←hw3];exact Rw.At.new w2 25 [.slice A2 n2 c2,.slice XA2 xn2 xc2]
 have HW3:=hy' hw3;have HB3:=hy' (HB1.o.trans ((hb2.trans (hb3.mono hb2.size)).mono HB1.o.size));have HT3:=hy' hat3;have HI3:=hy' (his.below hb3);have HD3:=hy' (hdo.below hb3);have HL3:=hy' (zA4 hown hb3 (Nat.le_refl _));have HR:=hy' hR;have HLC:=hy' hlc;have HLN:=hy' hln;have HN2:=hy' hn2;have HAP:Hy (∀w'',w3.grownBy w'' (Value.slice Al ln cl).ownBlock→Ud.Is w'' (.pointer (some ⟨pb,0,none⟩)) T S∧Md.Doc w'' (.agg #[.slice A2 n2 c2,.slice XA2 xn2 xc2]) T E):=hy' fun w'' hg=>hap w'' (zA0 (by rw[←hw3];exact World.grownBy_alloc _ _ _) hg)
 have HLB:=hy' (fun x (hx:x∈l)=>Tx.isC_i32 (hlc x hx));have z0:=hat3.cell 0 rfl;have z1:=hat3.cell 1 rfl;have zl:=hat3.lt;clear x0 x1 x2 x3 xl hap hdo hdo2 his hR hown hlc hln hn2 hxn2 hw3 hb3 hat3 hb2 HMADE HAW HWA HBA HAT;go_upto_region 4 with (fail)
 rw[HW3.o];have hok:=HR.o.ok;have HL33:=hy' (Sl.of_own HL3.o);have HH3:=hy' (HH.o.next HB3.o);have HQ0:=hy' (Below.refl w3.heap.size w3)
 have HEN:Hy (∀(A':Option Addr) (m c':Nat) (z:List Int) (sq:ByteArray) (W:World),z.length=m→m≤2000→(∀c∈z,C.isC c=true)→zA6 z=sq→Sl W W.heap.size A' (z.map (Value.int .i64))→Calls Tryz.prog 13 #[.slice A' m c'] W fun e w'=>e=.returned (.string sq)∧Below W.heap.size W w'):=hy' fun A' m c' z sq W hz hm hzl hs hA=>by
  have:=zG1 A' m c' z W hz (by omega) hA hzl;rw[hs]at this;exact this
 have HQC:Hy (∀(z:List Int) (s:ByteArray) (a:Int) (W:World),Below w3.heap.size w3 W→(∀c∈z,C.isC c=true)→z.length≤2000→zA6 z=s→zMx T S z=a→Calls Tryz.prog 23 #[.pointer (some ⟨pb,0,none⟩),.string s] W fun e w'=>e=.returned (.tuple #[.int .i64 a,.int .i64 0])∧Below W.heap.size W w'):=hy' fun z s a W hW hz hl hs ha=>by
  have:=Qk.C_chars _ T S W hok (HI3.o.below hW) (HH3.o.next hW) z hz (by omega);rw[hs,ha]at this;exact this
 have HST:Hy (∀(x:Int) (b:Bool) (W:World),Below w3.heap.size w3 W→C.isC x=true→Qk.set T S x=b→Calls Tryz.prog 25 #[.pointer (some ⟨pb,0,none⟩),.int .i32 x] W fun e w'=>e=.returned (.bool b)∧Below W.heap.size W w'):=hy' fun x b W hW hx hb=>by
  have:=Qk.settled_any _ T S x W hok (HI3.o.below hW) hx;rw[hb]at this;exact this
 obtain⟨y0,hy0⟩:∃y,zRP s0 100=y:=⟨_,rfl⟩;obtain⟨cs,r,hd⟩:=zRQ y0.data.toList
 have HCU3:Hy (∀W,Calls Tryz.prog 20 #[.string s0,.int .i64 100] W fun e w'=>e=.returned (.string y0)∧W=w'):=hy' fun W=>by
  have:=HCU.o W;rw[hy0]at this;exact this
 have hyl:y0.size≤100:=by have:=HC2.o;rw[hy0]at this;exact this
 have hcsl:cs.length≤100:=by
  have h1:=zFo cs;have h2:y0.size=(zA5 cs).length+r.length:=by rw[←zGs,hd.1,List.length_append]
  omega
 have HDE:Hy (∀W,Calls Tryz.prog 21 #[.string y0] W fun e w'=>∃A n c,e=.returned (.tuple #[.slice A n c,.int .i64 (zS1 cs r)])∧Below W.heap.size W w'):=hy' fun W=>by
  refine (zRs y0 W (by omega) cs r hd).mono ?_;rintro e w' ⟨A,c,rfl,_,hb⟩;exact⟨A,_,c,rfl,hb⟩
 have HBD:Hy (∀a q W,r=a::q→Below w3.heap.size w3 W→Calls Tryz.prog 22 #[.pointer (some ⟨pb,0,none⟩),.string y0] W fun e w'=>e=.returned (.tuple #[.int .i64 0,.int .i64 6])∧Below W.heap.size W w'):=hy' fun a q W hr hW=>by
  have:=Qk.D_any _ T S W hok (HI3.o.below hW) (HH3.o.next hW) y0 cs r (by omega) hd (by omega);rw[hr,if_neg (by simp)]at this;exact this
 have HBC:Hy (∀a q W,r=a::q→Below w3.heap.size w3 W→Calls Tryz.prog 23 #[.pointer (some ⟨pb,0,none⟩),.string y0] W fun e w'=>e=.returned (.tuple #[.int .i64 0,.int .i64 6])∧Below W.heap.size W w'):=hy' fun a q W hr hW=>by
  have:=Qk.C_any _ T S W hok (HI3.o.below hW) (HH3.o.next hW) y0 cs r (by omega) hd (by omega);rw[hr,if_neg (by simp)]at this;exact this
 obtain⟨Y,hY⟩:∃Y,Or.of (Md.cls T) l=Y:=⟨_,rfl⟩;have hYl:Y.length=ln:=by rw[←hY,zCA];exact HLN.o
 have HRO:Hy (∀W,Below w3.heap.size w3 W→Calls Tryz.prog 16 #[.agg #[.slice A2 n2 c2,.slice XA2 xn2 xc2],.slice Al ln cl] W fun e w'=>∃A'' c'',e=.returned (.slice A'' ln c'')∧Sl w' w'.heap.size A'' (Y.map (Value.int .i64))∧Below W.heap.size W w'):=hy' fun W hW=>by
  refine (zKo _ T E Al ln cl l W (by have:=HR.o.tl;omega) (HD3.o.below hW) HLN.o (by omega) (HL33.o.below hW hW.size)).mono ?_;rintro e w' ⟨A'',c'',rfl,ho,hb⟩;rw[hY,hYl]at ho ⊢;exact⟨A'',c'',rfl,Sl.of_own ho,hb⟩
 have hml:∀r∈T,r.2.2.length≤1000:=fun r hr=>by have:=(HR.o.rok r hr).2.2.1;omega
 have HNC:Hy (∀(A':Option Addr) (x:Int) (W:World),Below w3.heap.size w3 W→C.isC x=true→Sl W W.heap.size A' (([x]:List Int).map (Value.int .i64))→Calls Tryz.prog 24 #[.agg #[.slice A2 n2 c2,.slice XA2 xn2 xc2],.slice A' 1 1] W fun e w'=>∃(R:List Int) (n:Nat) (A'':Option Addr) (c'':Nat),Nc.chars T S [x]=R∧R.length=n∧e=.returned (.slice A'' n c'')∧Sl w' w'.heap.size A'' (R.map (Value.int .i64))∧Below W.heap.size W w'):=hy' fun A' x W hW hx hA=>by
  refine (Nc.rchars_any _ T E S A' 1 1 [x] W hok HR.o.mem (by have:=HR.o.tl;omega) (by have:=HR.o.el;omega) hml (HD3.o.below hW) rfl (by omega) (fun y hy=>by rw[List.mem_singleton]at hy;rw[hy];exact hx) hA).mono ?_;rintro e w' ⟨A'',c'',rfl,ho,hb⟩;exact⟨_,_,A'',c'',rfl,rfl,rfl,Sl.of_own ho,hb⟩
 have HFU:Hy (∀(x:Int) (W:World),Below w3.heap.size w3 W→C.isC x=true→Calls Tryz.prog 26 #[.agg #[.slice A2 n2 c2,.slice XA2 xn2 xc2],.int .i64 x] W fun e w'=>∃(A:Option Addr) (c m b o:Nat) (is:Bool),e=.returned (.tuple #[.slice A m c,.bool is])∧0<m∧A=some ⟨b,o,none⟩∧b<w'.heap.size∧w'.cell? ⟨b,o,none⟩=some (.int .i64 (Sp.head T x))∧Below W.heap.size W w'):=hy' fun x W hW hx=>by
  have hb:=Tx.isC_i32 hx;have:=zHB _ T E x W (by have:=HR.o.tl;omega) (HD3.o.below hW) hok.bd hml hb.1 hb.2;obtain⟨M,hM⟩:=zDA hok x;have hM2:(Md.full T x).getD []=Sp.head T x::M:=hM;refine this.mono ?_;rintro e w' ⟨A,c,rfl,hs,hb⟩;rw[hM2]at hs ⊢;obtain⟨b,o,rfl,hg,hc⟩:=hs (by rw[List.length_map,List.length_cons];omega);have hc0:=hc 0 (by rw[List.length_map,List.length_cons];omega);rw[Nat.add_zero]at hc0;exact⟨_,c,_,b,o,_,rfl,by rw[List.length_cons];omega,rfl,hg,hc0,hb⟩
 have HSE:Hy (∀(x:Int) W,Below w3.heap.size w3 W→C.isC x=true→Calls Tryz.prog 27 #[.pointer (some ⟨pb,0,none⟩),.int .i32 (Sp.head T x)] W fun e w'=>e=.returned (.bool (Nc.sec T S (Sp.head T x)))∧Below W.heap.size W w'):=hy' fun x W hW hx=>by
  have hbd:=Sp.head_bd hok hx;exact Ud.second_any _ T S _ W hok (HI3.o.below hW) hbd.1 hbd.2
 have HHB:=hy' (fun x (hx:C.isC x=true)=>Sp.head_bd hok hx);obtain⟨sl,hsl⟩:∃q,zA6 l=q:=⟨_,rfl⟩;obtain⟨tot,htot⟩:∃q,zMx T S l=q:=⟨_,rfl⟩;have HW:Hy ((l.zip Y).foldl (Qk.stp T S) 2=tot):=hy' (by rw[←hY,Qk.want hok,htot]);have HCL:=hy' (fun W hW=>HQC.o l sl tot W hW HLC.o (by rw[HLN.o];omega) hsl htot);have HSLE:=hy' hsl;have HYL:=hy' hYl;have hz3:=HT3.o.lt;clear hok hd hy0 hyl hcsl hY hYl hml hsl htot HL3 z0 z1 zl;go_wp2_with fail;refine (HCU3.o w3).mono ?_;rintro e w' ⟨rfl,rfl⟩;go_wp2_with fail;refine (HDE.o w3).mono ?_;rintro e q1 ⟨A4,n4,c4,rfl,hb⟩;have HQ1:=hy' hb;clear hb;obtain⟨at1,hat1⟩:∃q,zS1 cs r=q:=⟨_,rfl⟩;rw[hat1];have HAT1:=hy' hat1;clear hat1;go_upto_if 44 with (fail)
 go_cut [] (fun wx=>Below w3.heap.size w3 wx)
 case first =>
  have hat1:=HAT1.o;rcases hr:r with _|⟨a,q⟩
  · rw[hr]at hat1;have:zS1 cs [] = -1:=rfl;rw[this]at hat1;subst hat1;clear hr this;go_wp2_with fail;go_meet;exact HQ1.o
  rw[hr,zPp]at hat1;have ha:at1≥0:=by omega
  have HR2:=hy' hr;clear hr hat1;go_wp2_with fail;refine (HBD.o a q q1 HR2.o HQ1.o).mono ?_;rintro e q2 ⟨rfl,hb⟩;have HQ2:=hy' (HQ1.o.trans (hb.mono HQ1.o.size));clear hb;go_wp2_with fail;refine (HBC.o a q q2 HR2.o HQ2.o).mono ?_;rintro e q3 ⟨rfl,hb⟩;have HQ3:=hy' (HQ2.o.trans (hb.mono HQ2.o.size));clear hb;go_wp2_with fail;go_meet;exact HQ3.o
 obtain⟨q2,rfl⟩:∃q:World,q=wc:=⟨_,rfl⟩;have HQ2:=hy' hcut;have ht2:=HT3.o.below hcut;have z0:=ht2.cell 0 rfl;have z1:=ht2.cell 1 rfl;have zl:=ht2.lt;clear hcut ht2;go_wp2_with fail;refine (HRO.o q2 HQ2.o).mono ?_;rintro e q3 ⟨A5,c5,rfl,hs5,hb⟩;have HQ3:=hy' (HQ2.o.trans (hb.mono HQ2.o.size));have HS5:=hy' hs5;clear hb hs5 z0 z1 zl;go_wp2_with fail;go_loopw [15,17,18,19,20,21,22,76] (fun t _ _ _ _ _ _ i wr=>∃k:Nat,k≤ln∧i=.int .i64 k∧t=.int .i64 (((l.zip Y).take k).foldl (Qk.stp T S) 2)∧Below q3.heap.size q3 wr) (fun _ _ _ _ _ _ _ i _=>ln-(intOf i).toNat)
 case atStart=>exact⟨0,Nat.zero_le _,rfl,rfl,Below.refl _ _⟩
 obtain⟨k,hk,rfl,rfl,hbr⟩:=hrel;obtain⟨r0,rfl⟩:∃q:World,q=wr:=⟨_,rfl⟩;have HR0:=hy' (HQ3.o.trans (hbr.mono HQ3.o.size));have HRR:=hy' hbr;obtain⟨a,ha⟩:∃a,((l.zip Y).take k).foldl (Qk.stp T S) 2=a:=⟨_,rfl⟩;rw[ha]
 by_cases hlt:k<ln
 rotate_left
 · obtain rfl:k=ln:=by omega
   have kI:¬(k:Int)<k:=by omega
   have htk:(l.zip Y).take k=l.zip Y:=List.take_of_length_le (by rw[List.length_zip,HLN.o,HYL.o];omega);rw[htk,HW.o]at ha;subst ha;clear htk hbr;go_wp2_with fail;refine (HEN.o Al k cl l sl r0 HLN.o (by omega) HLC.o HSLE.o (HL33.o.below HR0.o HR0.o.size)).mono ?_;rintro e r1 ⟨rfl,hb⟩;have HR1:=hy' (HR0.o.trans (hb.mono HR0.o.size));clear hb;go_wp2_with fail;refine (HCL.o r1 HR1.o).mono ?_;rintro e r2 ⟨rfl,hb⟩;have HR2:=hy' (HR1.o.trans (hb.mono HR1.o.size));have HF:=hy' (HB3.o.trans (HR2.o.mono HB3.o.size));have hee:(tot == tot)=true:=by simp
   clear hb;go_wp2_with fail;go_ret;exact⟨by first|rfl|(simp;done),HF.o⟩
 obtain⟨x,hx⟩:∃x,l[k]?=some x:=⟨_,List.getElem?_eq_getElem (by rw[HLN.o];exact hlt)⟩;obtain⟨y,hy⟩:∃y,Y[k]?=some y:=⟨_,List.getElem?_eq_getElem (by rw[HYL.o];exact hlt)⟩;have hxm:=List.mem_of_getElem? hx;have hxc:=HLC.o x hxm;obtain⟨hx1,hx2⟩:=HLB.o x hxm
 have hst:((l.zip Y).take (k+1)).foldl (Qk.stp T S) 2=Qk.stp T S a (x,y):=by
  have hz:(l.zip Y)[k]?=some (x,y):=by rw[List.getElem?_zip_eq_some];exact⟨hx,hy⟩
  rw[List.take_add_one,hz,Option.toList_some,List.foldl_append,ha];rfl
 obtain⟨ab,ao,rfl,hab,hac⟩:=HL33.o (by rw[List.length_map,HLN.o];omega);have hc:=hac k (by rw[List.length_map,HLN.o];exact hlt);rw[List.getElem?_map,hx,Option.map_some,←(zAI HR0.o).1 _ _ hab]at hc;have hab2:=Nat.lt_of_lt_of_le hab HR0.o.size;obtain⟨yb,yo,rfl,hyb,hyc⟩:=HS5.o (by rw[List.length_map,HYL.o];omega);have hc5:=hyc k (by rw[List.length_map,HYL.o];exact hlt);rw[List.getElem?_map,hy,Option.map_some]at hc5;have HYC:Hy (∀W,Below q3.heap.size q3 W→W.cell? ⟨yb,yo+k,none⟩=some (.int .i64 y)∧yb<W.heap.size):=hy' fun W hW=>⟨((zAI hW).1 _ _ hyb).trans hc5,Nat.lt_of_lt_of_le hyb hW.size⟩
 have hw0:IntKind.i32.wrap x=x:=by rw[IntKind.wrap_i32];omega
 have kI:(k:Int)<ln:=by omega
 have k0:(0:Int)≤k:=by omega
 obtain⟨r1,hr1⟩:∃r1,r0.alloc (.cells #[.int .i64 x] 3)=r1:=⟨_,rfl⟩;have hb1:Below r0.heap.size r0 r1:=by rw[←hr1];exact (Below.refl _ _).alloc (Nat.le_refl _) _
 have hsl1:Sl r1 r1.heap.size (some ⟨r0.heap.size,0,none⟩) (([x]:List Int).map (Value.int .i64)):=zCj rfl 3 (0,0) (by rw[←hr1];exact heap_alloc_new r0 _);have HR1:=hy' (HR0.o.trans (hb1.mono HR0.o.size));have HRR1:=hy' (HRR.o.trans (hb1.mono HRR.o.size));have HCH:=hy' (HNC.o _ x r1 HR1.o hxc hsl1);have HA1:=hy' hr1;have HST2:=hy' hst;have HXC:=hy' hxc;have ht0:=HT3.o.below HR0.o;have z0:=ht0.cell 0 rfl;have z1:=ht0.cell 1 rfl;have zl:=ht0.lt;clear hx hy hac hyc hyb hbr hb1 hsl1 hr1 hst hxm hxc ha ht0 hc5 hab;go_wp2_with fail;rw[HA1.o];refine HCH.o.mono ?_;rintro e r2 ⟨R,n,A9,c9,hR,hn,rfl,hs9,hb⟩;have HR2:=hy' (HR1.o.trans (hb.mono HR1.o.size));have HRR2:=hy' (HRR1.o.trans (hb.mono HRR1.o.size));have HS9:=hy' hs9;obtain⟨b,hbb⟩:∃b,Qk.set T S x=b:=⟨_,rfl⟩;have hbR:decide (R=[x])=b:=by rw[←hbb,←hR];rfl
 have HBB:=hy' hbb;have HBR:=hy' hbR;have HN:=hy' hn;clear hb hs9 hR hbb hbR hn z0 z1 zl hc hab2 HCH HA1;go_upto_region 19 with (fail)
 go_cut [20] (fun s wx=>s=.bool b∧wx=r2)
 case first =>
  have hbR:=HBR.o
  by_cases hn1:n=1
  · subst hn1
    obtain⟨u,hu⟩:∃u,R=[u]:=by
     match R,HN.o with
     | [u],_=>exact⟨u,rfl⟩
    obtain⟨gb,go',rfl,hgb,hgc⟩:=HS9.o (by rw[List.length_map,HN.o];omega);have hc0:=hgc 0 (by rw[List.length_map,HN.o];omega);rw[hu,Nat.add_zero]at hc0;have hc1:r2.cell? ⟨gb,go',none⟩=some (.int .i64 u):=hc0
    have hux:(u == x)=b:=by
     rw[←hbR,hu,Bool.eq_iff_iff,decide_eq_true_iff,beq_iff_eq];exact⟨fun e=>by rw[e],fun e=>(List.cons.inj e).1⟩
    clear hgc hc0 hbR hu;cases b
    · go_wp2_with fail;go_meet;exact⟨rfl,rfl⟩
    go_wp2_with fail;go_meet;exact⟨rfl,rfl⟩
  have hn2:((n:Int) == 1)=false:=by simp;omega
  have hbf:b=false:=by
   rw[←hbR];refine decide_eq_false fun e=>hn1 ?_
   rw[←HN.o,e];rfl
  subst hbf;clear hbR hn1;go_wp2_with fail;go_meet;exact⟨rfl,rfl⟩
 obtain⟨rfl,hwc⟩:=hcut;obtain rfl:r2=wc:=hwc.symm;have hbn:(b != b)=false:=by cases b <;> rfl
 go_wp2_with fail;refine (HST.o x b r2 HR2.o HXC.o HBB.o).mono ?_;rintro e r3 ⟨rfl,hb⟩;have HR3:=hy' (HR2.o.trans (hb.mono HR2.o.size));have HRR3:=hy' (HRR2.o.trans (hb.mono HRR2.o.size));obtain⟨w1',hw1'⟩:∃v,(if b=true∧y=x then a else 0)=v:=⟨_,rfl⟩;have HW1:=hy' hw1';obtain⟨hyc,hyl⟩:=HYC.o r3 HRR3.o;clear hb hw1';go_upto_region 22 with (fail)
 clear hbn;obtain⟨tt,htt⟩:∃v,(!b||(y != x))=v:=⟨_,rfl⟩;have HTT:=hy' htt;clear htt;go_cut [110] (fun s wx=>s=.bool tt∧wx=r3)
 case first =>
  have htt:=HTT.o;cases b
  · simp only[Bool.not_false,Bool.true_or]at htt;subst htt;go_wp2_with fail;go_meet;exact⟨rfl,rfl⟩
  simp only[Bool.not_true,Bool.false_or]at htt;cases tt
  · go_wp2_with fail;go_meet;exact⟨rfl,rfl⟩
  go_wp2_with fail;go_meet;exact⟨rfl,rfl⟩
 obtain⟨rfl,hwc⟩:=hcut;obtain rfl:r3=wc:=hwc.symm;clear hyc hyl;go_upto_if 110 with (fail)
 go_cut [15] (fun s wx=>s=.int .i64 w1'∧wx=r3)
 case first =>
  have htt:=HTT.o;have h1:=HW1.o;cases tt
  · have hbt:b=true∧y=x:=by
     cases b
     · simp at htt
     exact⟨rfl,by simpa using htt⟩
    rw[if_pos hbt]at h1;subst h1;clear htt hbt;go_wp2_with fail;go_meet;exact⟨rfl,rfl⟩
  have hbt:¬(b=true∧y=x):=by
   rintro⟨rfl,rfl⟩;simp at htt
  rw[if_neg hbt]at h1;subst h1;clear htt hbt;go_wp2_with fail;go_meet;exact⟨rfl,rfl⟩
 obtain⟨rfl,hwc⟩:=hcut;obtain rfl:r3=wc:=hwc.symm;have ht3:=HT3.o.below HR3.o;have z0:=ht3.cell 0 rfl;have z1:=ht3.cell 1 rfl;have zl:=ht3.lt;clear ht3;go_wp2_with fail;refine (HFU.o x r3 HR3.o HXC.o).mono ?_;rintro e r4 ⟨A7,c7,m7,b7,o7,is7,rfl,hm7,rfl,hb7,hc7,hb⟩;have HR4:=hy' (HR3.o.trans (hb.mono HR3.o.size));have HRR4:=hy' (HRR3.o.trans (hb.mono HRR3.o.size));obtain⟨z,hz⟩:∃z,Nc.sec T S (Sp.head T x)=z:=⟨_,rfl⟩;obtain⟨w2',hw2'⟩:∃v,(if w1'=2∧z=true then 1 else w1')=v:=⟨_,rfl⟩;have HW2:=hy' hw2';have HZ:=hy' hz;have HSX:=HSE.o x r4 HR4.o HXC.o;obtain⟨hd1,hd2⟩:=HHB.o x HXC.o;obtain⟨hd,hhd⟩:∃h,Sp.head T x=h:=⟨_,rfl⟩;rw[hz]at HSX;rw[hhd]at hd1 hd2 hc7 HSX;have hw7:IntKind.i32.wrap hd=hd:=by rw[IntKind.wrap_i32];omega
 have HSX:=hy' HSX;have hm7':(0:Int)<m7:=by omega
 clear hb hw2' hz hhd hd1 hd2 z0 z1 zl;go_upto_region 25 with (fail)
 go_cut [126] (fun s wx=>s=.bool (decide (w1'=2)&&z)∧Below r4.heap.size r4 wx)
 case first =>
  by_cases h2:w1'=2
  · subst h2;go_wp2_with fail;refine HSX.o.mono ?_;rintro e r5 ⟨rfl,hb⟩;have HR5:=hy' hb;clear hb;go_wp2_with fail;go_meet;exact⟨by first|rfl|(simp;done),HR5.o⟩
  have h4:(w1' == 2)=false:=by simpa using h2
  have h5:(decide (w1'=2)&&z)=false:=by rw[decide_eq_false h2];rfl
  have H5:=hy' h5;clear h2 h5;go_wp2_with fail;go_meet;exact⟨by rw[H5.o],Below.refl _ _⟩
 obtain⟨rfl,hbc⟩:=hcut;obtain⟨r5,rfl⟩:∃q:World,q=wc:=⟨_,rfl⟩;have HR5:=hy' hbc;clear hbc hm7 hm7' hb7 hc7 hw7;obtain⟨tz,htz⟩:∃v,(decide (w1'=2)&&z)=v:=⟨_,rfl⟩;rw[htz];have HTZ:=hy' htz;clear htz;have HR6:=hy' (HRR4.o.trans (HR5.o.mono HRR4.o.size))
 have hfin:Qk.stp T S a (x,y)=w2':=by
  rw[←HW2.o,←HW1.o];unfold Qk.stp;rw[HBB.o,HZ.o]
  by_cases hq:b=true∧y=x
  · simp only[hq,and_self,if_true]
  simp only[hq,if_false,show ¬((0:Int)=2) by decide,false_and]
 have HFIN:=hy' (HST2.o.trans hfin);have htz:=HTZ.o;have h3:=HW2.o;clear hfin;cases tz
 · rw[if_neg (fun h=>by rw[decide_eq_true h.1,h.2]at htz;cases htz)]at h3;subst h3;clear htz;go_wp2_with fail;go_roundw
   case rel=>exact⟨k+1,by omega,by first|rfl|go_num,by rw[HFIN.o],HR6.o⟩
   simp[intOf];omega
 rw[if_pos (by rw[Bool.and_eq_true,decide_eq_true_iff]at htz;exact htz)]at h3;subst h3;clear htz;go_wp2_with fail;go_roundw
 case rel=>exact⟨k+1,by omega,by first|rfl|go_num,by rw[HFIN.o],HR6.o⟩
 simp[intOf];omega
end Go.Proofs.YtddbccflcekdpaaGreatDoor
