/- The law CedillaQuick, by walking its text. -/
import Derived.Test.YtddbccflcekdpaaGreatDoorQkText
import Derived.Test.YtddbccflcekdpaaGreatDoorQkParts
import Derived.Test.YtddbccflcekdpaaGreatDoorSpParts
import Derived.Test.YtddbccflcekdpaaGreatDoorNfLaid
import Derived.Test.YtddbccflcekdpaaGreatDoorSlCut
import Derived.Test.YtddbccflcekdpaaGreatDoorMdTable
import Derived.BigQuiet
import Derived.Deep.DeepCutAuto
namespace Go.Proofs.YtddbccflcekdpaaGreatDoor
open Go.RowKit
set_option linter.unusedSimpArgs false
set_option linter.unusedVariables false
set_option maxRecDepth 100000 in
set_option maxHeartbeats 4000000 in
theorem Tp.cedillaQuick_any (w:World) (A XA PA MA:Option Addr) (n c xn xc pn pc mn mc:Nat) (T0:List Rw.Row) (E0 P M:List Int) (hT:Tx.In A XA PA MA n c xn xc pn pc mn mc T0 E0 P M w) (hL:Nf.Laid w) :
 Calls Tryz.prog 9 #[.agg #[.slice A n c,.slice XA xn xc,.slice PA pn pc,.slice MA mn mc]] w fun e w'=>e=.returned (.bool true)∧Below w.heap.size w w':=by
 have HMADE:=hy' (fun W (hW:Below w.heap.size w W)=>zHl A XA PA MA n c xn xc pn pc mn mc T0 E0 P M 20 W (by decide) (hT.below hW) (Rw.Laid.next hL.1 hW));obtain⟨wa,hwa⟩:∃wa,w.alloc (.cells #[.slice A n c,.slice XA xn xc,.slice PA pn pc,.slice MA mn mc] 27)=wa:=⟨_,rfl⟩;have hba:Below w.heap.size w wa:=by rw[←hwa];exact (Below.refl _ _).alloc (Nat.le_refl _) _
 have hat:Rw.At wa w.heap.size 27 [.slice A n c,.slice XA xn xc,.slice PA pn pc,.slice MA mn mc]:=by rw[←hwa];exact Rw.At.new w 27 [.slice A n c,.slice XA xn xc,.slice PA pn pc,.slice MA mn mc]
 have HWA:=hy' hwa;have HBA:=hy' hba;have HAT:=hy' hat;have HH:=hy' hL.2;clear hwa hba hat hT hL;go_enter Tryz.func9,Tryz.ntmps9;go_upto_region 1 with (fail)
 rw[HWA.o];obtain⟨w1,hw1⟩:∃w1,wa=w1:=⟨_,rfl⟩;have hat1:=HAT.o;rw[hw1]at hat1;have HB1:=hy' (show Below w.heap.size w w1 by rw[←hw1];exact HBA.o);rw[hw1];have x0:=hat1.cell 0 rfl;have x1:=hat1.cell 1 rfl;have x2:=hat1.cell 2 rfl;have x3:=hat1.cell 3 rfl;have xl:=hat1.lt;clear hw1 hat1;go_wp2_with fail;refine (HMADE.o w1 HB1.o).mono ?_;rintro e w2 ⟨p,v2,T,E,S,l,Al,cl,rfl,his,hdo,hR,hown,hlc,hll,hap,hb2⟩;obtain⟨pb,rfl,hpbl⟩:=his.form;obtain⟨A2,c2,XA2,xc2,rfl,hdo2⟩:=id hdo;obtain⟨n2,hn2⟩:∃k,T.length=k:=⟨_,rfl⟩;obtain⟨xn2,hxn2⟩:∃k,E.length=k:=⟨_,rfl⟩;obtain⟨ln,hln⟩:∃k,l.length=k:=⟨_,rfl⟩;unfold zBs at hdo hap ⊢;rw[hn2,hxn2]at hdo ⊢;simp only[hn2,hxn2]at hap;rw[hln]at hown hll hap ⊢;obtain⟨w3,hw3⟩:∃w3,w2.alloc (.cells #[.slice A2 n2 c2,.slice XA2 xn2 xc2] 25)=w3:=⟨_,rfl⟩;have hb3:Below w2.heap.size w2 w3:=by rw[←hw3];exact (Below.refl _ _).alloc (Nat.le_refl _) _
 have hat3:Rw.At w3 w2.heap.size 25 [.slice A2 n2 c2,.slice XA2 xn2 xc2]:=by rw[←hw3];exact Rw.At.new w2 25 [.slice A2 n2 c2,.slice XA2 xn2 xc2]
 have HW3:=hy' hw3;have HB3:=hy' (HB1.o.trans ((hb2.trans (hb3.mono hb2.size)).mono HB1.o.size));have HT3:=hy' hat3;have HI3:=hy' (his.below hb3);have HD3:=hy' (hdo.below hb3);have HL3:=hy' (zA4 hown hb3 (Nat.le_refl _));have HR:=hy' hR;have HLC:=hy' hlc;have HLN:=hy' hln;have HN2:=hy' hn2;have HAP:Hy (∀w'',w3.grownBy w'' (Value.slice Al ln cl).ownBlock→Ud.Is w'' (.pointer (some ⟨pb,0,none⟩)) T S∧Md.Doc w'' (.agg #[.slice A2 n2 c2,.slice XA2 xn2 xc2]) T E):=hy' fun w'' hg=>hap w'' (zA0 (by rw[←hw3];exact World.grownBy_alloc _ _ _) hg)
 have HLB:=hy' (fun x (hx:x∈l)=>Tx.isC_i32 (hlc x hx));have z0:=hat3.cell 0 rfl;have z1:=hat3.cell 1 rfl;have zl:=hat3.lt;clear x0 x1 x2 x3 xl hap hdo hdo2 his hR hown hlc hln hn2 hxn2 hw3 hb3 hat3 hb2 HMADE HWA HBA HAT;go_upto_region 2 with (fail)
 rw[HW3.o];have hok:=HR.o.ok;have HL33:=hy' (Sl.of_own HL3.o);have HH3:=hy' (HH.o.next HB3.o);have HQ0:=hy' (Below.refl w3.heap.size w3)
 have HEN:Hy (∀(A':Option Addr) (m c':Nat) (z:List Int) (sq:ByteArray) (W:World),z.length=m→m≤2000→(∀c∈z,C.isC c=true)→zA6 z=sq→Sl W W.heap.size A' (z.map (Value.int .i64))→Calls Tryz.prog 13 #[.slice A' m c'] W fun e w'=>e=.returned (.string sq)∧Below W.heap.size W w'):=hy' fun A' m c' z sq W hz hm hzl hs hA=>by
  have:=zG1 A' m c' z W hz (by omega) hA hzl;rw[hs]at this;exact this
 have HOD:Hy (∀(z:List Int) (s r:ByteArray) (W:World),Below w3.heap.size w3 W→(∀c∈z,C.isC c=true)→(Nf.fl T z).length≤1024→zA6 z=s→zA6 (Nf.chars T z)=r→Calls Tryz.prog 14 #[.pointer (some ⟨pb,0,none⟩),.string s] W fun e w'=>e=.returned (.tuple #[.string r,.int .i64 0])∧Below W.heap.size W w'):=hy' fun z s r W hW hz hf hs hr=>by
  have:=Nf.of_chars _ T S z W hok (HI3.o.below hW) (HH3.o.next hW) hz (by have:=zBE hok z;omega) hf;rw[hs,hr]at this;exact this
 have HOC:Hy (∀(z:List Int) (s r:ByteArray) (W:World),Below w3.heap.size w3 W→(∀c∈z,C.isC c=true)→(Nf.fl T z).length≤1024→zA6 z=s→zA6 (Nc.chars T S z)=r→Calls Tryz.prog 31 #[.pointer (some ⟨pb,0,none⟩),.string s] W fun e w'=>e=.returned (.tuple #[.string r,.int .i64 0])∧Below W.heap.size W w'):=hy' fun z s r W hW hz hf hs hr=>by
  have:=Nc.of_chars _ T S z W hok (HI3.o.below hW) (HH3.o.next hW) hz (by have:=zBE hok z;omega) hf;rw[hs,hr]at this;exact this
 have HQD:Hy (∀(z:List Int) (s:ByteArray) (a:Int) (W:World),Below w3.heap.size w3 W→(∀c∈z,C.isC c=true)→z.length≤2000→zA6 z=s→Qk.D T z=a→Calls Tryz.prog 22 #[.pointer (some ⟨pb,0,none⟩),.string s] W fun e w'=>e=.returned (.tuple #[.int .i64 a,.int .i64 0])∧Below W.heap.size W w'):=hy' fun z s a W hW hz hl hs ha=>by
  have:=Qk.D_chars _ T S W hok (HI3.o.below hW) (HH3.o.next hW) z hz (by omega);rw[hs,ha]at this;exact this
 have HQC:Hy (∀(z:List Int) (s:ByteArray) (a:Int) (W:World),Below w3.heap.size w3 W→(∀c∈z,C.isC c=true)→z.length≤2000→zA6 z=s→zMx T S z=a→Calls Tryz.prog 23 #[.pointer (some ⟨pb,0,none⟩),.string s] W fun e w'=>e=.returned (.tuple #[.int .i64 a,.int .i64 0])∧Below W.heap.size W w'):=hy' fun z s a W hW hz hl hs ha=>by
  have:=Qk.C_chars _ T S W hok (HI3.o.below hW) (HH3.o.next hW) z hz (by omega);rw[hs,ha]at this;exact this
 have hfl:(Nf.fl T l).length≤1024:=zFs hok (by rw[HLN.o];omega);obtain⟨R,hR⟩:∃R,Nc.chars T S l=R:=⟨_,rfl⟩;obtain⟨Z,hZ⟩:∃Z,Nf.chars T l=Z:=⟨_,rfl⟩;have hzc:∀c∈Z,C.isC c=true:=by rw[←hZ];exact Nf.chars_isC hok HLC.o
 have hrc:∀c∈R,C.isC c=true:=by rw[←hR];exact Nc.chars_isC hok HLC.o
 have hzl:Z.length≤1024:=by rw[←hZ,Nf.chars_len];exact hfl
 have hrl:R.length≤1024:=by rw[←hR];exact Nat.le_trans (Nc.chars_le hok l) hfl
 have hD2:Qk.D T Z=2:=by rw[Qk.D_eq hok,if_pos (by rw[←hZ];exact Nf.chars_chars hok l)]
 obtain⟨q,hq⟩:∃q,zMx T S R=q:=⟨_,rfl⟩
 have hq0:(q == 0)=false:=by
  have:=Qk.no hok l;rw[hR,hq]at this;simpa using this
 obtain⟨tot,htot⟩:∃q,zMx T S l=q:=⟨_,rfl⟩;obtain⟨p,hp⟩:∃p,zEr T S=p:=⟨_,rfl⟩;obtain⟨L,hL⟩:∃q,Sp.cut p l=q:=⟨_,rfl⟩;obtain⟨pn,hpn⟩:∃q,L.length=q:=⟨_,rfl⟩;have hW:L.foldl (fun a u=>min a (zMx T S u)) 2=tot:=by rw[←hL,←hp,←Qk.parts hok l,htot]
 have hLf:L.flatten=l:=by rw[←hL];exact Sp.cut_flat p l
 have hLm:∀u∈L,∀c∈u,C.isC c=true:=fun u hu c hc=>HLC.o c (by rw[←hLf];exact List.mem_flatten.2 ⟨u,hu,hc⟩)
 have hLu:∀u∈L,u.length≤30:=fun u hu=>by
  have h1:∀(L:List (List Int)),u∈L→u.length≤L.flatten.length:=by
   intro L
   induction L with
   | nil=>intro h;cases h
   | cons v L ih =>
     intro h;rw[List.flatten_cons,List.length_append];rcases List.mem_cons.1 h with rfl|h
     · omega
     have:=ih h;omega
  have:=h1 L hu;rw[hLf,HLN.o]at this;omega
 have hpl:pn≤30:=by
  have h2:∀M:List (List Int),(∀u∈M,u≠[])→M.length≤M.flatten.length:=by
   intro M
   induction M with
   | nil=>intro _;exact Nat.le_refl _
   | cons u M ih =>
     intro h;have h3:=ih fun x hx=>h x (List.mem_cons_of_mem _ hx)
     have h4:0<u.length:=List.length_pos_iff.2 (h u List.mem_cons_self);rw[List.flatten_cons,List.length_append,List.length_cons];omega
  have:=h2 _ (Sp.cut_ne p l);rw[Sp.cut_flat,hL,hpn]at this;rw[HLN.o]at this;omega
 obtain⟨sl,hsl⟩:∃q,zA6 l=q:=⟨_,rfl⟩;obtain⟨sr,hsr⟩:∃q,zA6 R=q:=⟨_,rfl⟩;obtain⟨sz,hsz⟩:∃q,zA6 Z=q:=⟨_,rfl⟩
 have HPA:Hy (∀W,Below w3.heap.size w3 W→Calls Tryz.prog 32 #[.pointer (some ⟨pb,0,none⟩),.string sl] W fun e w'=>∃A c,e=.returned (.tuple #[.slice A pn c,.int .i64 0])∧Sl w' w'.heap.size A (Sp.vs L)∧Below W.heap.size W w'):=hy' fun W hW=>by
  have:=Sp.parts_any _ T S sl l W hok (HI3.o.below hW) (HH3.o.next hW) (by rw[←hsl,zCe HLC.o]) HLC.o (by rw[HLN.o];omega);unfold Sp.RetParts at this;rw[hp,hL,hpn]at this;refine this.mono ?_;rintro e w' ⟨A,c,rfl,ho,hb⟩;exact⟨A,c,rfl,Sl.of_own ho,hb⟩
 have H1:=hy' (fun W hW=>HOD.o l sl sz W hW HLC.o hfl hsl (by rw[hZ,hsz]));have H2:=hy' (fun W hW=>HOC.o l sl sr W hW HLC.o hfl hsl (by rw[hR,hsr]));have H3:=hy' (fun W hW=>HQD.o Z sz 2 W hW hzc (by omega) hsz hD2);have H4:=hy' (fun W hW=>HQC.o R sr q W hW hrc (by omega) hsr hq);have H5:=hy' (fun W hW=>HQC.o l sl tot W hW HLC.o (by rw[HLN.o];omega) hsl htot);have HCB:=hy' (fun u=>Qk.C_bd (T:=T) (S:=S) u);have HSLE:=hy' hsl;have HPN:=hy' hpn;have HW:=hy' hW;have HLM:=hy' hLm;have HLU:=hy' hLu;clear hok hfl hR hZ hzc hrc hzl hrl hD2 hq htot hp hL hpn hW hLf hLm hLu hsl hsr hsz HL3 z0 z1 zl;go_wp2_with fail;refine (HEN.o Al ln cl l sl w3 HLN.o (by omega) HLC.o HSLE.o HL33.o).mono ?_;rintro e q1 ⟨rfl,hb⟩;have HQ1:=hy' (HQ0.o.trans (hb.mono HQ0.o.size));clear hb;go_wp2_with fail;refine (H1.o q1 HQ1.o).mono ?_;rintro e q2 ⟨rfl,hb⟩;have HQ2:=hy' (HQ1.o.trans (hb.mono HQ1.o.size));clear hb;go_wp2_with fail;refine (H2.o q2 HQ2.o).mono ?_;rintro e q3 ⟨rfl,hb⟩;have HQ3:=hy' (HQ2.o.trans (hb.mono HQ2.o.size));clear hb;go_wp2_with fail;refine (H3.o q3 HQ3.o).mono ?_;rintro e q4 ⟨rfl,hb⟩;have HQ4:=hy' (HQ3.o.trans (hb.mono HQ3.o.size));clear hb;go_wp2_with fail;refine (H4.o q4 HQ4.o).mono ?_;rintro e q5 ⟨rfl,hb⟩;have HQ5:=hy' (HQ4.o.trans (hb.mono HQ4.o.size));clear hb;go_wp2_with fail;refine (HPA.o q5 HQ5.o).mono ?_;rintro e q6 ⟨A6,c6,rfl,hs6,hb⟩;have HQ6:=hy' (HQ5.o.trans (hb.mono HQ5.o.size));clear hb;have HS6:=hy' hs6;clear hs6 hq0;go_wp2_with fail;go_loopw [18,20,21,22,90] (fun t _ _ _ i wr=>∃k:Nat,k≤pn∧i=.int .i64 k∧t=.int .i64 ((L.take k).foldl (fun a u=>min a (zMx T S u)) 2)∧Below q6.heap.size q6 wr) (fun _ _ _ _ i _=>pn-(intOf i).toNat)
 case atStart=>exact⟨0,Nat.zero_le _,rfl,rfl,Below.refl _ _⟩
 obtain⟨k,hk,rfl,rfl,hbr⟩:=hrel;obtain⟨r0,rfl⟩:∃q:World,q=wr:=⟨_,rfl⟩;have HR0:=hy' (HQ6.o.trans (hbr.mono HQ6.o.size));have HRR:=hy' hbr;obtain⟨a,ha⟩:∃a,(L.take k).foldl (fun a u=>min a (zMx T S u)) 2=a:=⟨_,rfl⟩;rw[ha]
 by_cases hlt:k<pn
 rotate_left
 · obtain rfl:k=pn:=by omega
   have kI:¬(k:Int)<k:=by omega
   have htk:L.take k=L:=List.take_of_length_le (by rw[HPN.o];exact Nat.le_refl _);rw[htk,HW.o]at ha;subst ha;clear htk hbr;go_wp2_with fail;refine (H5.o r0 HR0.o).mono ?_;rintro e r1 ⟨rfl,hb⟩;have HF:=hy' (HB3.o.trans ((HR0.o.trans (hb.mono HR0.o.size)).mono HB3.o.size));have hee:(tot == tot)=true:=by simp
   clear hb;go_wp2_with fail;go_ret;exact⟨by first|rfl|(simp;done),HF.o⟩
 obtain⟨u,hu⟩:∃u,L[k]?=some u:=⟨_,List.getElem?_eq_getElem (by rw[HPN.o];exact hlt)⟩;have hum:=List.mem_of_getElem? hu;obtain⟨b5,o5,rfl,hb5,hc5⟩:=HS6.o (by unfold Sp.vs;rw[List.length_map,HPN.o];omega);have hc:=hc5 k (by unfold Sp.vs;rw[List.length_map,HPN.o];exact hlt);have hvk:(Sp.vs L)[k]?=some (.string (zA6 u)):=by unfold Sp.vs;rw[List.getElem?_map,hu];rfl
 rw[hvk,←(zAI hbr).1 _ _ hb5]at hc;have hg5:=Nat.lt_of_lt_of_le hb5 hbr.size;obtain⟨su,hsu⟩:∃q,zA6 u=q:=⟨_,rfl⟩;obtain⟨cu,hcu⟩:∃q,zMx T S u=q:=⟨_,rfl⟩;rw[hsu]at hc;have HU:=HQC.o u su cu r0 HR0.o (HLM.o u hum) (by have:=HLU.o u hum;omega) hsu hcu;obtain⟨m,hm⟩:∃m,min a cu=m:=⟨_,rfl⟩
 have hst:(L.take (k+1)).foldl (fun a u=>min a (zMx T S u)) 2=m:=by
  rw[List.take_add_one,hu,Option.toList_some,List.foldl_append,ha,←hm,←hcu];rfl
 have HST:=hy' hst;have HM:=hy' hm;have HU:=hy' HU;have kI:(k:Int)<pn:=by omega
 have k0:(0:Int)≤k:=by omega
 clear hu hum hc5 hvk hsu hcu hm hst ha hb5 hbr;go_wp2_with fail;refine HU.o.mono ?_;rintro e r1 ⟨rfl,hb⟩;have HRR1:=hy' (HRR.o.trans (hb.mono HRR.o.size));have hm:=HM.o;clear hb hc hg5;go_wp2_with fail;exact⟨⟨k+1,by omega,by first|rfl|go_num,by rw[HST.o],HRR1.o⟩,by simp[intOf];omega⟩
end Go.Proofs.YtddbccflcekdpaaGreatDoor
