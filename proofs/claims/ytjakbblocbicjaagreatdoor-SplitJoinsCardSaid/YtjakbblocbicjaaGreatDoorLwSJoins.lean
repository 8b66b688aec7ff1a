/- The law SplitJoins, by walking its text. -/
import Derived.Test.YtjakbblocbicjaaGreatDoorSpAwake
import Derived.Test.YtjakbblocbicjaaGreatDoorTxSame
import Derived.Test.YtjakbblocbicjaaGreatDoorSlCut
import Derived.Test.YtjakbblocbicjaaGreatDoorMdTable
import Derived.BigQuiet
import Derived.Deep.DeepCutAuto
import Derived.Deep.CutBlock
namespace Go.Proofs.YtjakbblocbicjaaGreatDoor
open Go.RowKit
set_option linter.unusedSimpArgs false
set_option linter.unusedVariables false
set_option maxRecDepth 100000 in
set_option maxHeartbeats 4000000 in
theorem Sp.splitJoins_any (w:World) (A XA PA MA:Option Addr) (n c xn xc pn pc mn mc:Nat) (T0:List Rw.Row) (E0 P M:List Int) (hT:Tx.In A XA PA MA n c xn xc pn pc mn mc T0 E0 P M w) (at':Int) (ha1 : -9223372036854775808≤at') (ha2:at'≤9223372036854775807) (hL:Nf.Laid w) :
 Calls Tryz.prog 5 #[.agg #[.slice A n c,.slice XA xn xc,.slice PA pn pc,.slice MA mn mc],.int .i64 at'] w fun e w'=>e=.returned (.bool true)∧Below w.heap.size w w':=by
 have HMADE:=hy' (fun W (hW:Below w.heap.size w W)=>zFx A XA PA MA n c xn xc pn pc mn mc T0 E0 P M 30 W (by decide) (hT.below hW) (Rw.Laid.next hL.1 hW));have HAW:=hy' (fun W (hW:Below w.heap.size w W)=>Sp.awake20 W (hL.next hW));obtain⟨wa,hwa⟩:∃wa,w.alloc (.cells #[.slice A n c,.slice XA xn xc,.slice PA pn pc,.slice MA mn mc] 27)=wa:=⟨_,rfl⟩;have hba:Below w.heap.size w wa:=by rw[←hwa];exact (Below.refl _ _).alloc (Nat.le_refl _) _
 have hat:Rw.At wa w.heap.size 27 [.slice A n c,.slice XA xn xc,.slice PA pn pc,.slice MA mn mc]:=by rw[←hwa];exact Rw.At.new w 27 [.slice A n c,.slice XA xn xc,.slice PA pn pc,.slice MA mn mc]
 have HWA:=hy' hwa;have HBA:=hy' hba;have HAT:=hy' hat;have HH:=hy' hL.2;clear hwa hba hat hT hL;go_enter Tryz.func5,Tryz.ntmps5;go_upto_region 1 with (fail)
 rw[HWA.o];go_wp2_with fail;refine (HAW.o wa HBA.o).mono ?_;rintro e w1 ⟨rfl,hb1⟩;have hat1:=HAT.o.below hb1;have HB1:=hy' (HBA.o.trans (hb1.mono HBA.o.size));have x0:=hat1.cell 0 rfl;have x1:=hat1.cell 1 rfl;have x2:=hat1.cell 2 rfl;have x3:=hat1.cell 3 rfl;have xl:=hat1.lt;clear hb1 hat1;go_wp2_with fail;refine (HMADE.o w1 HB1.o).mono ?_;rintro e w2 ⟨p,v2,T,E,S,l,Al,cl,rfl,his,hdo,hR,hown,hlc,hll,hap,hb2⟩;obtain⟨pb,rfl,hpbl⟩:=his.form;obtain⟨A2,c2,XA2,xc2,rfl,hdo2⟩:=id hdo;obtain⟨n2,hn2⟩:∃k,T.length=k:=⟨_,rfl⟩;obtain⟨xn2,hxn2⟩:∃k,E.length=k:=⟨_,rfl⟩;obtain⟨ln,hln⟩:∃k,l.length=k:=⟨_,rfl⟩;unfold zAX at hdo hap ⊢;rw[hn2,hxn2]at hdo ⊢;simp only[hn2,hxn2]at hap;rw[hln]at hown hll hap ⊢;obtain⟨w3,hw3⟩:∃w3,w2.alloc (.cells #[.slice A2 n2 c2,.slice XA2 xn2 xc2] 25)=w3:=⟨_,rfl⟩;have hb3:Below w2.heap.size w2 w3:=by rw[←hw3];exact (Below.refl _ _).alloc (Nat.le_refl _) _
 have hat3:Rw.At w3 w2.heap.size 25 [.slice A2 n2 c2,.slice XA2 xn2 xc2]:=by rw[←hw3];exact Rw.At.new w2 25 [.slice A2 n2 c2,.slice XA2 xn2 xc2]
 have HW3:=hy' hw3;have HB3:=hy' (HB1.o.trans ((hb2.trans (hb3.mono hb2.size)).mono HB1.o.size));have HT3:=hy' hat3;have HI3:=hy' (his.below hb3);have HD3:=hy' (hdo.below hb3);have HL3:=hy' (zA4 hown hb3 (Nat.le_refl _));have HR:=hy' hR;have HLC:=hy' hlc;have HLN:=hy' hln;have HN2:=hy' hn2;have HAP:Hy (∀w'',w3.grownBy w'' (Value.slice Al ln cl).ownBlock→Ud.Is w'' (.pointer (some ⟨pb,0,none⟩)) T S∧Md.Doc w'' (.agg #[.slice A2 n2 c2,.slice XA2 xn2 xc2]) T E):=hy' fun w'' hg=>hap w'' (zA0 (by rw[←hw3];exact World.grownBy_alloc _ _ _) hg)
 have HLB:=hy' (fun x (hx:x∈l)=>Tx.isC_i32 (hlc x hx));have z0:=hat3.cell 0 rfl;have z1:=hat3.cell 1 rfl;have zl:=hat3.lt;clear x0 x1 x2 x3 xl hap hdo hdo2 his hR hown hlc hln hn2 hxn2 hw3 hb3 hat3 hb2 HMADE HAW HWA HBA HAT;go_upto_region 4 with (fail)
 rw[HW3.o];have hok:=HR.o.ok;obtain⟨i0,hi0,iz0,iz1,iz2⟩:=info_parts Rw.infoStr;have HL33:=hy' (Sl.of_own HL3.o);have HH3:=hy' (HH.o.next HB3.o)
 by_cases hn:0<ln
 case neg =>
  have nI:(ln:Int)=0:=by omega
  have nB:((ln:Int) == 0)=true:=by rw[nI];rfl
  go_wp2_with fail;go_ret;exact⟨rfl,HB3.o⟩
 obtain⟨j,hj,hpick⟩:=Tx.pick at' hn (show ln≤1000000 by omega)
 have hA:∃gb,Al=some ⟨gb,0,none⟩∧ln≤cl:=by
  rcases HL3.o.2 with ⟨hv,h0⟩|⟨g',cap',cur,hv,hg,hb,h1,h2,h3,h4⟩
  · omega
  cases hv;exact⟨g',rfl,by omega⟩
 obtain⟨gb,rfl,hcap⟩:=hA;obtain⟨p,hp⟩:∃p,zLv T S=p:=⟨_,rfl⟩
 have HSF:Hy (∀(x:Int) W,Below w3.heap.size w3 W→Calls Tryz.prog 22 #[.pointer (some ⟨pb,0,none⟩),.int .i32 x] W fun e w'=>e=.returned (.bool (p x))∧Below W.heap.size W w'):=hy' fun x W hW=>by
  rw[←hp];exact Sp.safe_any _ T S x W hok (HI3.o.below hW)
 have HPA:Hy (∀(z:List Int) (sz:ByteArray) (n:Nat) W,Below w3.heap.size w3 W→(∀c∈z,c∈l)→z.length≤30→zAv z=sz→(Sp.cut p z).length=n→Calls Tryz.prog 25 #[.pointer (some ⟨pb,0,none⟩),.string sz] W fun e w'=>∃A c,e=.returned (.tuple #[.slice A n c,.int .i64 0])∧w'.ownsRow W.heap.size 9 1 (.slice A n c) n (Sp.vs (Sp.cut p z))∧Below W.heap.size W w'):=hy' fun z sz n W hW hzl hz hs hcn=>by
  have hc:∀c∈z,C.isC c=true:=fun c hc=>HLC.o c (hzl c hc)
  have:=Sp.parts_any _ T S sz z W hok (HI3.o.below hW) (HH3.o.next hW) (by rw[←hs,zIT hc]) hc (by omega);unfold Sp.RetParts at this;rw[hp,hcn]at this;exact this
 have HEN:Hy (∀(A':Option Addr) (m c':Nat) (z:List Int) (sq:ByteArray) (W:World),z.length=m→m≤2000→(∀c∈z,c∈l)→zAv z=sq→Sl W W.heap.size A' (z.map (Value.int .i64))→Calls Tryz.prog 26 #[.slice A' m c'] W fun e w'=>e=.returned (.string sq)∧Below W.heap.size W w'):=hy' fun A' m c' z sq W hz hm hzl hs hA=>by
  have:=zEs A' m c' z W hz (by omega) hA (fun c hc=>HLC.o c (hzl c hc));rw[hs]at this;exact this
 obtain⟨ab,ao,hA2,hab,hac⟩:=HL33.o (by rw[List.length_map,HLN.o];omega);simp only[Option.some.injEq,Addr.mk.injEq,and_true]at hA2;obtain⟨rfl,rfl⟩:=hA2
 have HAC:Hy (∀(k:Nat) x W,Below w3.heap.size w3 W→l[k]?=some x→W.cell? ⟨gb,k,none⟩=some (.int .i64 x)):=hy' fun k x W hW hx=>by
  have:=hac k (by rw[List.length_map];exact (List.getElem?_eq_some_iff.1 hx).1);rw[List.getElem?_map,hx,Option.map_some,Nat.zero_add]at this;exact ((zAQ hW).1 _ _ hab).trans this
 have nz:¬(ln:Int)=0:=by omega
 have nB:((ln:Int) == 0)=false:=by simp;omega
 have HPK:=hy' hpick;have HAB:=hy' hab;clear hok hp hac hpick hab HL3 z0 z1 zl;have hpick:=HPK.o;go_upto_block 0 with (fail)
 clear hpick;go_cut [9] (fun s wx=>(∃k:Nat,s=.int .i64 k∧k≤ln∧(k=ln∨∃x,l[k]?=some x∧p x=true))∧Below w3.heap.size w3 wx)
 case first =>
  go_wp2_with fail;go_loopw [9] (fun i wr=>∃k:Nat,k≤ln∧i=.int .i64 k∧Below w3.heap.size w3 wr) (fun i _=>ln-(intOf i).toNat)
  case atStart=>exact⟨j,by omega,rfl,Below.refl _ _⟩
  obtain⟨k,hk,rfl,hbr⟩:=hrel;obtain⟨q0,rfl⟩:∃q:World,q=wr:=⟨_,rfl⟩;have HR0:=hy' hbr;have k0:(0:Int)≤k:=by omega
  by_cases hlt:k<ln
  rotate_left
  · obtain rfl:k=ln:=by omega
    have kI:¬(k:Int)<k:=by omega
    clear hbr;go_wp2_with fail;go_meet;exact⟨⟨k,rfl,hk,.inl rfl⟩,HR0.o⟩
  obtain⟨x,hx⟩:∃x,l[k]?=some x:=⟨_,List.getElem?_eq_getElem (by rw[HLN.o];exact hlt)⟩;have hc:=HAC.o k x q0 hbr hx;have hgl:=Nat.lt_of_lt_of_le HAB.o hbr.size;obtain⟨hx1,hx2⟩:=HLB.o x (List.mem_of_getElem? hx);have hw0:IntKind.i32.wrap x=x:=by rw[IntKind.wrap_i32];omega
  have kI:(k:Int)<ln:=by omega
  have HX:=hy' hx;clear hx hbr hx1 hx2;go_wp2_with fail;refine (HSF.o x q0 HR0.o).mono ?_;rintro e q1 ⟨rfl,hb⟩;have HR1:=hy' (HR0.o.trans (hb.mono HR0.o.size));clear hb hc hgl;rcases hpx:p x with _|_
  · clear hpx;go_wp2_with fail;go_roundw
    case rel=>exact⟨k+1,by omega,by first|rfl|go_num,HR1.o⟩
    simp[intOf];omega
  have HPX:=hy' hpx;clear hpx;go_wp2_with fail;go_meet;exact⟨⟨k,rfl,hk,.inr ⟨x,HX.o,HPX.o⟩⟩,HR1.o⟩
 obtain⟨⟨k,rfl,hk,hkp⟩,hbc⟩:=hcut;obtain⟨q0,rfl⟩:∃q:World,q=wc:=⟨_,rfl⟩;obtain⟨X,hX⟩:∃q,l.take k=q:=⟨_,rfl⟩;obtain⟨Z,hZ⟩:∃q,l.drop k=q:=⟨_,rfl⟩;have hXl:X.length=k:=by rw[←hX,List.length_take,HLN.o];omega
 have hZl:Z.length=ln-k:=by rw[←hZ,List.length_drop,HLN.o]
 have hXm:∀c∈X,c∈l:=fun c hc=>List.mem_of_mem_take (hX▸hc)
 have hZm:∀c∈Z,c∈l:=fun c hc=>List.mem_of_mem_drop (hZ▸hc)
 have hcut3:Sp.cut p l=Sp.cut p X++Sp.cut p Z:=by
  rcases hkp with h|⟨x,hx,hpx⟩
  · have:Z=[]:=List.eq_nil_of_length_eq_zero (by omega);rw[this,Sp.cut_nil,List.append_nil,←hX,List.take_of_length_le (by rw[HLN.o];omega)]
  obtain⟨h1,h2⟩:=List.getElem?_eq_some_iff.1 hx;have h3:Z=x::l.drop (k+1):=by rw[←hZ,List.drop_eq_getElem_cons h1,h2]
  conv=>lhs;rw[←List.take_append_drop k l,hX,hZ,h3]
  rw[Sp.cut_app hpx,←h3]
 obtain⟨an,han⟩:∃q,(Sp.cut p X).length=q:=⟨_,rfl⟩;obtain⟨bn,hbn⟩:∃q,(Sp.cut p Z).length=q:=⟨_,rfl⟩;obtain⟨cn,hcnn⟩:∃q,an+bn=q:=⟨_,rfl⟩;have hcn:(Sp.cut p l).length=cn:=by rw[hcut3,List.length_append,han,hbn,hcnn]
 have HCNN:=hy' hcnn;have hvs:Sp.vs (Sp.cut p l)=Sp.vs (Sp.cut p X)++Sp.vs (Sp.cut p Z):=by unfold Sp.vs;rw[hcut3,List.map_append]
 have hanl:an≤30∧bn≤30:=by
  have h1:=Sp.cut_le p X;have h2:=Sp.cut_le p Z;omega
 obtain⟨sx,hsx⟩:∃q,zAv X=q:=⟨_,rfl⟩;obtain⟨sz,hsz⟩:∃q,zAv Z=q:=⟨_,rfl⟩;obtain⟨sl,hsl⟩:∃q,zAv l=q:=⟨_,rfl⟩
 have HSX:Hy (∀W,Below w3.heap.size w3 W→Sl W W.heap.size (some ⟨gb,0,none⟩) (X.map (Value.int .i64))):=hy' fun W hW=>by
  rw[←hX,List.map_take];exact (HL33.o.below hW hW.size).takeN k
 have HSZ:Hy (∀W,Below w3.heap.size w3 W→Sl W W.heap.size (some ⟨gb,k,none⟩) (Z.map (Value.int .i64))):=hy' fun W hW=>by
  have:=(HL33.o.below hW hW.size).dropN k;rw[Nat.zero_add]at this;rw[←hZ,List.map_drop];exact this
 have HXL:=hy' hXl;have HZL:=hy' hZl;have HXM:=hy' hXm;have HZM:=hy' hZm;have HCN:=hy' hcn;have HVS:=hy' hvs;have HAN:=hy' han;have HBN:=hy' hbn;have HENX:=hy' hsx;have HENZ:=hy' hsz;have HENL:=hy' hsl;have HQ0:=hy' hbc;have k0:(0:Int)≤k:=by omega
 have kc:(k:Int)≤cl:=by omega
 have kl:(k:Int)≤ln:=by omega
 clear hcnn hX hZ hXl hZl hXm hZm hcut3 hcn hvs han hbn hsx hsz hsl hbc hkp;go_wp2_with fail;refine (HEN.o _ k cl X sx q0 HXL.o (by omega) HXM.o HENX.o (HSX.o q0 HQ0.o)).mono ?_;rintro e q1 ⟨rfl,hb⟩;have HQ1:=hy' (HQ0.o.trans (hb.mono HQ0.o.size));clear hb;go_wp2_with fail;refine (HPA.o X sx an q1 HQ1.o HXM.o (by rw[HXL.o];omega) HENX.o HAN.o).mono ?_;rintro e q2 ⟨A5,c5,rfl,ho,hb⟩;have HO2:=hy' ho;have HQ2:=hy' (HQ1.o.trans (hb.mono HQ1.o.size));have hz12:=hb.size;clear hb ho;go_upto_region 10 with (fail)
 go_cut [12,13] (fun s1 s2 wx=>(∃A' c',s1=.slice A' bn c'∧Sl wx wx.heap.size A' (Sp.vs (Sp.cut p Z)))∧s2=.int .i64 0∧Below q2.heap.size q2 wx)
 case first =>
  rcases Nat.lt_or_ge k cl with hkc|hkc
  · have kne:¬cl=k:=by omega
    go_wp2_with fail;refine (HEN.o _ (ln-k) (cl-k) Z sz q2 HZL.o (by omega) HZM.o HENZ.o (HSZ.o q2 HQ2.o)).mono ?_;rintro e q3 ⟨rfl,hb⟩;have HQ3:=hy' hb;clear hb;go_wp2_with fail;refine (HPA.o Z sz bn q3 (HQ2.o.trans (HQ3.o.mono HQ2.o.size)) HZM.o (by rw[HZL.o];omega) HENZ.o HBN.o).mono ?_;rintro e q4 ⟨A6,c6,rfl,ho,hb⟩;have HO4:=hy' (Sl.of_own ho);have HQ4:=hy' (HQ3.o.trans (hb.mono HQ3.o.size));clear hb ho;go_wp2_with fail;go_meet;exact⟨⟨A6,c6,rfl,HO4.o⟩,rfl,HQ4.o⟩
  obtain rfl:cl=k:=by omega
  obtain rfl:ln=cl:=by omega
  have HZ0:Hy (Sl q2 q2.heap.size (some ⟨gb,0,none⟩) (Z.map (Value.int .i64))):=hy' (by
   rw[show Z=[] from List.eq_nil_of_length_eq_zero (by rw[HZL.o];omega)];exact Sl.nil _ _ _)
  go_wp2_with fail;refine (HEN.o _ 0 0 Z sz q2 (by rw[HZL.o];omega) (by omega) HZM.o HENZ.o HZ0.o).mono ?_;rintro e q3 ⟨rfl,hb⟩;have HQ3:=hy' hb;clear hb;go_wp2_with fail;refine (HPA.o Z sz bn q3 (HQ2.o.trans (HQ3.o.mono HQ2.o.size)) HZM.o (by rw[HZL.o];omega) HENZ.o HBN.o).mono ?_;rintro e q4 ⟨A6,c6,rfl,ho,hb⟩;have HO4:=hy' (Sl.of_own ho);have HQ4:=hy' (HQ3.o.trans (hb.mono HQ3.o.size));clear hb ho;go_wp2_with fail;go_meet;exact⟨⟨A6,c6,rfl,HO4.o⟩,rfl,HQ4.o⟩
 obtain⟨⟨A6,c6,rfl,hs6⟩,rfl,hbc⟩:=hcut;obtain⟨q4,rfl⟩:∃q:World,q=wc:=⟨_,rfl⟩;have HO4:=hy' (zA4 HO2.o hbc (Nat.le_refl _));have HS4:=hy' hs6;have HQ4:=hy' (HQ2.o.trans (hbc.mono HQ2.o.size));have hz14:=Nat.le_trans hz12 hbc.size;clear hs6 hbc;go_wp2_with fail;refine (HEN.o _ ln cl l sl q4 HLN.o (by omega) (fun c hc=>hc) HENL.o (HL33.o.below HQ4.o HQ4.o.size)).mono ?_;rintro e q5 ⟨rfl,hb⟩;have HQ5:=hy' (HQ4.o.trans (hb.mono HQ4.o.size));have HO5:=hy' (zA4 HO4.o hb (Nat.le_refl _));have HS5:=hy' (HS4.o.below hb hb.size);have hz15:=Nat.le_trans hz14 hb.size;clear hb;go_wp2_with fail;refine (HPA.o l sl cn q5 HQ5.o (fun c hc=>hc) (by rw[HLN.o];omega) HENL.o HCN.o).mono ?_;rintro e q6 ⟨A7,c7,rfl,ho,hb⟩;have HQ6:=hy' (HQ5.o.trans (hb.mono HQ5.o.size));have HO6:=hy' (zA4 HO5.o hb (Nat.le_refl _));have HS6:=hy' (HS5.o.below hb hb.size);have hz16:=Nat.le_trans hz15 hb.size;have HC6:=hy' (Sl.of_own ho)
 have HC6N:Hy (∀b o,A7=some ⟨b,o,none⟩→q5.heap.size≤b):=hy' fun b o h=>by
  subst h
  exact (zB6 ho (g:=b) (by
   rcases ho.2 with ⟨hv,h0⟩|⟨g',cap',cur,hv,hg,_⟩
   · cases hv
   cases hv;rfl)).1
 have hz6:w3.heap.size≤q1.heap.size:=HQ1.o.size;clear hb ho;have hads:(((an:Int)+bn) != (cn:Int))=false:=by have:=HCNN.o;simp;omega
 have hlb:(Sp.vs (Sp.cut p Z)).length=bn*1:=by unfold Sp.vs;rw[List.length_map,HBN.o];omega
 have h1b:∀u∈Sp.vs (Sp.cut p Z),u.oneCell'=true:=fun u hu=>by
  unfold Sp.vs at hu;obtain⟨y,_,rfl⟩:=List.mem_map.1 hu;rfl
 have HLB6:=hy' hlb;have H1B:=hy' h1b;clear hlb h1b;go_upto_region 15 with (first|(at_builtin;refine zAe _ rfl _ _ _ rfl q1.heap.size 9 i0 _ 1 16 Tryz.underlying45 hi0 iz0 iz1 iz2 rfl (by omega) _ an _ rfl HO6.o _ A6 bn c6 (Sp.vs (Sp.cut p Z)) rfl HLB6.o HS6.o H1B.o (by simp only[maxLen];omega) (by omega) hz16 ?_;intro v8 q8 hown hb8 hg8;obtain⟨A8,c8,rfl⟩:=zA3 hown;have HO8:=hy' hown;have HB8:=hy' hb8;have HG8:=hy' hg8;clear hown hb8 hg8)|fail)
 have HCE:Hy (∀k:Nat,k<cn→∃q:ByteArray,(Sp.vs (Sp.cut p X)++Sp.vs (Sp.cut p Z))[k]?=some (.string q)∧(Sp.vs (Sp.cut p l))[k]?=some (.string q)):=hy' fun k hk=>by
  have hlen:(Sp.vs (Sp.cut p l)).length=cn:=by unfold Sp.vs;rw[List.length_map,HCN.o]
  have h1:(Sp.vs (Sp.cut p l))[k]?=some ((Sp.vs (Sp.cut p l))[k]'(by omega)):=List.getElem?_eq_getElem _
  obtain⟨q,hq⟩:∃q,(Sp.vs (Sp.cut p l))[k]'(by omega)=.string q:=by
   unfold Sp.vs;exact⟨_,List.getElem_map _⟩
  rw[hq]at h1;exact⟨q,by rw[←HVS.o];exact h1,h1⟩
 have HL8:=hy' (Sl.of_own HO8.o)
 have HC8:Hy (Sl q8 q8.heap.size A7 (Sp.vs (Sp.cut p l))):=hy' (by
  intro hz;obtain⟨b,o,h1,h2,h3⟩:=HC6.o hz;have hg:=HG8.o
  have hne:(Value.slice A5 an c5).ownBlock≠some b:=fun e=>by
   have h4:=(zB6 HO5.o (g:=b) e).2;have h5:=HC6N.o b o h1;omega
  refine⟨b,o,h1,Nat.lt_of_lt_of_le h2 hg.size,fun i hi=>?_⟩;rw[←h3 i hi];unfold World.cell?;rw[hg.block b h2 fun e=>hne e.symm])
 have HB:=hy' (HB3.o.trans ((HQ6.o.trans (HB8.o.mono hz6)).mono HB3.o.size))
 have HLN8:Hy ((Sp.vs (Sp.cut p X)++Sp.vs (Sp.cut p Z)).length=cn∧(Sp.vs (Sp.cut p l)).length=cn):=hy' (by
  rw[←HVS.o];unfold Sp.vs;rw[List.length_map,HCN.o];exact⟨rfl,rfl⟩)
 clear hads hz12 hz14 hz15 hz16 hz6;go_loopw [110] (fun i wr=>∃j:Nat,j≤cn∧i=.int .i64 j∧wr=q8) (fun i _=>cn-(intOf i).toNat)
 case atStart=>exact⟨0,Nat.zero_le _,rfl,rfl⟩
 obtain⟨j,hj,rfl,hwr⟩:=hrel;obtain rfl:q8=wr:=hwr.symm;have hcnn:=HCNN.o
 by_cases hlt:j<cn
 rotate_left
 · have kI:¬(j:Int)<(an:Int)+bn:=by omega
   have kn:¬j<an+bn:=by omega
   clear hcnn;go_wp2_with fail;go_ret;exact⟨rfl,HB.o⟩
 obtain⟨q,hq1,hq2⟩:=HCE.o j hlt;obtain⟨b8,o8,rfl,hb8,hc8⟩:=HL8.o (by rw[HLN8.o.1];omega);obtain⟨b7,o7,rfl,hb7,hc7⟩:=HC8.o (by rw[HLN8.o.2];omega);have hc8:=hc8 j (by rw[HLN8.o.1];exact hlt);have hc7:=hc7 j (by rw[HLN8.o.2];exact hlt);rw[hq1]at hc8;rw[hq2]at hc7
 have hqq:(q.toList != q.toList)=false:=by
  have h1:(q.toList == q.toList)=true:=by rw[zG9,decide_eq_true rfl]
  rw[bne,h1];rfl
 have kI:(j:Int)<(an:Int)+bn:=by omega
 have kn:j<an+bn:=by omega
 have k00:(0:Int)≤j:=by omega
 have kc':(j:Int)<cn:=by omega
 clear hq1 hq2 hcnn;go_wp2_with fail;go_roundw
 case rel=>exact⟨j+1,by omega,by first|rfl|go_num,by first|rfl|trivial⟩
 simp[intOf];omega
end Go.Proofs.YtjakbblocbicjaaGreatDoor
