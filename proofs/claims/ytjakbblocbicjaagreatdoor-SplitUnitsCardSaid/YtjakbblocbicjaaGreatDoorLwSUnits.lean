/- The law SplitUnits, by walking its text. -/
import Derived.Test.YtjakbblocbicjaaGreatDoorSpAwake
import Derived.Test.YtjakbblocbicjaaGreatDoorSpUnits
import Derived.Test.YtjakbblocbicjaaGreatDoorTxSame
import Derived.Test.YtjakbblocbicjaaGreatDoorMdRef4
import Derived.Test.YtjakbblocbicjaaGreatDoorNfLaw
import Derived.BigQuiet
import Derived.Deep.DeepCutAuto
import Derived.Deep.CutBlock
namespace Go.Proofs.YtjakbblocbicjaaGreatDoor
open Go.RowKit
set_option linter.unusedSimpArgs false
set_option linter.unusedVariables false
theorem Sp.FU.sl {base:Nat} {w:World} {A:Option Addr} {c:Nat} {L:List (List Int)} (h:Sp.FU base w (.slice A L.length c) L) :
 ∃vals:List Value,vals.length=L.length∧Sl w w.heap.size A vals∧∀(j:Nat) u,L[j]?=some u→∃A' c',vals[j]?=some (.slice A' u.length c')∧Sl w w.heap.size A' (u.map (Value.int .i32)):=by
 obtain⟨f,vals,hF,hv,h0,hj⟩:=h;refine⟨vals,hv,Sl.of_own (hF.own 0 _ h0),fun j u hu=>?_⟩;obtain⟨A',c',h1,h2⟩:=hj j u hu;exact⟨A',c',h1,Sl.of_own (hF.own _ _ h2)⟩
theorem Sp.units_out {T:List Rw.Row} {S:List Int} (ok:Ud.Ok T S) {c:Int} (hc:C.isC c=true) (hf:Ud.full T c=[c]) (hp:Sp.apart T c=true) {r:Rw.Row} (hr:r∈T):∀(m:Nat) x,1≤m→(Ud.full T r.1)[m]?=some x→x≠c:=by
 intro m x hm hx e;subst e;unfold Sp.apart at hp;simp only[Bool.and_eq_true,Bool.not_eq_true']at hp;have hh:Sp.head T x=x:=by unfold Sp.head;rw[hf];rfl
 have h1:=hp.2.2;rw[hh]at h1;unfold Sp.inn at h1;rw[(zBH _).2,hc,Bool.and_true]at h1;simp only[Bool.or_eq_false_iff,decide_eq_false_iff_not]at h1;have h2:=h1.1.1
 have hdr:x∈(Ud.full T r.1).drop 1:=by
  refine List.mem_of_getElem? (i:=m-1) ?_;rw[List.getElem?_drop,show 1+(m-1)=m by omega];exact hx
 by_cases hl:0<r.2.2.length
 · refine h2 (List.mem_flatMap.2 ⟨r,zCV.2 ⟨hr,hl⟩,hdr⟩)
 have h3:Md.find T r.1=some r:=zBG ok.rises hr
 have h5:zAV T r.1=[]:=by
  unfold zAV;rw[h3];exact List.eq_nil_of_length_eq_zero (by omega:r.2.2.length=0)
 have h4:=(zP1 h5 (by rw[(ok.good r hr).2.2.2.2.1];omega)).1;rw[zFk ok h4]at hdr;simp at hdr
theorem Sp.flG2 {L:List (List Int)} {k j:Nat} {u:List Int} {x:Int} (hu:L[k]?=some u) (hx:u[j]?=some x):L.flatten[(L.take k).flatten.length+j]?=some x:=by
 have h1:L=L.take k++u::L.drop (k+1):=by
  have h2:=(List.getElem?_eq_some_iff.1 hu)
  conv=>lhs;rw[←List.take_append_drop k L,List.drop_eq_getElem_cons h2.1,h2.2]
 have hj:=(List.getElem?_eq_some_iff.1 hx).1
 have h2:L.flatten=(L.take k).flatten++(u++(L.drop (k+1)).flatten):=by
  conv=>lhs;rw[h1]
  rw[List.flatten_append,List.flatten_cons]
 rw[h2,List.getElem?_append_right (by omega),List.getElem?_append_left (by omega)];rw[show (L.take k).flatten.length+j-(L.take k).flatten.length=j by omega];exact hx
theorem Sp.flS2 {L:List (List Int)} {k:Nat} {u:List Int} (hu:L[k]?=some u):(L.take (k+1)).flatten.length=(L.take k).flatten.length+u.length:=by
 rw[List.take_add_one,hu,Option.toList_some,List.flatten_append,List.length_append];simp
set_option maxRecDepth 100000 in
set_option maxHeartbeats 4000000 in
theorem Sp.splitUnits_any (w:World) (A XA PA MA:Option Addr) (n c xn xc pn pc mn mc:Nat) (T0:List Rw.Row) (E0 P M:List Int) (hT:Tx.In A XA PA MA n c xn xc pn pc mn mc T0 E0 P M w) (hL:Nf.Laid w) :
 Calls Tryz.prog 3 #[.agg #[.slice A n c,.slice XA xn xc,.slice PA pn pc,.slice MA mn mc]] w fun e w'=>e=.returned (.bool true)∧Below w.heap.size w w':=by
 have HMADE:=hy' (fun W (hW:Below w.heap.size w W)=>zFx A XA PA MA n c xn xc pn pc mn mc T0 E0 P M 25 W (by decide) (hT.below hW) (Rw.Laid.next hL.1 hW));have HAW:=hy' (fun W (hW:Below w.heap.size w W)=>Sp.awake20 W (hL.next hW));obtain⟨wa,hwa⟩:∃wa,w.alloc (.cells #[.slice A n c,.slice XA xn xc,.slice PA pn pc,.slice MA mn mc] 27)=wa:=⟨_,rfl⟩;have hba:Below w.heap.size w wa:=by rw[←hwa];exact (Below.refl _ _).alloc (Nat.le_refl _) _
 have hat:Rw.At wa w.heap.size 27 [.slice A n c,.slice XA xn xc,.slice PA pn pc,.slice MA mn mc]:=by rw[←hwa];exact Rw.At.new w 27 [.slice A n c,.slice XA xn xc,.slice PA pn pc,.slice MA mn mc]
 have HWA:=hy' hwa;have HBA:=hy' hba;have HAT:=hy' hat;clear hwa hba hat hT hL;go_enter Tryz.func3,Tryz.ntmps3;go_upto_region 1 with (fail)
 rw[HWA.o];go_wp2_with fail;refine (HAW.o wa HBA.o).mono ?_;rintro e w1 ⟨rfl,hb1⟩;have hat1:=HAT.o.below hb1;have HB1:=hy' (HBA.o.trans (hb1.mono HBA.o.size));have x0:=hat1.cell 0 rfl;have x1:=hat1.cell 1 rfl;have x2:=hat1.cell 2 rfl;have x3:=hat1.cell 3 rfl;have xl:=hat1.lt;clear hb1 hat1;go_wp2_with fail;refine (HMADE.o w1 HB1.o).mono ?_;rintro e w2 ⟨p,v2,T,E,S,l,Al,cl,rfl,his,hdo,hR,hown,hlc,hll,hap,hb2⟩;obtain⟨pb,rfl,hpbl⟩:=his.form;obtain⟨A2,c2,XA2,xc2,rfl,hdo2⟩:=id hdo;obtain⟨n2,hn2⟩:∃k,T.length=k:=⟨_,rfl⟩;obtain⟨xn2,hxn2⟩:∃k,E.length=k:=⟨_,rfl⟩;obtain⟨ln,hln⟩:∃k,l.length=k:=⟨_,rfl⟩;unfold zAX at hdo hap ⊢;rw[hn2,hxn2]at hdo ⊢;simp only[hn2,hxn2]at hap;rw[hln]at hown hll hap ⊢;obtain⟨w3,hw3⟩:∃w3,w2.alloc (.cells #[.slice A2 n2 c2,.slice XA2 xn2 xc2] 25)=w3:=⟨_,rfl⟩;have hb3:Below w2.heap.size w2 w3:=by rw[←hw3];exact (Below.refl _ _).alloc (Nat.le_refl _) _
 have hat3:Rw.At w3 w2.heap.size 25 [.slice A2 n2 c2,.slice XA2 xn2 xc2]:=by rw[←hw3];exact Rw.At.new w2 25 [.slice A2 n2 c2,.slice XA2 xn2 xc2]
 have HSE:=hy' (hdo2.1.below hb3);have HW3:=hy' hw3;have HB3:=hy' (HB1.o.trans ((hb2.trans (hb3.mono hb2.size)).mono HB1.o.size));have HT3:=hy' hat3;have HI3:=hy' (his.below hb3);have HD3:=hy' (hdo.below hb3);have HL3:=hy' (zA4 hown hb3 (Nat.le_refl _));have HR:=hy' hR;have HLC:=hy' hlc;have HLN:=hy' hln;have HN2:=hy' hn2;have HAP:Hy (∀w'',w3.grownBy w'' (Value.slice Al ln cl).ownBlock→Ud.Is w'' (.pointer (some ⟨pb,0,none⟩)) T S∧Md.Doc w'' (.agg #[.slice A2 n2 c2,.slice XA2 xn2 xc2]) T E):=hy' fun w'' hg=>hap w'' (zA0 (by rw[←hw3];exact World.grownBy_alloc _ _ _) hg)
 have HLB:=hy' (fun x (hx:x∈l)=>Tx.isC_i32 (hlc x hx));have z0:=hat3.cell 0 rfl;have z1:=hat3.cell 1 rfl;have zl:=hat3.lt;clear x0 x1 x2 x3 xl hap hdo hdo2 his hR hown hlc hln hn2 hxn2 hw3 hb3 hat3 hb2 HMADE HAW HWA HBA HAT;go_upto_region 4 with (fail)
 rw[HW3.o];have hok:=HR.o.ok;have HL33:=hy' (Sl.of_own HL3.o);obtain⟨Z,hZ⟩:∃Z,Nf.chars T l=Z:=⟨_,rfl⟩;obtain⟨zn,hzn⟩:∃q,Z.length=q:=⟨_,rfl⟩;have hzl:zn≤1024:=by rw[←hzn,←hZ,Nf.chars_len];exact zIc hok (by rw[HLN.o];omega)
 have hZc:∀c∈Z,C.isC c=true:=by rw[←hZ];exact Nf.chars_isC hok HLC.o
 have hZf:∀c∈Z,Ud.full T c=[c]:=by rw[←hZ];exact zLt hok l
 obtain⟨p,hp⟩:∃p,Sp.apart T=p:=⟨_,rfl⟩;obtain⟨L,hL⟩:∃q,Sp.cut p Z=q:=⟨_,rfl⟩;obtain⟨un,hun⟩:∃q,L.length=q:=⟨_,rfl⟩;have hLf:L.flatten=Z:=by rw[←hL];exact Sp.cut_flat p Z
 have hLne:∀u∈L,u≠[]:=by rw[←hL];exact Sp.cut_ne p Z
 have hLh:∀(i:Nat) u,0<i→L[i]?=some u→∃c t,u=c::t∧p c=true:=by rw[←hL];exact Sp.cut_hd p Z
 have hLt:∀u∈L,∀c∈u.tail,p c=false:=by rw[←hL];exact Sp.cut_tl p Z
 have hLz:∀u∈L,∀c∈u,c∈Z:=fun u hu c hc=>by rw[←hLf];exact List.mem_flatten.2 ⟨u,hu,hc⟩
 have hul:un≤1024:=by
  have:=Sp.cut_le p Z;rw[hL,hun,hzn]at this;omega
 have hnb:n2≤10000:=by rw[←HN2.o];exact hok.len
 have hFT:∀r∈T,(Ud.full T r.1).length≤32:=fun r _=>zAS hok r.1
 have HRC:Hy (∀W,Below w3.heap.size w3 W→Calls Tryz.prog 16 #[.agg #[.slice A2 n2 c2,.slice XA2 xn2 xc2],.slice Al ln cl] W fun e w'=>∃A' c',e=.returned (.slice A' zn c')∧Sl w' w'.heap.size A' (Z.map (Value.int .i64))∧Below W.heap.size W w'):=hy' fun W hW=>by
  refine (Nf.rchars_any _ T E Al ln cl l W (by have:=HR.o.tl;omega) hok.bd (fun r hr=>by have:=(HR.o.rok r hr).2.2.1;omega) (fun c=>zAS hok c) (HD3.o.below hW) HLN.o (by omega) HLB.o (HL33.o.below hW hW.size)).mono ?_;rintro e w' ⟨A',c',rfl,ho,hb⟩;rw[hZ]at ho ⊢;rw[hzn]at ho ⊢;exact⟨A',c',rfl,Sl.of_own ho,hb⟩
 have HRU:Hy (∀A' c' W,Sl W W.heap.size A' (Z.map (Value.int .i64))→Calls Tryz.prog 18 #[.slice A' zn c'] W fun e w'=>∃A' c',e=.returned (.slice A' zn c')∧Sl w' w'.heap.size A' (Z.map (Value.int .i32))∧Below W.heap.size W w'):=hy' fun A' c' W hA=>by
  refine (zHT A' zn c' Z W hzn (by omega) (fun x hx=>Nf.isC_i32 (hZc x hx)) hA).mono ?_;rintro e w' ⟨A',c',rfl,ho,hb⟩;rw[hzn]at ho ⊢;exact⟨A',c',rfl,Sl.of_own ho,hb⟩
 have HUN:Hy (∀A' c' W,Below w3.heap.size w3 W→Sl W W.heap.size A' (Z.map (Value.int .i32))→Calls Tryz.prog 17 #[.pointer (some ⟨pb,0,none⟩),.slice A' zn c'] W fun e w'=>∃A c,e=.returned (.slice A un c)∧(∃vals:List Value,vals.length=un∧Sl w' w'.heap.size A vals∧∀(j:Nat) u,L[j]?=some u→∃A' c',vals[j]?=some (.slice A' u.length c')∧Sl w' w'.heap.size A' (u.map (Value.int .i32)))∧Below W.heap.size W w'):=hy' fun A' c' W hW hA=>by
  have:=Sp.units_any _ T S A' zn c' Z W hok (HI3.o.below hW) hzn (by omega) hA;unfold Sp.RetUnits at this;rw[hp,hL]at this;refine this.mono ?_;rintro e w' ⟨A,c,rfl,ho,hb⟩;have h:=ho.sl;rw[hun]at h ⊢;exact⟨A,c,rfl,h,hb⟩
 have HAP2:Hy (∀(c:Int) W,Below w3.heap.size w3 W→Calls Tryz.prog 19 #[.pointer (some ⟨pb,0,none⟩),.int .i32 c] W fun e w'=>e=.returned (.bool (p c))∧Below W.heap.size W w'):=hy' fun c W hW=>by
  rw[←hp];exact Sp.apart_any _ T S c W hok (HI3.o.below hW)
 have HFU:Hy (∀r∈T,∀W,Below w3.heap.size w3 W→Calls Tryz.prog 20 #[.agg #[.slice A2 n2 c2,.slice XA2 xn2 xc2],.int .i64 r.1] W fun e w'=>∃A' c',e=.returned (.tuple #[.slice A' (Ud.full T r.1).length c',.bool true])∧Sl w' w'.heap.size A' ((Ud.full T r.1).map (Value.int .i64))∧Below W.heap.size W w'):=hy' fun r hr W hW=>by
  have:=zEJ _ T E r.1 W (by have:=HR.o.tl;omega) (HD3.o.below hW) hok.bd (fun r hr=>by have:=(HR.o.rok r hr).2.2.1;omega) (hok.bd r hr).1.1 (hok.bd r hr).1.2;rw[zDM hok]at this;exact this
 have HOUT:=hy' (fun (r:Rw.Row) (hr:r∈T) (c:Int) (hc:c∈Z) (hpc:p c=true)=>Sp.units_out hok (hZc c hc) (hZf c hc) (by rw[hp];exact hpc) hr);have HUNN:=hy' hun;have HZN:=hy' hzn;have HZC:=hy' hZc;have HLF:=hy' hLf;have HLNE:=hy' hLne;have HLH:=hy' hLh;have HLT:=hy' hLt;have HLZ:=hy' hLz;have HFT:=hy' hFT;have HQ0:=hy' (Below.refl w3.heap.size w3);clear hok hZ hzn hp hL hun hLf hLne hLh hLt hLz hFT hZc hZf HL3;go_wp2_with fail;refine (HRC.o w3 HQ0.o).mono ?_;rintro e q1 ⟨A7,c7,rfl,hs7,hb⟩;have HQ1:=hy' (HQ0.o.trans (hb.mono HQ0.o.size));have HS7:=hy' hs7;clear hb hs7 z0 z1 zl;go_wp2_with fail;refine (HRU.o A7 c7 q1 HS7.o).mono ?_;rintro e q2 ⟨A8,c8,rfl,hs8,hb⟩;have HQ2:=hy' (HQ1.o.trans (hb.mono HQ1.o.size));have HS72:=hy' (HS7.o.below hb hb.size);have HS8:=hy' hs8;clear hb hs8 HS7;go_wp2_with fail;refine (HUN.o A8 c8 q2 HQ2.o HS8.o).mono ?_;rintro e q3 ⟨A9,c9,rfl,⟨vals,hvl,hs9,hu9⟩,hb⟩;have HQ3:=hy' (HQ2.o.trans (hb.mono HQ2.o.size));have HS73:=hy' (HS72.o.below hb hb.size);have HS9:=hy' hs9;have HU9:=hy' hu9;have HVL:=hy' hvl;clear hb hs9 hu9 hvl HS72 HS8;go_upto_block 0 with (fail)
 go_cut [9] (fun s wx=>s=.int .i64 zn∧Below q3.heap.size q3 wx)
 case rest =>
  obtain⟨rfl,hbc⟩:=hcut;obtain⟨q4,rfl⟩:∃q:World,q=wc:=⟨_,rfl⟩;have HQ4:=hy' hbc;have hzz:((zn:Int) != zn)=false:=by simp
  clear hbc;go_wp2_with fail;go_loopw [100] (fun vk wr=>∃k:Nat,k≤un∧vk=.int .i64 k∧Below q3.heap.size q3 wr) (fun vk _=>un-(intOf vk).toNat)
  case atStart=>exact⟨0,Nat.zero_le _,rfl,HQ4.o⟩
  obtain⟨k,hk,rfl,hbr⟩:=hrel;obtain⟨q5,rfl⟩:∃q:World,q=wr:=⟨_,rfl⟩;have HR0:=hy' hbr
  by_cases hlt:k<un
  rotate_left
  · obtain rfl:k=un:=by omega
    have kI:¬(k:Int)<k:=by omega
    have HE:=hy' (HB3.o.trans ((HQ3.o.trans (HR0.o.mono HQ3.o.size)).mono HB3.o.size));clear hbr;go_wp2_with fail;go_ret;exact⟨rfl,HE.o⟩
  obtain⟨u,hu⟩:∃u,L[k]?=some u:=⟨_,List.getElem?_eq_getElem (by rw[HUNN.o];exact hlt)⟩;have hum:=List.mem_of_getElem? hu;obtain⟨ul,hul2⟩:∃q,u.length=q:=⟨_,rfl⟩;have hu0:0<ul:=by rw[←hul2];exact List.length_pos_iff.2 (HLNE.o u hum)
  obtain⟨A5,c5,hv5,hs5⟩:=HU9.o k u hu;rw[hul2]at hv5;obtain⟨b9,o9,rfl,hb9,hc9⟩:=HS9.o (by rw[HVL.o];omega);have hc:=hc9 k (by rw[HVL.o];exact hlt);rw[hv5,←(zAQ hbr).1 _ _ hb9]at hc;have hg9:=Nat.lt_of_lt_of_le hb9 hbr.size;have HU:=hy' hu;have kI:(k:Int)<un:=by omega
  have k0:(0:Int)≤k:=by omega
  obtain⟨b5,o5,rfl,hb5,hc5⟩:=hs5 (by rw[List.length_map,hul2];exact hu0);obtain⟨y,hy⟩:∃y,u[0]?=some y:=⟨_,List.getElem?_eq_getElem (by omega)⟩;have hcy:=hc5 0 (by rw[List.length_map,hul2];exact hu0);rw[List.getElem?_map,hy,Option.map_some,Nat.add_zero]at hcy;have HCY:=hy' hcy;have HB5:=hy' hb5;have HY:=hy' hy;have hyz:y∈Z:=HLZ.o u hum y (List.mem_of_getElem? hy);have HYZ:=hy' hyz;have ul0:(0:Int)<ul:=by omega
  clear hu hum hul2 hv5 hc9 hbr hb9 hb5 hc5 hy hcy hs5 hyz;rcases Nat.eq_zero_or_pos k with hk0|hk0
  · subst hk0;rw[Nat.add_zero]at hc;go_wp2_with fail;go_roundw
    case rel=>exact⟨0+1,by omega,by first|rfl|go_num,HR0.o⟩
    simp[intOf];omega
  have kz:((k:Int) == 0)=false:=by simp;omega
  have hpy:p y=true:=by
   obtain⟨c,t,h1,h2⟩:=HLH.o k u hk0 HU.o;have h3:=HY.o;rw[h1]at h3;simp only[List.getElem?_cons_zero,Option.some.injEq]at h3;rw[←h3];exact h2
  have HPY:=hy' hpy;have hyb:=Nf.isC_i32 (HZC.o y HYZ.o);have hw0:IntKind.i64.wrap y=y:=by rw[IntKind.wrap_i64];omega
  have hat:=HT3.o.below (HQ3.o.trans (HR0.o.mono HQ3.o.size));have z0:=hat.cell 0 rfl;have zl:=hat.lt;clear hpy hyb hat;go_wp2_with fail;clear hc hg9 z0 zl;go_loopw [110] (fun vj wr=>∃j:Nat,j≤n2∧vj=.int .i64 j∧Below q3.heap.size q3 wr) (fun vj _=>n2-(intOf vj).toNat)
  case atStart=>exact⟨0,Nat.zero_le _,rfl,HR0.o⟩
  obtain⟨j,hj,rfl,hbj⟩:=hrel;obtain⟨q6,rfl⟩:∃q:World,q=wr:=⟨_,rfl⟩;have HJ0:=hy' hbj;have hb36:=HQ3.o.trans (hbj.mono HQ3.o.size)
  by_cases hjl:j<n2
  rotate_left
  · obtain rfl:j=n2:=by omega
    have jI:¬(j:Int)<j:=by omega
    clear hbj hb36;go_wp2_with fail;go_roundw
    case rel=>exact⟨k+1,by omega,by first|rfl|go_num,HJ0.o⟩
    simp[intOf];omega
  obtain⟨r,hr⟩:∃r,T[j]?=some r:=⟨_,List.getElem?_eq_getElem (by rw[HN2.o];exact hjl)⟩;obtain⟨b,o,a,hA1,hb,c0,c1,c2,_⟩:=(HSE.o.below hb36).row hr;subst hA1;obtain⟨w7,hw7⟩:∃w7,q6.alloc (.cells #[.int .i64 r.1,.int .i64 r.2.1,.slice a.1 r.2.2.length a.2] 39)=w7:=⟨_,rfl⟩;have hatn:Rw.At w7 q6.heap.size 39 [.int .i64 r.1,.int .i64 r.2.1,.slice a.1 r.2.2.length a.2]:=by rw[←hw7];exact Rw.At.new q6 _ _
  have hb7:Below q6.heap.size q6 w7:=by rw[←hw7];exact (Below.refl _ _).alloc (Nat.le_refl _) _
  have HJ7:=hy' (hbj.trans (hb7.mono hbj.size));have HB37:=hy' (hb36.trans (hb7.mono hb36.size));have hat:=HT3.o.below HB37.o;have z0:=hat.cell 0 rfl;have z1:=hat.cell 1 rfl;have zl:=hat.lt;obtain⟨x0,_,_,_,_,xl⟩:=hatn.three;have jI:(j:Int)<n2:=by omega
  have j0:(0:Int)≤j:=by omega
  have hrm:=List.mem_of_getElem? hr;obtain⟨M,hM⟩:∃M,Ud.full T r.1=M:=⟨_,rfl⟩;obtain⟨mn,hmn⟩:∃q,M.length=q:=⟨_,rfl⟩;have hfu:=HFU.o r hrm;have hft:=HFT.o r hrm;have hout:=HOUT.o r hrm y HYZ.o HPY.o;rw[hM]at hfu hft hout;rw[hmn]at hfu hft;have HFU2:=hy' hfu;have HOUT2:=hy' hout;have HMN:=hy' hmn;have HW7:=hy' hw7;clear hr hatn hat hrm hM hmn hfu hout hw7 hb7 hb36 hbj;go_upto_region 31 with (fail)
  rw[HW7.o];clear c0 c1 c2 hb HW7;go_wp2_with fail;refine (HFU2.o w7 HB37.o).mono ?_;rintro e q8 ⟨A6,c6,rfl,hs6,hb8⟩;have HJ8:=hy' (HJ7.o.trans (hb8.mono HJ7.o.size));have HS6:=hy' hs6;clear hb8 hs6 x0 xl z0 z1 zl;go_wp2_with fail;go_loopw [20] (fun vm wr=>∃m:Nat,1≤m∧m≤mn+1∧vm=.int .i64 m∧Below q8.heap.size q8 wr) (fun vm _=>mn+1-(intOf vm).toNat)
  case atStart=>exact⟨1,Nat.le_refl _,by omega,rfl,Below.refl _ _⟩
  obtain⟨m,hm1,hmm,rfl,hbm⟩:=hrel;obtain⟨q9,rfl⟩:∃q:World,q=wr:=⟨_,rfl⟩;have HM0:=hy' hbm
  by_cases hml:m<mn
  · obtain⟨x,hx⟩:∃x,M[m]?=some x:=⟨_,List.getElem?_eq_getElem (by rw[HMN.o];exact hml)⟩;have hxy:(x == y)=false:=by simpa using HOUT2.o m x hm1 hx
    obtain⟨b6,o6,rfl,hb6,hc6⟩:=HS6.o (by rw[List.length_map,HMN.o];omega);have hcm:=hc6 m (by rw[List.length_map,HMN.o];exact hml);rw[List.getElem?_map,hx,Option.map_some,←(zAQ hbm).1 _ _ hb6]at hcm;have hg6:=Nat.lt_of_lt_of_le hb6 hbm.size;have hb39:=HJ8.o.trans (hbm.mono HJ8.o.size);have hcy:=HCY.o;rw[←(zAQ hb39).1 _ _ HB5.o]at hcy;have hg5:=Nat.lt_of_lt_of_le HB5.o hb39.size;have mI:(m:Int)<mn:=by omega
    have m0:(0:Int)≤m:=by omega
    clear hx hc6 hb6 hb39 hbm;go_upto_region 35 with (fail)
    go_quiet (fail);go_wp2_with fail;go_roundw
    case rel=>exact⟨m+1,by omega,by omega,by first|rfl|go_num,by first|exact below_drewN HM0.o _|exact HM0.o.drew|exact HM0.o⟩
    simp[intOf];omega
  have mI:¬(m:Int)<mn:=by omega
  have HJ9:=hy' (HJ8.o.trans (HM0.o.mono HJ8.o.size));have hjn:j+1≤n2∧j<n2:=⟨hjl,hjl⟩;clear hbm;go_wp2_with fail;go_roundw
  case rel=>exact⟨j+1,hjn.1,by first|rfl|go_num,HJ9.o⟩
  simp[intOf];omega
 go_wp2_with fail;go_loopw [9,41] (fun vi vk wr=>∃k m:Nat,k≤un∧vk=.int .i64 k∧(L.take k).flatten.length=m∧vi=.int .i64 m∧Below q3.heap.size q3 wr) (fun _ vk _=>un-(intOf vk).toNat)
 case atStart=>exact⟨0,0,Nat.zero_le _,rfl,rfl,rfl,Below.refl _ _⟩
 obtain⟨k,m,hk,rfl,hm,rfl,hbr⟩:=hrel;obtain⟨q4,rfl⟩:∃q:World,q=wr:=⟨_,rfl⟩;have HR0:=hy' hbr;have HM:=hy' hm
 have hmz:m≤zn:=by
  have h1:L.flatten.length=zn:=by rw[HLF.o,HZN.o]
  have h2:=congrArg (fun q=>(List.flatten q).length) (List.take_append_drop k L);simp only[List.flatten_append,List.length_append]at h2;rw[hm,h1]at h2;omega
 by_cases hlt:k<un
 rotate_left
 · obtain rfl:k=un:=by omega
   have kI:¬(k:Int)<k:=by omega
   have hmz:m=zn:=by
    rw[←hm,List.take_of_length_le (by rw[HUNN.o];exact Nat.le_refl _),HLF.o,HZN.o]
   have HMZ:=hy' hmz;clear hbr hm hmz;go_wp2_with fail;go_meet;exact⟨by rw[HMZ.o],HR0.o⟩
 obtain⟨u,hu⟩:∃u,L[k]?=some u:=⟨_,List.getElem?_eq_getElem (by rw[HUNN.o];exact hlt)⟩;have hum:=List.mem_of_getElem? hu;obtain⟨ul,hul2⟩:∃q,u.length=q:=⟨_,rfl⟩;have hu0:0<ul:=by rw[←hul2];exact List.length_pos_iff.2 (HLNE.o u hum)
 obtain⟨A5,c5,hv5,hs5⟩:=HU9.o k u hu;rw[hul2]at hv5;obtain⟨b9,o9,rfl,hb9,hc9⟩:=HS9.o (by rw[HVL.o];omega);have hc:=hc9 k (by rw[HVL.o];exact hlt);rw[hv5,←(zAQ hbr).1 _ _ hb9]at hc;have hg9:=Nat.lt_of_lt_of_le hb9 hbr.size;have hms:=Sp.flS2 hu;rw[hm,hul2]at hms
 have hmsz:m+ul≤zn:=by
  have h1:L.flatten.length=zn:=by rw[HLF.o,HZN.o]
  have h2:=congrArg (fun q=>(List.flatten q).length) (List.take_append_drop (k+1) L);simp only[List.flatten_append,List.length_append]at h2;rw[hms,h1]at h2;omega
 have HMS:=hy' hms;have HU:=hy' hu;have HUL:=hy' hul2;have HS5:=hy' (hs5.below hbr hbr.size);have hls:=hs5;obtain⟨b5,o5,rfl,hb5,hc5⟩:=hs5 (by rw[List.length_map,hul2];exact hu0);have kI:(k:Int)<un:=by omega
 have k0:(0:Int)≤k:=by omega
 have HB5:=hy' hb5;have HC5:=hy' hc5;have HGT:=hy' hum;obtain⟨y,hy⟩:∃y,u[0]?=some y:=⟨_,List.getElem?_eq_getElem (by omega)⟩;have hcy:=hc5 0 (by rw[List.length_map,hul2];exact hu0);rw[List.getElem?_map,hy,Option.map_some,←(zAQ hbr).1 _ _ hb5,Nat.add_zero]at hcy;have hg5:=Nat.lt_of_lt_of_le hb5 hbr.size;have HY:=hy' hy;have ul0:(0:Int)<ul:=by omega
 have ulne:((ul:Int) == 0)=false:=by simp;omega
 clear hu hum hul2 hv5 hc9 hms hls hbr hm hb9 hb5 hc5 hy;go_upto_region 12 with (fail)
 clear hc hg9;go_cut [60] (fun s wx=>s=.bool false∧Below q4.heap.size q4 wx)
 case first =>
  rcases Nat.eq_zero_or_pos k with hk0|hk0
  · subst hk0;go_wp2_with fail;go_meet;exact⟨rfl,Below.refl _ _⟩
  have kg:(k:Int) > 0:=by omega
  have hpy:p y=true:=by
   obtain⟨c,t,h1,h2⟩:=HLH.o k u hk0 HU.o;have h3:=HY.o;rw[h1]at h3;simp only[List.getElem?_cons_zero,Option.some.injEq]at h3;rw[←h3];exact h2
  have HPY:=hy' hpy;clear hpy;go_wp2_with fail;refine (HAP2.o y q4 (HQ3.o.trans (HR0.o.mono HQ3.o.size))).mono ?_;rw[HPY.o];rintro e q5 ⟨rfl,hb⟩;have HB:=hy' hb;clear hb hcy hg5;go_wp2_with fail;go_meet;exact⟨rfl,HB.o⟩
 case rest =>
 obtain⟨rfl,hbc⟩:=hcut;obtain⟨q5,rfl⟩:∃q:World,q=wc:=⟨_,rfl⟩;have HQ5:=hy' (HR0.o.trans (hbc.mono HR0.o.size));clear hbc hcy hg5;go_wp2_with fail;go_loopw [9,63] (fun vi vj wr=>∃j i:Nat,j≤ul∧vj=.int .i64 j∧i=m+j∧vi=.int .i64 i∧Below q3.heap.size q3 wr) (fun _ vj _=>ul-(intOf vj).toNat)
 case atStart=>exact⟨0,m,Nat.zero_le _,rfl,rfl,rfl,HQ5.o⟩
 obtain⟨j,i,hj,rfl,hi,rfl,hbr⟩:=hrel;obtain⟨q6,rfl⟩:∃q:World,q=wr:=⟨_,rfl⟩;have HR1:=hy' hbr
 by_cases hjl:j<ul
 rotate_left
 · obtain rfl:j=ul:=by omega
   have jI:¬(j:Int)<j:=by omega
   have HI:=hy' hi;clear hbr hi;go_wp2_with fail;go_roundw
   case rel=>exact⟨k+1,i,by omega,by first|rfl|go_num,by rw[HMS.o,HI.o],rfl,HR1.o⟩
   simp[intOf];omega
 obtain⟨x,hx⟩:∃x,u[j]?=some x:=⟨_,List.getElem?_eq_getElem (by rw[HUL.o];exact hjl)⟩;have hzx:=Sp.flG2 HU.o hx;rw[HLF.o,HM.o,←hi]at hzx;have hiz:i<zn:=by omega
 obtain⟨b7,o7,rfl,hb7,hc7⟩:=HS73.o (by rw[List.length_map,HZN.o];omega);have hz:=hc7 i (by rw[List.length_map,HZN.o];exact hiz);rw[List.getElem?_map,hzx,Option.map_some,←(zAQ hbr).1 _ _ hb7]at hz;have hg7:=Nat.lt_of_lt_of_le hb7 hbr.size;have hcx:=HC5.o j (by rw[List.length_map,HUL.o];exact hjl);rw[List.getElem?_map,hx,Option.map_some,←(zAQ hbr).1 _ _ HB5.o]at hcx;have hg5:=Nat.lt_of_lt_of_le HB5.o hbr.size;have jI:(j:Int)<ul:=by omega
 have j0:(0:Int)≤j:=by omega
 have iI:¬(i:Int)≥zn:=by omega
 have iL:(i:Int)<zn:=by omega
 have i0:(0:Int)≤i:=by omega
 have hsi:(i:Int)+1=((i+1:Nat):Int):=by omega
 have hxb:=Nf.isC_i32 (HZC.o x (HLZ.o u HGT.o x (List.mem_of_getElem? hx)));have hw0:IntKind.i64.wrap x=x:=by rw[IntKind.wrap_i64];omega
 have hxx:(x != x)=false:=by simp
 have HX:=hy' hx;have HI:=hy' hi;clear hx hzx hc7 hb7 hbr hi hsi hxb;rcases Nat.eq_zero_or_pos j with hj0|hj0
 · subst hj0;rw[Nat.add_zero]at hcx;go_wp2_with fail;go_roundw
   case rel=>exact⟨0+1,i+1,by omega,by first|rfl|go_num,by have:=HI.o;omega,by first|rfl|go_num,HR1.o⟩
   simp[intOf];omega
 have jg:(j:Int) > 0:=by omega
 have hpx:p x=false:=by
  refine HLT.o u HGT.o x (List.mem_of_getElem? (i:=j-1) ?_);rw[List.getElem?_tail,show j-1+1=j by omega];exact HX.o
 have HPX:=hy' hpx;clear hpx;go_wp2_with fail;refine (HAP2.o x q6 (HQ3.o.trans (HR1.o.mono HQ3.o.size))).mono ?_;rw[HPX.o];rintro e q7 ⟨rfl,hb⟩;have HR2:=hy' (HR1.o.trans (hb.mono HR1.o.size));clear hb hcx hg5 hz hg7;go_wp2_with fail;go_roundw
 case rel=>exact⟨j+1,i+1,by omega,by first|rfl|go_num,by have:=HI.o;omega,by first|rfl|go_num,HR2.o⟩
 simp[intOf];omega
end Go.Proofs.YtjakbblocbicjaaGreatDoor
