/- The law NfcStays, by walking its text. -/
import Derived.Test.YtjakbblocbicjaaGreatDoorNcLaw
import Derived.Test.YtjakbblocbicjaaGreatDoorTxSame
import Derived.Test.YtjakbblocbicjaaGreatDoorSlCut
import Derived.Test.YtjakbblocbicjaaGreatDoorStage
import Derived.Test.YtjakbblocbicjaaGreatDoorMdTable
import Derived.BigQuiet
import Derived.Deep.DeepCutAuto
namespace Go.Proofs.YtjakbblocbicjaaGreatDoor
open Go.RowKit
set_option linter.unusedSimpArgs false
set_option linter.unusedVariables false
set_option maxRecDepth 100000 in
set_option maxHeartbeats 4000000 in
theorem Nc.nfcStays_any (w:World) (A XA PA MA:Option Addr) (n c xn xc pn pc mn mc:Nat) (T0:List Rw.Row) (E0 P M:List Int) (hT:Tx.In A XA PA MA n c xn xc pn pc mn mc T0 E0 P M w) (at':Int) (ha1 : -9223372036854775808≤at') (ha2:at'≤9223372036854775807) (hL:Nf.Laid w) :
 Calls Tryz.prog 9 #[.agg #[.slice A n c,.slice XA xn xc,.slice PA pn pc,.slice MA mn mc],.int .i64 at'] w fun e w'=>e=.returned (.bool true)∧Below w.heap.size w w':=by
 have HMADE:=hy' (fun W (hW:Below w.heap.size w W)=>zFx A XA PA MA n c xn xc pn pc mn mc T0 E0 P M 25 W (by decide) (hT.below hW) (Rw.Laid.next hL.1 hW));have HAW:=hy' (fun W (hW:Below w.heap.size w W)=>zFv W (hL.next hW));obtain⟨wa,hwa⟩:∃wa,w.alloc (.cells #[.slice A n c,.slice XA xn xc,.slice PA pn pc,.slice MA mn mc] 27)=wa:=⟨_,rfl⟩;have hba:Below w.heap.size w wa:=by rw[←hwa];exact (Below.refl _ _).alloc (Nat.le_refl _) _
 have hat:Rw.At wa w.heap.size 27 [.slice A n c,.slice XA xn xc,.slice PA pn pc,.slice MA mn mc]:=by rw[←hwa];exact Rw.At.new w 27 [.slice A n c,.slice XA xn xc,.slice PA pn pc,.slice MA mn mc]
 have HWA:=hy' hwa;have HBA:=hy' hba;have HAT:=hy' hat;have HH:=hy' hL.2;clear hwa hba hat hT hL;go_enter Tryz.func9,Tryz.ntmps9;go_upto_region 1 with (fail)
 rw[HWA.o];go_wp2_with fail;refine (HAW.o wa HBA.o).mono ?_;rintro e w1 ⟨rfl,hb1⟩;have hat1:=HAT.o.below hb1;have HB1:=hy' (HBA.o.trans (hb1.mono HBA.o.size));have x0:=hat1.cell 0 rfl;have x1:=hat1.cell 1 rfl;have x2:=hat1.cell 2 rfl;have x3:=hat1.cell 3 rfl;have xl:=hat1.lt;clear hb1 hat1;go_wp2_with fail;refine (HMADE.o w1 HB1.o).mono ?_;rintro e w2 ⟨p,v2,T,E,S,l,Al,cl,rfl,his,hdo,hR,hown,hlc,hll,hap,hb2⟩;obtain⟨pb,rfl,hpbl⟩:=his.form;obtain⟨A2,c2,XA2,xc2,rfl,hdo2⟩:=id hdo;obtain⟨n2,hn2⟩:∃k,T.length=k:=⟨_,rfl⟩;obtain⟨xn2,hxn2⟩:∃k,E.length=k:=⟨_,rfl⟩;obtain⟨ln,hln⟩:∃k,l.length=k:=⟨_,rfl⟩;unfold zAX at hdo hap ⊢;rw[hn2,hxn2]at hdo ⊢;simp only[hn2,hxn2]at hap;rw[hln]at hown hll hap ⊢;obtain⟨w3,hw3⟩:∃w3,w2.alloc (.cells #[.slice A2 n2 c2,.slice XA2 xn2 xc2] 25)=w3:=⟨_,rfl⟩;have hb3:Below w2.heap.size w2 w3:=by rw[←hw3];exact (Below.refl _ _).alloc (Nat.le_refl _) _
 have hat3:Rw.At w3 w2.heap.size 25 [.slice A2 n2 c2,.slice XA2 xn2 xc2]:=by rw[←hw3];exact Rw.At.new w2 25 [.slice A2 n2 c2,.slice XA2 xn2 xc2]
 have HW3:=hy' hw3;have HB3:=hy' (HB1.o.trans ((hb2.trans (hb3.mono hb2.size)).mono HB1.o.size));have HT3:=hy' hat3;have HI3:=hy' (his.below hb3);have HD3:=hy' (hdo.below hb3);have HL3:=hy' (zA4 hown hb3 (Nat.le_refl _));have HR:=hy' hR;have HLC:=hy' hlc;have HLN:=hy' hln;have HN2:=hy' hn2;have HAP:Hy (∀w'',w3.grownBy w'' (Value.slice Al ln cl).ownBlock→Ud.Is w'' (.pointer (some ⟨pb,0,none⟩)) T S∧Md.Doc w'' (.agg #[.slice A2 n2 c2,.slice XA2 xn2 xc2]) T E):=hy' fun w'' hg=>hap w'' (zA0 (by rw[←hw3];exact World.grownBy_alloc _ _ _) hg)
 have HLB:=hy' (fun x (hx:x∈l)=>Tx.isC_i32 (hlc x hx));have z0:=hat3.cell 0 rfl;have z1:=hat3.cell 1 rfl;have zl:=hat3.lt;clear x0 x1 x2 x3 xl hap hdo hdo2 his hR hown hlc hln hn2 hxn2 hw3 hb3 hat3 hb2 HMADE HAW HWA HBA HAT;go_upto_region 4 with (fail)
 rw[HW3.o];have hok:=HR.o.ok;obtain⟨i0,hi0,iz0,iz1,iz2⟩:=info_parts zDT;have HL33:=hy' (Sl.of_own HL3.o);have HH3:=hy' (HH.o.next HB3.o);obtain⟨R,hR⟩:∃R,Nc.chars T S l=R:=⟨_,rfl⟩;obtain⟨Z,hZ⟩:∃Z,Nf.chars T l=Z:=⟨_,rfl⟩;have hfl:(Nf.fl T l).length≤1024:=zIc hok (by rw[HLN.o];omega);have hzc:∀c∈Z,C.isC c=true:=by rw[←hZ];exact Nf.chars_isC hok HLC.o
 have hrc:∀c∈R,C.isC c=true:=by rw[←hR];exact Nc.chars_isC hok HLC.o
 have hzl:Z.length≤1024:=by rw[←hZ,Nf.chars_len];exact hfl
 have hrl:R.length≤1024:=by rw[←hR];exact Nat.le_trans (Nc.chars_le hok l) hfl
 have hzf:(Nf.fl T Z).length≤1024:=by rw[←hZ];exact Nf.fl_ch hok hfl
 have hrf:(Nf.fl T R).length≤1024:=by rw[←hR];exact Nc.fl_ch hok hfl
 have hrz:Nf.chars T R=Z:=by rw[←hR,←hZ];exact zMQ hok l
 have hrr:Nc.chars T S R=R:=by rw[←hR];exact Nc.chars_chars hok l
 have hzr:Nc.chars T S Z=R:=by rw[←hR,←hZ];exact zMR hok l
 obtain⟨sl,hsl⟩:∃q,zAv l=q:=⟨_,rfl⟩;obtain⟨sr,hsr⟩:∃q,zAv R=q:=⟨_,rfl⟩;obtain⟨sz,hsz⟩:∃q,zAv Z=q:=⟨_,rfl⟩
 have HEL:Hy (∀W,Below w3.heap.size w3 W→Calls Tryz.prog 26 #[.slice Al ln cl] W fun e w'=>e=.returned (.string sl)∧Below W.heap.size W w'):=hy' fun W hW=>by
  have:=zEs Al ln cl l W HLN.o (by omega) (HL33.o.below hW hW.size) HLC.o;rw[hsl]at this;exact this
 have HCL:Hy (∀W,Below w3.heap.size w3 W→Calls Tryz.prog 36 #[.pointer (some ⟨pb,0,none⟩),.string sl] W fun e w'=>e=.returned (.tuple #[.string sr,.int .i64 0])∧Below W.heap.size W w'):=hy' fun W hW=>by
  have:=Nc.of_chars _ T S l W hok (HI3.o.below hW) (HH3.o.next hW) HLC.o (by rw[HLN.o];omega) hfl;rw[hsl,hR,hsr]at this;exact this
 have HDL:Hy (∀W,Below w3.heap.size w3 W→Calls Tryz.prog 37 #[.pointer (some ⟨pb,0,none⟩),.string sl] W fun e w'=>e=.returned (.tuple #[.string sz,.int .i64 0])∧Below W.heap.size W w'):=hy' fun W hW=>by
  have:=Nf.of_chars _ T S l W hok (HI3.o.below hW) (HH3.o.next hW) HLC.o (by rw[HLN.o];omega) hfl;rw[hsl,hZ,hsz]at this;exact this
 have HDR:Hy (∀W,Below w3.heap.size w3 W→Calls Tryz.prog 37 #[.pointer (some ⟨pb,0,none⟩),.string sr] W fun e w'=>e=.returned (.tuple #[.string sz,.int .i64 0])∧Below W.heap.size W w'):=hy' fun W hW=>by
  have:=Nf.of_chars _ T S R W hok (HI3.o.below hW) (HH3.o.next hW) hrc (by omega) hrf;rw[hsr,hrz,hsz]at this;exact this
 have HCR:Hy (∀W,Below w3.heap.size w3 W→Calls Tryz.prog 36 #[.pointer (some ⟨pb,0,none⟩),.string sr] W fun e w'=>e=.returned (.tuple #[.string sr,.int .i64 0])∧Below W.heap.size W w'):=hy' fun W hW=>by
  have:=Nc.of_chars _ T S R W hok (HI3.o.below hW) (HH3.o.next hW) hrc (by omega) hrf;rw[hsr,hrr,hsr]at this;exact this
 have HIR:Hy (∀W,Below w3.heap.size w3 W→Calls Tryz.prog 38 #[.pointer (some ⟨pb,0,none⟩),.string sr] W fun e w'=>e=.returned (.bool true)∧Below W.heap.size W w'):=hy' fun W hW=>by
  have:=zGc _ T S R W hok (HI3.o.below hW) (HH3.o.next hW) hrc (by omega) hrf;rw[hsr,hrr,decide_eq_true rfl]at this;exact this
 have HCZ:Hy (∀W,Below w3.heap.size w3 W→Calls Tryz.prog 36 #[.pointer (some ⟨pb,0,none⟩),.string sz] W fun e w'=>e=.returned (.tuple #[.string sr,.int .i64 0])∧Below W.heap.size W w'):=hy' fun W hW=>by
  have:=Nc.of_chars _ T S Z W hok (HI3.o.below hW) (HH3.o.next hW) hzc (by omega) hzf;rw[hsz,hzr,hsr]at this;exact this
 have HMIX:Hy (∀k,k≤ln→(Nf.chars T (l.take k)).length≤1024∧(Nf.chars T (l.take k)++l.drop k).length≤1024∧(∀c∈Nf.chars T (l.take k)++l.drop k,C.isC c=true)∧∀W,Below w3.heap.size w3 W→Calls Tryz.prog 36 #[.pointer (some ⟨pb,0,none⟩),.string (zAv (Nf.chars T (l.take k)++l.drop k))] W fun e w'=>e=.returned (.tuple #[.string sr,.int .i64 0])∧Below W.heap.size W w'):=hy' fun k hk=>by
  have h1:∀c∈Nf.chars T (l.take k)++l.drop k,C.isC c=true:=fun c hc=>by
   rcases List.mem_append.1 hc with h|h
   · exact Nf.chars_isC hok (fun y hy=>HLC.o y (List.mem_of_mem_take hy)) c h
   exact HLC.o c (List.mem_of_mem_drop h)
  have h2:Nf.chars T (Nf.chars T (l.take k)++l.drop k)=Z:=by rw[zJC hok,List.take_append_drop,hZ]
  have h3:(Nf.fl T (Nf.chars T (l.take k)++l.drop k)).length≤1024:=by rw[←Nf.chars_len,h2];exact hzl
  have h4:(Nf.chars T (l.take k)++l.drop k).length≤1024:=Nat.le_trans (zLu hok _) h3;have h5:Nc.chars T S (Nf.chars T (l.take k)++l.drop k)=R:=by rw[←hR];exact zEq (by rw[h2,hZ])
  refine⟨by rw[List.length_append]at h4;omega,h4,h1,fun W hW=>?_⟩;have:=Nc.of_chars _ T S _ W hok (HI3.o.below hW) (HH3.o.next hW) h1 (by omega) h3;rw[h5,hsr]at this;exact this
 have HRP:Hy (∀(A':Option Addr) (c' k:Nat) (W:World),Below w3.heap.size w3 W→k≤ln→Sl W W.heap.size A' ((l.take k).map (Value.int .i64))→Calls Tryz.prog 16 #[.agg #[.slice A2 n2 c2,.slice XA2 xn2 xc2],.slice A' k c'] W (zBn (Nf.chars T (l.take k)) W)):=hy' fun A' c' k W hW hk hA =>
  Nf.rchars_any _ T E A' k c' (l.take k) W (by have:=HR.o.tl;omega) hok.bd (fun r hr=>by have:=(HR.o.rok r hr).2.2.1;omega) (fun c=>zAS hok c) (HD3.o.below hW) (by rw[List.length_take,HLN.o];omega) (by omega) (fun y hy=>HLB.o y (List.mem_of_mem_take hy)) hA
 have HQ0:=hy' (Below.refl w3.heap.size w3)
 have HU:Hy (((sz.toList != sz.toList)=false∧(sr.toList != sr.toList)=false)∧(sz.toList == sz.toList)=true∧(sr.toList == sr.toList)=true):=hy' (by
  have h1:(sz.toList == sz.toList)=true:=by rw[zG9,decide_eq_true rfl]
  have h2:(sr.toList == sr.toList)=true:=by rw[zG9,decide_eq_true rfl]
  exact⟨⟨by rw[bne,h1];rfl,by rw[bne,h2];rfl⟩,h1,h2⟩)
 have hA:(Al=none∧ln=0∧cl=0)∨∃gb,Al=some ⟨gb,0,none⟩∧ln≤cl:=by
  rcases HL3.o.2 with ⟨hv,h0⟩|⟨g',cap',cur,hv,hg,hb,h1,h2,h3,h4⟩
  · cases hv;exact .inl ⟨rfl,rfl,rfl⟩
  cases hv;exact .inr ⟨g',rfl,by omega⟩
 have HALL:=hy' hA;clear hok hR hZ hfl hzc hrc hzl hrl hzf hrf hrz hrr hzr hsl hsr hsz HL3 z0 z1 zl hA;go_wp2_with fail;refine (HEL.o w3 HQ0.o).mono ?_;rintro e q1 ⟨rfl,hb⟩;have HQ1:=hy' (HQ0.o.trans (hb.mono HQ0.o.size));clear hb;go_wp2_with fail;refine (HCL.o q1 HQ1.o).mono ?_;rintro e q2 ⟨rfl,hb⟩;have HQ2:=hy' (HQ1.o.trans (hb.mono HQ1.o.size));clear hb;go_wp2_with fail;refine (HDL.o q2 HQ2.o).mono ?_;rintro e q3 ⟨rfl,hb⟩;have HQ3:=hy' (HQ2.o.trans (hb.mono HQ2.o.size));clear hb;go_wp2_with fail;refine (HDR.o q3 HQ3.o).mono ?_;rintro e q4 ⟨rfl,hb⟩;have HQ4:=hy' (HQ3.o.trans (hb.mono HQ3.o.size));clear hb;go_wp2_with fail;refine (HCR.o q4 HQ4.o).mono ?_;rintro e q5 ⟨rfl,hb⟩;have HQ5:=hy' (HQ4.o.trans (hb.mono HQ4.o.size));clear hb;have hu1:=HU.o.1.1;have hu2:=HU.o.1.2;go_wp2_with fail;refine (HIR.o q5 HQ5.o).mono ?_;rintro e q6 ⟨rfl,hb⟩;have HQ6:=hy' (HQ5.o.trans (hb.mono HQ5.o.size));clear hb;clear hu1 hu2;go_upto_if 93 with (fail)
 go_cut [18] (fun s wx=>(∃k:Nat,s=.int .i64 k∧k≤ln∧(k<ln∨ln=0))∧wx=q6)
 case first =>
  by_cases hn:0<ln
  · obtain⟨j,hj,hpick⟩:=Tx.pick at' hn (show ln≤1000000 by omega);have nI:(ln:Int) > 0:=by omega
    have nz:¬(ln:Int)=0:=by omega
    go_wp2_with fail;go_meet;exact⟨⟨j,by first|rfl|rw[hpick],by omega,.inl hj⟩,rfl⟩
  have nI:¬(ln:Int) > 0:=by omega
  go_wp2_with fail;go_meet;exact⟨⟨0,rfl,by omega,.inr (by omega)⟩,rfl⟩
 obtain⟨⟨k,rfl,hk,hkl⟩,hwc⟩:=hcut;obtain rfl:q6=wc:=hwc.symm;obtain⟨hm1,hm2,hm3,hmo⟩:=HMIX.o k hk;obtain⟨P,hP⟩:∃q,Nf.chars T (l.take k)=q:=⟨_,rfl⟩;obtain⟨pn,hpn⟩:∃q,P.length=q:=⟨_,rfl⟩;obtain⟨D,hD⟩:∃q,l.drop k=q:=⟨_,rfl⟩;rw[hP,hD]at hm2 hm3 hmo;rw[hP]at hm1;rw[hpn]at hm1;have hdl:D.length=ln-k:=by rw[←hD,List.length_drop,HLN.o]
 obtain⟨m,hm⟩:∃q,pn+(ln-k)=q:=⟨_,rfl⟩;have hml:(P++D).length=m:=by rw[List.length_append,hpn,hdl,hm]
 obtain⟨sm,hsm⟩:∃q,zAv (P++D)=q:=⟨_,rfl⟩;rw[hml]at hm2;rw[hsm]at hmo
 have HRK:Hy (∀(A':Option Addr) (c':Nat) (W:World),Below w3.heap.size w3 W→Sl W W.heap.size A' ((l.take k).map (Value.int .i64))→Calls Tryz.prog 16 #[.agg #[.slice A2 n2 c2,.slice XA2 xn2 xc2],.slice A' k c'] W fun e w'=>∃A' c',e=.returned (.slice A' pn c')∧w'.ownsRow W.heap.size 3 1 (.slice A' pn c') pn (P.map (Value.int .i64))∧Below W.heap.size W w'):=hy' fun A' c' W hW hA=>by
  have:=HRP.o A' c' k W hW hk hA;unfold zBn at this;rw[hP,hpn]at this;exact this
 have HDL:=hy' hdl;have HML:=hy' hml;have HMC:=hy' hm3;have HSM:=hy' hsm;have HMO:=hy' hmo;have HM:=hy' hm
 have HTAK:Hy (∀W,Below w3.heap.size w3 W→Sl W W.heap.size Al ((l.take k).map (Value.int .i64))):=hy' fun W hW=>by
  rw[List.map_take];exact (HL33.o.below hW hW.size).takeN k
 have HDRO:Hy (∀gb,Al=some ⟨gb,0,none⟩→∀W,Below w3.heap.size w3 W→Sl W W.heap.size (some ⟨gb,k,none⟩) (D.map (Value.int .i64))):=hy' fun gb hg W hW=>by
  have:=HL33.o;rw[hg]at this;have:=(this.below hW hW.size).dropN k;rw[Nat.zero_add]at this;rw[←hD,List.map_drop];exact this
 have HCF:Hy (∀W,Below w3.heap.size w3 W→(∀x:Stg.Later (Stg.Keep fun b=>b<q6.heap.size) W,x.val.cell? ⟨w2.heap.size,0,none⟩=some (.slice A2 n2 c2))∧(∀x:Stg.Later (Stg.Keep fun b=>b<q6.heap.size) W,x.val.cell? ⟨w2.heap.size,1,none⟩=some (.slice XA2 xn2 xc2))):=hy' fun W hW =>
  have hT:=HT3.o.below hW;have hz:w2.heap.size<q6.heap.size:=Nat.lt_of_lt_of_le HT3.o.lt HQ6.o.size
  ⟨Stg.Keep.cells (hT.cell 0 rfl) hz,Stg.Keep.cells (hT.cell 1 rfl) hz⟩
 have HUP:Hy (∀W,Below q6.heap.size q6 W→Below w3.heap.size w3 W):=hy' fun W hW=>HQ6.o.trans (hW.mono HQ6.o.size)
 have HCK:Hy (∀W,Below q6.heap.size q6 W→(∀x:Stg.Later (Stg.Keep fun b=>b<q6.heap.size) W,x.val.cell? ⟨w2.heap.size,0,none⟩=some (.slice A2 n2 c2))∧(∀x:Stg.Later (Stg.Keep fun b=>b<q6.heap.size) W,x.val.cell? ⟨w2.heap.size,1,none⟩=some (.slice XA2 xn2 xc2))):=hy' fun W hW=>HCF.o W (HUP.o W hW)
 have HX0:=hy' (Below.refl q6.heap.size q6).drew;have H1D:=hy' (zF8 .i64 D);have HLD:=hy' (show (D.map (Value.int .i64)).length=(ln-k)*1 by rw[List.length_map,hdl];omega);clear hP hpn hD hdl hml hm3 hsm hmo hm;go_upto_region 16 with (fail)
 go_cut [19] (fun s wx=>(∃A' c',s=.slice A' m c'∧Sl wx wx.heap.size A' ((P++D).map (Value.int .i64)))∧Below q6.heap.size q6 wx)
 case rest =>
  obtain⟨⟨A7,c7,rfl,hs7⟩,hbc⟩:=hcut;obtain⟨q7,rfl⟩:∃w4:World,w4=wc:=⟨_,rfl⟩;have HS7:=hy' hs7;have HQ7:=hy' (HUP.o _ hbc);clear hs7 hbc;go_wp2_with fail;refine (zEs A7 m c7 (P++D) q7 HML.o (by omega) HS7.o HMC.o).mono ?_;rw[HSM.o];rintro e q8 ⟨rfl,hb⟩;have HQ8:=hy' (HQ7.o.trans (hb.mono HQ7.o.size));clear hb;go_wp2_with fail;refine (HMO.o q8 HQ8.o).mono ?_;rintro e q9 ⟨rfl,hb⟩;have HQ9:=hy' (HQ8.o.trans (hb.mono HQ8.o.size));clear hb;go_wp2_with fail;refine (HCZ.o q9 HQ9.o).mono ?_;rintro e qa ⟨rfl,hb⟩;have HQA:=hy' (HB3.o.trans ((HQ9.o.trans (hb.mono HQ9.o.size)).mono HB3.o.size));have hu:=HU.o.2.2;clear hb;go_wp2_with fail;go_ret;exact⟨by first|rfl|(simp;done),HQA.o⟩
 rcases HALL.o with ⟨rfl,rfl,rfl⟩|⟨gb,rfl,hcap⟩
 · obtain rfl:k=0:=by omega
   have HDD0:Hy (∀W:World,Sl W W.heap.size none (D.map (Value.int .i64))):=hy' fun W=>by
    rw[List.eq_nil_of_length_eq_zero HDL.o];exact Sl.nil _ _ _
   refine Stg.wp_region (by kernel_rfl) (Stg.Keep fun b=>b<q6.heap.size) (Stg.Keep.rel _) ?_;obtain⟨f0,f1⟩:=HCK.o q6.drew HX0.o;refine Stg.read 0 (by kernel_rfl) q6.drew rfl ?_;intro K hK;go_big_quiet_op;go_big_quiet_on;iterate 3 (refine Stg.readW (by kernel_rfl) ?_;intro K hK;go_big_quiet_op;go_big_quiet_on)
   refine Stg.cl 16 _ _ rfl Tryz.func16 [.agg #[.slice A2 n2 c2,.slice XA2 xn2 xc2],.slice none 0 0] rfl q6.drew _ (HRK.o none 0 q6.drew (HUP.o _ HX0.o) (HTAK.o q6.drew (HUP.o _ HX0.o))) (by kernel_rfl) rfl ?_;rintro e x1 ⟨A6,c6,rfl,ho6,hb⟩;refine⟨_,rfl,(Stg.Keep.of_below hb (fun q hq=>Nat.lt_of_lt_of_le hq HX0.o.size)),?_⟩;have HX1:=hy' (HX0.o.trans (hb.mono HX0.o.size));have HO6:=hy' (zAR ho6 HX0.o.size);clear ho6;clear hb;intro A' hA';simp only[Act.put,List.setIfInBounds_toArray,List.set_cons_succ,List.set_cons_zero]at hA';subst hA'
   iterate 3 (refine Stg.readW (by kernel_rfl) ?_;intro K hK;go_big_quiet_op;go_big_quiet_on)
   refine Stg.stepW (by kernel_rfl) x1 rfl ?_;intro K hK;have HDD:=hy' (HDD0.o x1);refine zFM x1 _ _ _ rfl q6.heap.size 3 i0 _ 1 8 Tryz.underlying23 hi0 iz0 iz1 iz2 rfl (by omega) _ pn _ rfl HO6.o _ none 0 0 (D.map (Value.int .i64)) rfl HLD.o HDD.o H1D.o (by simp only[maxLen];omega) (by omega) HX1.o.size ?_;intro v7 x2 hown hb hg;have HX2:=hy' (HX1.o.trans hb);refine hK _ _ (Stg.Keep.of_below hb (fun q hq=>hq)) ?_;rw[←List.map_append]at hown;obtain⟨A7,c7,rfl⟩:=zA3 hown;have HO7:=hy' (Sl.of_own hown);clear hown hb hg;intro A' hA';simp only[Act.put,List.setIfInBounds_toArray,List.set_cons_succ,List.set_cons_zero]at hA';subst hA';refine Stg.readW (by kernel_rfl) ?_;intro K hK;go_big_quiet_op;go_big_quiet_on;clear f0 f1;refine Stg.nil x2 rfl ?_;go_wp2_with fail;go_meet;rw[←HM.o];exact⟨⟨A7,c7,rfl,HO7.o⟩,HX2.o⟩
 have k0:(0:Int)≤k:=by omega
 have kc:(k:Int)≤cl:=by omega
 have kl:(k:Int)≤ln:=by omega
 rcases Nat.lt_or_ge k cl with hkc|hkc
 · have kne:¬cl=k:=by omega
   have HDD0:Hy (∀W:World,Below w3.heap.size w3 W→Sl W W.heap.size (some ⟨gb,k,none⟩) (D.map (Value.int .i64))):=hy' fun W hW=>HDRO.o gb rfl W hW
   refine Stg.wp_region (by kernel_rfl) (Stg.Keep fun b=>b<q6.heap.size) (Stg.Keep.rel _) ?_;obtain⟨f0,f1⟩:=HCK.o q6.drew HX0.o;refine Stg.read 0 (by kernel_rfl) q6.drew rfl ?_;intro K hK;go_big_quiet_op;go_big_quiet_on;iterate 3 (refine Stg.readW (by kernel_rfl) ?_;intro K hK;go_big_quiet_op;go_big_quiet_on)
   refine Stg.cl 16 _ _ rfl Tryz.func16 [.agg #[.slice A2 n2 c2,.slice XA2 xn2 xc2],.slice (some ⟨gb,0,none⟩) k cl] rfl q6.drew _ (HRK.o (some ⟨gb,0,none⟩) cl q6.drew (HUP.o _ HX0.o) (HTAK.o q6.drew (HUP.o _ HX0.o))) (by kernel_rfl) rfl ?_;rintro e x1 ⟨A6,c6,rfl,ho6,hb⟩;refine⟨_,rfl,(Stg.Keep.of_below hb (fun q hq=>Nat.lt_of_lt_of_le hq HX0.o.size)),?_⟩;have HX1:=hy' (HX0.o.trans (hb.mono HX0.o.size));have HO6:=hy' (zAR ho6 HX0.o.size);clear ho6;clear hb;intro A' hA';simp only[Act.put,List.setIfInBounds_toArray,List.set_cons_succ,List.set_cons_zero]at hA';subst hA'
   iterate 3 (refine Stg.readW (by kernel_rfl) ?_;intro K hK;go_big_quiet_op;go_big_quiet_on)
   refine Stg.stepW (by kernel_rfl) x1 rfl ?_;intro K hK;have HDD:=hy' (HDD0.o x1 (HUP.o _ HX1.o));refine zFM x1 _ _ _ rfl q6.heap.size 3 i0 _ 1 8 Tryz.underlying23 hi0 iz0 iz1 iz2 rfl (by omega) _ pn _ rfl HO6.o _ (some ⟨gb,k,none⟩) (ln-k) (cl-k) (D.map (Value.int .i64)) rfl HLD.o HDD.o H1D.o (by simp only[maxLen];omega) (by omega) HX1.o.size ?_;intro v7 x2 hown hb hg;have HX2:=hy' (HX1.o.trans hb);refine hK _ _ (Stg.Keep.of_below hb (fun q hq=>hq)) ?_;rw[←List.map_append]at hown;obtain⟨A7,c7,rfl⟩:=zA3 hown;have HO7:=hy' (Sl.of_own hown);clear hown hb hg;intro A' hA';simp only[Act.put,List.setIfInBounds_toArray,List.set_cons_succ,List.set_cons_zero]at hA';subst hA';refine Stg.readW (by kernel_rfl) ?_;intro K hK;go_big_quiet_op;go_big_quiet_on;clear f0 f1;refine Stg.nil x2 rfl ?_;go_wp2_with fail;go_meet;rw[←HM.o];exact⟨⟨A7,c7,rfl,HO7.o⟩,HX2.o⟩
 obtain rfl:k=0:=by omega
 obtain rfl:cl=0:=by omega
 obtain rfl:ln=0:=by omega
 have HDD0:Hy (∀W:World,Sl W W.heap.size (some ⟨gb,0,none⟩) (D.map (Value.int .i64))):=hy' fun W=>by
  rw[List.eq_nil_of_length_eq_zero HDL.o];exact Sl.nil _ _ _
 refine Stg.wp_region (by kernel_rfl) (Stg.Keep fun b=>b<q6.heap.size) (Stg.Keep.rel _) ?_;obtain⟨f0,f1⟩:=HCK.o q6.drew HX0.o;refine Stg.read 0 (by kernel_rfl) q6.drew rfl ?_;intro K hK;go_big_quiet_op;go_big_quiet_on;iterate 3 (refine Stg.readW (by kernel_rfl) ?_;intro K hK;go_big_quiet_op;go_big_quiet_on)
 refine Stg.cl 16 _ _ rfl Tryz.func16 [.agg #[.slice A2 n2 c2,.slice XA2 xn2 xc2],.slice (some ⟨gb,0,none⟩) 0 0] rfl q6.drew _ (HRK.o (some ⟨gb,0,none⟩) 0 q6.drew (HUP.o _ HX0.o) (HTAK.o q6.drew (HUP.o _ HX0.o))) (by kernel_rfl) rfl ?_;rintro e x1 ⟨A6,c6,rfl,ho6,hb⟩;refine⟨_,rfl,(Stg.Keep.of_below hb (fun q hq=>Nat.lt_of_lt_of_le hq HX0.o.size)),?_⟩;have HX1:=hy' (HX0.o.trans (hb.mono HX0.o.size));have HO6:=hy' (zAR ho6 HX0.o.size);clear ho6;clear hb;intro A' hA';simp only[Act.put,List.setIfInBounds_toArray,List.set_cons_succ,List.set_cons_zero]at hA';subst hA'
 iterate 3 (refine Stg.readW (by kernel_rfl) ?_;intro K hK;go_big_quiet_op;go_big_quiet_on)
 refine Stg.stepW (by kernel_rfl) x1 rfl ?_;intro K hK;have HDD:=hy' (HDD0.o x1);refine zFM x1 _ _ _ rfl q6.heap.size 3 i0 _ 1 8 Tryz.underlying23 hi0 iz0 iz1 iz2 rfl (by omega) _ pn _ rfl HO6.o _ (some ⟨gb,0,none⟩) 0 0 (D.map (Value.int .i64)) rfl HLD.o HDD.o H1D.o (by simp only[maxLen];omega) (by omega) HX1.o.size ?_;intro v7 x2 hown hb hg;have HX2:=hy' (HX1.o.trans hb);refine hK _ _ (Stg.Keep.of_below hb (fun q hq=>hq)) ?_;rw[←List.map_append]at hown;obtain⟨A7,c7,rfl⟩:=zA3 hown;have HO7:=hy' (Sl.of_own hown);clear hown hb hg;intro A' hA';simp only[Act.put,List.setIfInBounds_toArray,List.set_cons_succ,List.set_cons_zero]at hA';subst hA';refine Stg.readW (by kernel_rfl) ?_;intro K hK;go_big_quiet_op;go_big_quiet_on;clear f0 f1;refine Stg.nil x2 rfl ?_;go_wp2_with fail;go_meet;rw[←HM.o];exact⟨⟨A7,c7,rfl,HO7.o⟩,HX2.o⟩
end Go.Proofs.YtjakbblocbicjaaGreatDoor
