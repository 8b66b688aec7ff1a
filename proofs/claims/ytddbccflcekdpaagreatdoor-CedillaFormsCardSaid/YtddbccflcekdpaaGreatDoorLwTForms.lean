/- The law CedillaForms, by walking its text. -/
import Derived.Test.YtddbccflcekdpaaGreatDoorFiBits
import Derived.Test.YtddbccflcekdpaaGreatDoorNfLaid
import Derived.Test.YtddbccflcekdpaaGreatDoorSlCut
import Derived.Test.YtddbccflcekdpaaGreatDoorStage
import Derived.Test.YtddbccflcekdpaaGreatDoorMdTable
import Derived.BigQuiet
import Derived.Deep.DeepCutAuto
namespace Go.Proofs.YtddbccflcekdpaaGreatDoor
open Go.RowKit
set_option linter.unusedSimpArgs false
set_option linter.unusedVariables false
set_option maxRecDepth 100000 in
set_option maxHeartbeats 4000000 in
theorem Tp.cedillaForms_any (w:World) (A XA PA MA:Option Addr) (n c xn xc pn pc mn mc:Nat) (T0:List Rw.Row) (E0 P M:List Int) (hT:Tx.In A XA PA MA n c xn xc pn pc mn mc T0 E0 P M w) (at':Int) (ha1 : -9223372036854775808≤at') (ha2:at'≤9223372036854775807) (hL:Nf.Laid w) :
 Calls Tryz.prog 8 #[.agg #[.slice A n c,.slice XA xn xc,.slice PA pn pc,.slice MA mn mc],.int .i64 at'] w fun e w'=>e=.returned (.bool true)∧Below w.heap.size w w':=by
 have HMADE:=hy' (fun W (hW:Below w.heap.size w W)=>zHl A XA PA MA n c xn xc pn pc mn mc T0 E0 P M 20 W (by decide) (hT.below hW) (Rw.Laid.next hL.1 hW));obtain⟨wa,hwa⟩:∃wa,w.alloc (.cells #[.slice A n c,.slice XA xn xc,.slice PA pn pc,.slice MA mn mc] 27)=wa:=⟨_,rfl⟩;have hba:Below w.heap.size w wa:=by rw[←hwa];exact (Below.refl _ _).alloc (Nat.le_refl _) _
 have hat:Rw.At wa w.heap.size 27 [.slice A n c,.slice XA xn xc,.slice PA pn pc,.slice MA mn mc]:=by rw[←hwa];exact Rw.At.new w 27 [.slice A n c,.slice XA xn xc,.slice PA pn pc,.slice MA mn mc]
 have HWA:=hy' hwa;have HBA:=hy' hba;have HAT:=hy' hat;have HH:=hy' hL.2;clear hwa hba hat hT hL;go_enter Tryz.func8,Tryz.ntmps8;go_upto_region 1 with (fail)
 rw[HWA.o];obtain⟨w1,hw1⟩:∃w1,wa=w1:=⟨_,rfl⟩;have hat1:=HAT.o;rw[hw1]at hat1;have HB1:=hy' (show Below w.heap.size w w1 by rw[←hw1];exact HBA.o);rw[hw1];have x0:=hat1.cell 0 rfl;have x1:=hat1.cell 1 rfl;have x2:=hat1.cell 2 rfl;have x3:=hat1.cell 3 rfl;have xl:=hat1.lt;clear hw1 hat1;go_wp2_with fail;refine (HMADE.o w1 HB1.o).mono ?_;rintro e w2 ⟨p,v2,T,E,S,l,Al,cl,rfl,his,hdo,hR,hown,hlc,hll,hap,hb2⟩;obtain⟨pb,rfl,hpbl⟩:=his.form;obtain⟨A2,c2,XA2,xc2,rfl,hdo2⟩:=id hdo;obtain⟨n2,hn2⟩:∃k,T.length=k:=⟨_,rfl⟩;obtain⟨xn2,hxn2⟩:∃k,E.length=k:=⟨_,rfl⟩;obtain⟨ln,hln⟩:∃k,l.length=k:=⟨_,rfl⟩;unfold zBs at hdo hap ⊢;rw[hn2,hxn2]at hdo ⊢;simp only[hn2,hxn2]at hap;rw[hln]at hown hll hap ⊢;obtain⟨w3,hw3⟩:∃w3,w2.alloc (.cells #[.slice A2 n2 c2,.slice XA2 xn2 xc2] 25)=w3:=⟨_,rfl⟩;have hb3:Below w2.heap.size w2 w3:=by rw[←hw3];exact (Below.refl _ _).alloc (Nat.le_refl _) _
 have hat3:Rw.At w3 w2.heap.size 25 [.slice A2 n2 c2,.slice XA2 xn2 xc2]:=by rw[←hw3];exact Rw.At.new w2 25 [.slice A2 n2 c2,.slice XA2 xn2 xc2]
 have HW3:=hy' hw3;have HB3:=hy' (HB1.o.trans ((hb2.trans (hb3.mono hb2.size)).mono HB1.o.size));have HT3:=hy' hat3;have HI3:=hy' (his.below hb3);have HD3:=hy' (hdo.below hb3);have HL3:=hy' (zA4 hown hb3 (Nat.le_refl _));have HR:=hy' hR;have HLC:=hy' hlc;have HLN:=hy' hln;have HN2:=hy' hn2;have HAP:Hy (∀w'',w3.grownBy w'' (Value.slice Al ln cl).ownBlock→Ud.Is w'' (.pointer (some ⟨pb,0,none⟩)) T S∧Md.Doc w'' (.agg #[.slice A2 n2 c2,.slice XA2 xn2 xc2]) T E):=hy' fun w'' hg=>hap w'' (zA0 (by rw[←hw3];exact World.grownBy_alloc _ _ _) hg)
 have HLB:=hy' (fun x (hx:x∈l)=>Tx.isC_i32 (hlc x hx));have z0:=hat3.cell 0 rfl;have z1:=hat3.cell 1 rfl;have zl:=hat3.lt;clear x0 x1 x2 x3 xl hap hdo hdo2 his hR hown hlc hln hn2 hxn2 hw3 hb3 hat3 hb2 HMADE HWA HBA HAT;go_upto_region 2 with (fail)
 rw[HW3.o];have hok:=HR.o.ok;have HL33:=hy' (Sl.of_own HL3.o);have HH3:=hy' (HH.o.next HB3.o);have HQ0:=hy' (Below.refl w3.heap.size w3)
 have HEN:Hy (∀(A':Option Addr) (m c':Nat) (z:List Int) (sq:ByteArray) (W:World),z.length=m→m≤2000→(∀c∈z,C.isC c=true)→zA6 z=sq→Sl W W.heap.size A' (z.map (Value.int .i64))→Calls Tryz.prog 13 #[.slice A' m c'] W fun e w'=>e=.returned (.string sq)∧Below W.heap.size W w'):=hy' fun A' m c' z sq W hz hm hzl hs hA=>by
  have:=zG1 A' m c' z W hz (by omega) hA hzl;rw[hs]at this;exact this
 have HOD:Hy (∀(z:List Int) (s r:ByteArray) (W:World),Below w3.heap.size w3 W→(∀c∈z,C.isC c=true)→(Nf.fl T z).length≤1024→zA6 z=s→zA6 (Nf.chars T z)=r→Calls Tryz.prog 14 #[.pointer (some ⟨pb,0,none⟩),.string s] W fun e w'=>e=.returned (.tuple #[.string r,.int .i64 0])∧Below W.heap.size W w'):=hy' fun z s r W hW hz hf hs hr=>by
  have:=Nf.of_chars _ T S z W hok (HI3.o.below hW) (HH3.o.next hW) hz (by have:=zBE hok z;omega) hf;rw[hs,hr]at this;exact this
 have HOC:Hy (∀(z:List Int) (s r:ByteArray) (W:World),Below w3.heap.size w3 W→(∀c∈z,C.isC c=true)→(Nf.fl T z).length≤1024→zA6 z=s→zA6 (Nc.chars T S z)=r→Calls Tryz.prog 31 #[.pointer (some ⟨pb,0,none⟩),.string s] W fun e w'=>e=.returned (.tuple #[.string r,.int .i64 0])∧Below W.heap.size W w'):=hy' fun z s r W hW hz hf hs hr=>by
  have:=Nc.of_chars _ T S z W hok (HI3.o.below hW) (HH3.o.next hW) hz (by have:=zBE hok z;omega) hf;rw[hs,hr]at this;exact this
 have HID:Hy (∀(z:List Int) (s:ByteArray) (b:Bool) (W:World),Below w3.heap.size w3 W→(∀c∈z,C.isC c=true)→(Nf.fl T z).length≤1024→zA6 z=s→decide (Nf.chars T z=z)=b→Calls Tryz.prog 18 #[.pointer (some ⟨pb,0,none⟩),.string s] W fun e w'=>e=.returned (.bool b)∧Below W.heap.size W w'):=hy' fun z s b W hW hz hf hs hr=>by
  have:=Nf.is_chars _ T S z W hok (HI3.o.below hW) (HH3.o.next hW) hz (by have:=zBE hok z;omega) hf;rw[hs,hr]at this;exact this
 have HIC:Hy (∀(z:List Int) (s:ByteArray) (b:Bool) (W:World),Below w3.heap.size w3 W→(∀c∈z,C.isC c=true)→(Nf.fl T z).length≤1024→zA6 z=s→decide (Nc.chars T S z=z)=b→Calls Tryz.prog 29 #[.pointer (some ⟨pb,0,none⟩),.string s] W fun e w'=>e=.returned (.bool b)∧Below W.heap.size W w'):=hy' fun z s b W hW hz hf hs hr=>by
  have:=Nc.is_chars _ T S z W hok (HI3.o.below hW) (HH3.o.next hW) hz (by have:=zBE hok z;omega) hf;rw[hs,hr]at this;exact this
 have HRC:Hy (∀(A':Option Addr) (m c':Nat) (z Z:List Int) (zn:Nat) (W:World),Below w3.heap.size w3 W→z.length=m→m≤2000→(∀c∈z,C.isC c=true)→Nf.chars T z=Z→Z.length=zn→Sl W W.heap.size A' (z.map (Value.int .i64))→Calls Tryz.prog 12 #[.agg #[.slice A2 n2 c2,.slice XA2 xn2 xc2],.slice A' m c'] W fun e w'=>∃A' c',e=.returned (.slice A' zn c')∧w'.ownsRow W.heap.size 3 1 (.slice A' zn c') zn (Z.map (Value.int .i64))∧Below W.heap.size W w'):=hy' fun A' m c' z Z zn W hW hz hm hzl hZ hzn hA=>by
  refine (zEl _ T E A' m c' z W (by have:=HR.o.tl;omega) hok.bd (fun r hr=>by have:=(HR.o.rok r hr).2.2.1;omega) (fun c=>zB5 hok c) (HD3.o.below hW) hz (by omega) (fun x hx=>Tx.isC_i32 (hzl x hx)) hA).mono ?_;rintro e w' ⟨A',c',rfl,ho,hb⟩;rw[hZ,hzn]at ho ⊢;exact⟨A',c',rfl,ho,hb⟩
 obtain⟨i0,hi0,iz0,iz1,iz2⟩:=info_parts zDE;have hfl:(Nf.fl T l).length≤1024:=zFs hok (by rw[HLN.o];omega)
 have HMIX:Hy (∀k,k≤ln→(Nf.chars T (l.drop k)).length≤1024∧(∀c∈Nf.chars T (l.drop k)++l.take k,C.isC c=true)∧(Nf.fl T (Nf.chars T (l.drop k)++l.take k)).length≤1024∧(Nf.chars T (l.drop k)++l.take k).length≤1024):=hy' fun k hk=>by
  have h1:∀c∈Nf.chars T (l.drop k)++l.take k,C.isC c=true:=fun c hc=>by
   rcases List.mem_append.1 hc with h|h
   · exact Nf.chars_isC hok (fun y hy=>HLC.o y (List.mem_of_mem_drop hy)) c h
   exact HLC.o c (List.mem_of_mem_take h)
  have h2:(Nf.fl T (Nf.chars T (l.drop k)++l.take k)).length=(Nf.fl T l).length:=by
   rw[Nf.fl_app,zG0 hok,List.length_append,Nf.chars_len,←List.length_append,←Nf.fl_app];rw[Nf.fl_app,List.length_append,Nat.add_comm,←List.length_append,←Nf.fl_app,List.take_append_drop]
  have h3:(Nf.fl T (Nf.chars T (l.drop k)++l.take k)).length≤1024:=by rw[h2];exact hfl
  have h4:=Nat.le_trans (zBE hok _) h3;exact⟨by rw[List.length_append]at h4;omega,h1,h3,h4⟩
 obtain⟨R,hR⟩:∃R,Nc.chars T S l=R:=⟨_,rfl⟩;obtain⟨Z,hZ⟩:∃Z,Nf.chars T l=Z:=⟨_,rfl⟩;have hzc:∀c∈Z,C.isC c=true:=by rw[←hZ];exact Nf.chars_isC hok HLC.o
 have hrc:∀c∈R,C.isC c=true:=by rw[←hR];exact Nc.chars_isC hok HLC.o
 have hzf:(Nf.fl T Z).length≤1024:=by rw[←hZ];exact Nf.fl_ch hok hfl
 have hrf:(Nf.fl T R).length≤1024:=by rw[←hR];exact Nc.fl_ch hok hfl
 have hrz:Nf.chars T R=Z:=by rw[←hR,←hZ];exact zJb hok l
 have hrr:Nc.chars T S R=R:=by rw[←hR];exact Nc.chars_chars hok l
 have hzr:Nc.chars T S Z=R:=by rw[←hR,←hZ];exact zMv hok l
 have hzz:Nf.chars T Z=Z:=by rw[←hZ];exact Nf.chars_chars hok l
 obtain⟨sl,hsl⟩:∃q,zA6 l=q:=⟨_,rfl⟩;obtain⟨sr,hsr⟩:∃q,zA6 R=q:=⟨_,rfl⟩;obtain⟨sz,hsz⟩:∃q,zA6 Z=q:=⟨_,rfl⟩;have H1:Hy (∀W,Below w3.heap.size w3 W→Calls Tryz.prog 14 #[.pointer (some ⟨pb,0,none⟩),.string sl] W fun e w'=>e=.returned (.tuple #[.string sz,.int .i64 0])∧Below W.heap.size W w'):=hy' fun W hW=>HOD.o l sl sz W hW HLC.o hfl hsl (by rw[hZ,hsz])
 have H3:Hy (∀W,Below w3.heap.size w3 W→Calls Tryz.prog 31 #[.pointer (some ⟨pb,0,none⟩),.string sl] W fun e w'=>e=.returned (.tuple #[.string sr,.int .i64 0])∧Below W.heap.size W w'):=hy' fun W hW=>HOC.o l sl sr W hW HLC.o hfl hsl (by rw[hR,hsr])
 have H5:Hy (∀W,Below w3.heap.size w3 W→Calls Tryz.prog 31 #[.pointer (some ⟨pb,0,none⟩),.string sz] W fun e w'=>e=.returned (.tuple #[.string sr,.int .i64 0])∧Below W.heap.size W w'):=hy' fun W hW=>HOC.o Z sz sr W hW hzc hzf hsz (by rw[hzr,hsr])
 have H6:Hy (∀W,Below w3.heap.size w3 W→Calls Tryz.prog 14 #[.pointer (some ⟨pb,0,none⟩),.string sr] W fun e w'=>e=.returned (.tuple #[.string sz,.int .i64 0])∧Below W.heap.size W w'):=hy' fun W hW=>HOD.o R sr sz W hW hrc hrf hsr (by rw[hrz,hsz])
 have H7:Hy (∀W,Below w3.heap.size w3 W→Calls Tryz.prog 18 #[.pointer (some ⟨pb,0,none⟩),.string sz] W fun e w'=>e=.returned (.bool true)∧Below W.heap.size W w'):=hy' fun W hW=>HID.o Z sz true W hW hzc hzf hsz (by rw[hzz,decide_eq_true rfl])
 have H8:Hy (∀W,Below w3.heap.size w3 W→Calls Tryz.prog 29 #[.pointer (some ⟨pb,0,none⟩),.string sr] W fun e w'=>e=.returned (.bool true)∧Below W.heap.size W w'):=hy' fun W hW=>HIC.o R sr true W hW hrc hrf hsr (by rw[hrr,decide_eq_true rfl])
 have HALF:Hy (∀(z:List Int),(∀c∈z,C.isC c=true)→∃b:Bool,decide (sz=zA6 (Nf.chars T z))=b∧decide (sr=zA6 (Nc.chars T S z))=b):=hy' fun z hz=>by
  refine⟨decide (Z=Nf.chars T z),?_,?_⟩
  · rw[Bool.eq_iff_iff,decide_eq_true_iff,decide_eq_true_iff,←hsz];exact⟨fun e=>zDY hzc (Nf.chars_isC hok hz) e,fun e=>by rw[e]⟩
  rw[Bool.eq_iff_iff,decide_eq_true_iff,decide_eq_true_iff,←hsr,←hZ,zMw hok,hR];exact⟨fun e=>zDY hrc (Nc.chars_isC hok hz) e,fun e=>by rw[e]⟩
 have HSLE:=hy' hsl;have HU:Hy ((sz.toList == sz.toList)=true∧(sr.toList == sr.toList)=true):=hy' ⟨by rw[zDf,decide_eq_true rfl],by rw[zDf,decide_eq_true rfl]⟩
 have hA:(Al=none∧ln=0∧cl=0)∨∃gb,Al=some ⟨gb,0,none⟩∧ln≤cl:=by
  rcases HL3.o.2 with ⟨hv,h0⟩|⟨g',cap',cur,hv,hg,hb,h1,h2,h3,h4⟩
  · cases hv;exact .inl ⟨rfl,rfl,rfl⟩
  cases hv;exact .inr ⟨g',rfl,by omega⟩
 have HALL:=hy' hA;clear hok hR hZ hfl hzc hrc hzf hrf hrz hrr hzr hzz hsl hsr hsz HL3 z0 z1 zl hA;go_upto_if 36 with (fail)
 go_cut [9] (fun s wx=>(∃k:Nat,s=.int .i64 k∧k≤ln∧(k<ln∨ln=0))∧wx=w3)
 case first =>
  by_cases hn:0<ln
  · obtain⟨j,hj,hpick⟩:=Tx.pick at' hn (show ln≤1000000 by omega);have nI:(ln:Int) > 0:=by omega
    have nz:¬(ln:Int)=0:=by omega
    go_wp2_with fail;go_meet;exact⟨⟨j,by first|rfl|rw[hpick],by omega,.inl hj⟩,rfl⟩
  have nI:¬(ln:Int) > 0:=by omega
  go_wp2_with fail;go_meet;exact⟨⟨0,rfl,by omega,.inr (by omega)⟩,rfl⟩
 obtain⟨⟨k,rfl,hk,hkl⟩,hwc⟩:=hcut;obtain rfl:w3=wc:=hwc.symm;obtain⟨hm1,hm2,hm3,hm4⟩:=HMIX.o k hk;obtain⟨P,hP⟩:∃q,Nf.chars T (l.drop k)=q:=⟨_,rfl⟩;obtain⟨pn,hpn⟩:∃q,P.length=q:=⟨_,rfl⟩;obtain⟨D,hD⟩:∃q,l.take k=q:=⟨_,rfl⟩;rw[hP]at hm1 hm2 hm3 hm4;rw[hD]at hm2 hm3 hm4;rw[hpn]at hm1;have hdl:D.length=k:=by rw[←hD,List.length_take,HLN.o];omega
 obtain⟨m,hm⟩:∃q,pn+k=q:=⟨_,rfl⟩;have hml:(P++D).length=m:=by rw[List.length_append,hpn,hdl,hm]
 rw[hml]at hm4;obtain⟨b,hb1,hb2⟩:=HALF.o (P++D) hm2;obtain⟨st,hst⟩:∃q,zA6 (P++D)=q:=⟨_,rfl⟩;obtain⟨sq,hsq⟩:∃q,zA6 (Nf.chars T (P++D))=q:=⟨_,rfl⟩;obtain⟨ss,hss⟩:∃q,zA6 (Nc.chars T S (P++D))=q:=⟨_,rfl⟩;rw[hsq]at hb1;rw[hss]at hb2;have H2:Hy (∀W,Below w3.heap.size w3 W→Calls Tryz.prog 14 #[.pointer (some ⟨pb,0,none⟩),.string st] W fun e w'=>e=.returned (.tuple #[.string sq,.int .i64 0])∧Below W.heap.size W w'):=hy' fun W hW=>HOD.o _ st sq W hW hm2 hm3 hst hsq
 have H4:Hy (∀W,Below w3.heap.size w3 W→Calls Tryz.prog 31 #[.pointer (some ⟨pb,0,none⟩),.string st] W fun e w'=>e=.returned (.tuple #[.string ss,.int .i64 0])∧Below W.heap.size W w'):=hy' fun W hW=>HOC.o _ st ss W hW hm2 hm3 hst hss
 have HB:=hy' (show (sz.toList == sq.toList)=b∧(sr.toList == ss.toList)=b from ⟨by rw[zDf,hb1],by rw[zDf,hb2]⟩)
 have HRK:Hy (∀(A':Option Addr) (c':Nat) (W:World),Below w3.heap.size w3 W→Sl W W.heap.size A' ((l.drop k).map (Value.int .i64))→Calls Tryz.prog 12 #[.agg #[.slice A2 n2 c2,.slice XA2 xn2 xc2],.slice A' (ln-k) c'] W fun e w'=>∃A' c',e=.returned (.slice A' pn c')∧w'.ownsRow W.heap.size 3 1 (.slice A' pn c') pn (P.map (Value.int .i64))∧Below W.heap.size W w'):=hy' fun A' c' W hW hA =>
  HRC.o A' (ln-k) c' (l.drop k) P pn W hW (by rw[List.length_drop,HLN.o]) (by omega) (fun x hx=>HLC.o x (List.mem_of_mem_drop hx)) hP hpn hA
 have HDL:=hy' hdl;have HML:=hy' hml;have HMC:=hy' hm2;have HST:=hy' hst;have HM:=hy' hm
 have HTAK:Hy (∀W,Below w3.heap.size w3 W→Sl W W.heap.size Al (D.map (Value.int .i64))):=hy' fun W hW=>by
  rw[←hD,List.map_take];exact (HL33.o.below hW hW.size).takeN k
 have HDRO:Hy (∀gb,Al=some ⟨gb,0,none⟩→∀W,Below w3.heap.size w3 W→Sl W W.heap.size (some ⟨gb,k,none⟩) ((l.drop k).map (Value.int .i64))):=hy' fun gb hg W hW=>by
  have:=HL33.o;rw[hg]at this;have:=(this.below hW hW.size).dropN k;rw[Nat.zero_add]at this;rw[List.map_drop];exact this
 have HCK:Hy (∀W,Below w3.heap.size w3 W→(∀x:Stg.Later (Stg.Keep fun b=>b<w3.heap.size) W,x.val.cell? ⟨w2.heap.size,0,none⟩=some (.slice A2 n2 c2))∧(∀x:Stg.Later (Stg.Keep fun b=>b<w3.heap.size) W,x.val.cell? ⟨w2.heap.size,1,none⟩=some (.slice XA2 xn2 xc2))):=hy' fun W hW =>
  have hT:=HT3.o.below hW
  ⟨Stg.Keep.cells (hT.cell 0 rfl) HT3.o.lt,Stg.Keep.cells (hT.cell 1 rfl) HT3.o.lt⟩
 have HX0:=hy' (Below.refl w3.heap.size w3).drew;have H1D:=hy' (zBN .i64 D);have HLD:=hy' (show (D.map (Value.int .i64)).length=k*1 by rw[List.length_map,hdl];omega);clear hP hpn hD hdl hml hm2 hm3 hst hsq hss hm hb1 hb2;go_upto_region 7 with (fail)
 go_cut [10] (fun s wx=>(∃A' c',s=.slice A' m c'∧Sl wx wx.heap.size A' ((P++D).map (Value.int .i64)))∧Below w3.heap.size w3 wx)
 case rest =>
  obtain⟨⟨A7,c7,rfl,hs7⟩,hbc⟩:=hcut;obtain⟨q0,rfl⟩:∃w4:World,w4=wc:=⟨_,rfl⟩;have HS7:=hy' hs7;have HQ0:=hy' hbc;clear hs7 hbc;go_wp2_with fail;refine (HEN.o Al ln cl l sl q0 HLN.o (by omega) HLC.o HSLE.o (HL33.o.below HQ0.o HQ0.o.size)).mono ?_;rintro e q1 ⟨rfl,hb⟩;have HZ:=hy' hb;have HQ1:=hy' (HQ0.o.trans (hb.mono HQ0.o.size));clear hb;go_wp2_with fail;refine (HEN.o A7 m c7 (P++D) st q1 HML.o (by omega) HMC.o HST.o (HS7.o.below HZ.o HZ.o.size)).mono ?_;rintro e q2 ⟨rfl,hb⟩;have HQ2:=hy' (HQ1.o.trans (hb.mono HQ1.o.size));clear hb;go_wp2_with fail;refine (H1.o q2 HQ2.o).mono ?_;rintro e q3 ⟨rfl,hb⟩;have HQ3:=hy' (HQ2.o.trans (hb.mono HQ2.o.size));clear hb;go_wp2_with fail;refine (H2.o q3 HQ3.o).mono ?_;rintro e q4 ⟨rfl,hb⟩;have HQ4:=hy' (HQ3.o.trans (hb.mono HQ3.o.size));clear hb;go_wp2_with fail;refine (H3.o q4 HQ4.o).mono ?_;rintro e q5 ⟨rfl,hb⟩;have HQ5:=hy' (HQ4.o.trans (hb.mono HQ4.o.size));clear hb;go_wp2_with fail;refine (H4.o q5 HQ5.o).mono ?_;rintro e q6 ⟨rfl,hb⟩;have HQ6:=hy' (HQ5.o.trans (hb.mono HQ5.o.size));clear hb;have HF:=hy' (HB3.o.trans (HQ6.o.mono HB3.o.size));obtain⟨hb1,hb2⟩:=HB.o;cases b
  all_goals
   go_wp2_with fail;refine (H5.o q6 HQ6.o).mono ?_;rintro e q7 ⟨rfl,hb⟩;have HQ7:=hy' (HQ6.o.trans (hb.mono HQ6.o.size));clear hb hb1 hb2;go_wp2_with fail;refine (H6.o q7 HQ7.o).mono ?_;rintro e q8 ⟨rfl,hb⟩;have HQ8:=hy' (HQ7.o.trans (hb.mono HQ7.o.size));clear hb;obtain⟨hu1,hu2⟩:=HU.o;go_wp2_with fail;refine (H7.o q8 HQ8.o).mono ?_;rintro e q9 ⟨rfl,hb⟩;have HQ9:=hy' (HQ8.o.trans (hb.mono HQ8.o.size));clear hb;go_wp2_with fail;refine (H8.o q9 HQ9.o).mono ?_;rintro e q10 ⟨rfl,hb⟩;have HQ10:=hy' (HQ9.o.trans (hb.mono HQ9.o.size));clear hb;have HF:=hy' (HB3.o.trans (HQ10.o.mono HB3.o.size));go_wp2_with fail;go_ret;exact⟨by first|rfl|(simp;done),HF.o⟩
 rcases HALL.o with ⟨rfl,rfl,rfl⟩|⟨gb,rfl,hcap⟩
 · obtain rfl:k=0:=by omega
   have HDD0:Hy (∀W:World,Sl W W.heap.size none ((l.drop 0).map (Value.int .i64))):=hy' fun W=>by
    rw[List.drop_zero,List.eq_nil_of_length_eq_zero HLN.o];exact Sl.nil _ _ _
   refine Stg.wp_region (by kernel_rfl) (Stg.Keep fun b=>b<w3.heap.size) (Stg.Keep.rel _) ?_;obtain⟨f0,f1⟩:=HCK.o w3.drew HX0.o;refine Stg.read 0 (by kernel_rfl) w3.drew rfl ?_;intro K hK;go_big_quiet_op;go_big_quiet_on
   (iterate 3 (refine Stg.readW (by kernel_rfl) ?_;intro K hK;go_big_quiet_op;go_big_quiet_on))
   refine Stg.call 12 _ _ rfl Tryz.func12 [.agg #[.slice A2 n2 c2,.slice XA2 xn2 xc2],.slice none 0 0] rfl w3.drew _ (HRK.o none 0 w3.drew HX0.o (HDD0.o w3.drew)) (by kernel_rfl) rfl ?_;rintro e x1 ⟨A6,c6,rfl,ho6,hb⟩;refine⟨_,rfl,(Stg.Keep.of_below hb (fun q hq=>Nat.lt_of_lt_of_le hq HX0.o.size)),?_⟩;have HX1:=hy' (HX0.o.trans (hb.mono HX0.o.size));have HO6:=hy' (zAw ho6 HX0.o.size);clear ho6;clear hb;intro A' hA';simp only[Act.put,List.setIfInBounds_toArray,List.set_cons_succ,List.set_cons_zero]at hA';subst hA'
   (iterate 3 (refine Stg.readW (by kernel_rfl) ?_;intro K hK;go_big_quiet_op;go_big_quiet_on))
   refine Stg.stepW (by kernel_rfl) x1 rfl ?_;intro K hK;have HDD:=hy' (HTAK.o x1 HX1.o);refine zAO x1 _ _ _ rfl w3.heap.size 3 i0 _ 1 8 Tryz.underlying23 hi0 iz0 iz1 iz2 rfl (by omega) _ pn _ rfl HO6.o _ none 0 0 (D.map (Value.int .i64)) rfl HLD.o HDD.o H1D.o (by simp only[maxLen];omega) (by omega) HX1.o.size ?_;intro v7 x2 hown hb hg;have HX2:=hy' (HX1.o.trans hb);refine hK _ _ (Stg.Keep.of_below hb (fun q hq=>hq)) ?_;rw[←List.map_append]at hown;obtain⟨A7,c7,rfl⟩:=zA2 hown;have HO7:=hy' (Sl.of_own hown);clear hown hb hg;intro A' hA';simp only[Act.put,List.setIfInBounds_toArray,List.set_cons_succ,List.set_cons_zero]at hA';subst hA';refine Stg.readW (by kernel_rfl) ?_;intro K hK;go_big_quiet_op;go_big_quiet_on;clear f0 f1;refine Stg.nil x2 rfl ?_;go_wp2_with fail;go_meet;rw[←HM.o];exact⟨⟨A7,c7,rfl,HO7.o⟩,HX2.o⟩
 have k0:(0:Int)≤k:=by omega
 have kc:(k:Int)≤cl:=by omega
 have kl:(k:Int)≤ln:=by omega
 rcases Nat.lt_or_ge k cl with hkc|hkc
 · have kne:¬cl=k:=by omega
   have HDD0:Hy (∀W:World,Below w3.heap.size w3 W→Sl W W.heap.size (some ⟨gb,k,none⟩) ((l.drop k).map (Value.int .i64))):=hy' fun W hW=>HDRO.o gb rfl W hW
   refine Stg.wp_region (by kernel_rfl) (Stg.Keep fun b=>b<w3.heap.size) (Stg.Keep.rel _) ?_;obtain⟨f0,f1⟩:=HCK.o w3.drew HX0.o;refine Stg.read 0 (by kernel_rfl) w3.drew rfl ?_;intro K hK;go_big_quiet_op;go_big_quiet_on
   (iterate 3 (refine Stg.readW (by kernel_rfl) ?_;intro K hK;go_big_quiet_op;go_big_quiet_on))
   refine Stg.call 12 _ _ rfl Tryz.func12 [.agg #[.slice A2 n2 c2,.slice XA2 xn2 xc2],.slice (some ⟨gb,k,none⟩) (ln-k) (cl-k)] rfl w3.drew _ (HRK.o (some ⟨gb,k,none⟩) (cl-k) w3.drew HX0.o (HDD0.o w3.drew HX0.o)) (by kernel_rfl) rfl ?_;rintro e x1 ⟨A6,c6,rfl,ho6,hb⟩;refine⟨_,rfl,(Stg.Keep.of_below hb (fun q hq=>Nat.lt_of_lt_of_le hq HX0.o.size)),?_⟩;have HX1:=hy' (HX0.o.trans (hb.mono HX0.o.size));have HO6:=hy' (zAw ho6 HX0.o.size);clear ho6;clear hb;intro A' hA';simp only[Act.put,List.setIfInBounds_toArray,List.set_cons_succ,List.set_cons_zero]at hA';subst hA'
   (iterate 3 (refine Stg.readW (by kernel_rfl) ?_;intro K hK;go_big_quiet_op;go_big_quiet_on))
   refine Stg.stepW (by kernel_rfl) x1 rfl ?_;intro K hK;have HDD:=hy' (HTAK.o x1 HX1.o);refine zAO x1 _ _ _ rfl w3.heap.size 3 i0 _ 1 8 Tryz.underlying23 hi0 iz0 iz1 iz2 rfl (by omega) _ pn _ rfl HO6.o _ (some ⟨gb,0,none⟩) k cl (D.map (Value.int .i64)) rfl HLD.o HDD.o H1D.o (by simp only[maxLen];omega) (by omega) HX1.o.size ?_;intro v7 x2 hown hb hg;have HX2:=hy' (HX1.o.trans hb);refine hK _ _ (Stg.Keep.of_below hb (fun q hq=>hq)) ?_;rw[←List.map_append]at hown;obtain⟨A7,c7,rfl⟩:=zA2 hown;have HO7:=hy' (Sl.of_own hown);clear hown hb hg;intro A' hA';simp only[Act.put,List.setIfInBounds_toArray,List.set_cons_succ,List.set_cons_zero]at hA';subst hA';refine Stg.readW (by kernel_rfl) ?_;intro K hK;go_big_quiet_op;go_big_quiet_on;clear f0 f1;refine Stg.nil x2 rfl ?_;go_wp2_with fail;go_meet;rw[←HM.o];exact⟨⟨A7,c7,rfl,HO7.o⟩,HX2.o⟩
 obtain rfl:k=0:=by omega
 obtain rfl:cl=0:=by omega
 obtain rfl:ln=0:=by omega
 have HDD0:Hy (∀W:World,Sl W W.heap.size (some ⟨gb,0,none⟩) ((l.drop 0).map (Value.int .i64))):=hy' fun W=>by
  rw[List.drop_zero,List.eq_nil_of_length_eq_zero HLN.o];exact Sl.nil _ _ _
 refine Stg.wp_region (by kernel_rfl) (Stg.Keep fun b=>b<w3.heap.size) (Stg.Keep.rel _) ?_;obtain⟨f0,f1⟩:=HCK.o w3.drew HX0.o;refine Stg.read 0 (by kernel_rfl) w3.drew rfl ?_;intro K hK;go_big_quiet_op;go_big_quiet_on
 (iterate 3 (refine Stg.readW (by kernel_rfl) ?_;intro K hK;go_big_quiet_op;go_big_quiet_on))
 refine Stg.call 12 _ _ rfl Tryz.func12 [.agg #[.slice A2 n2 c2,.slice XA2 xn2 xc2],.slice (some ⟨gb,0,none⟩) 0 0] rfl w3.drew _ (HRK.o (some ⟨gb,0,none⟩) 0 w3.drew HX0.o (HDD0.o w3.drew)) (by kernel_rfl) rfl ?_;rintro e x1 ⟨A6,c6,rfl,ho6,hb⟩;refine⟨_,rfl,(Stg.Keep.of_below hb (fun q hq=>Nat.lt_of_lt_of_le hq HX0.o.size)),?_⟩;have HX1:=hy' (HX0.o.trans (hb.mono HX0.o.size));have HO6:=hy' (zAw ho6 HX0.o.size);clear ho6;clear hb;intro A' hA';simp only[Act.put,List.setIfInBounds_toArray,List.set_cons_succ,List.set_cons_zero]at hA';subst hA'
 (iterate 3 (refine Stg.readW (by kernel_rfl) ?_;intro K hK;go_big_quiet_op;go_big_quiet_on))
 refine Stg.stepW (by kernel_rfl) x1 rfl ?_;intro K hK;have HDD:=hy' (HTAK.o x1 HX1.o);refine zAO x1 _ _ _ rfl w3.heap.size 3 i0 _ 1 8 Tryz.underlying23 hi0 iz0 iz1 iz2 rfl (by omega) _ pn _ rfl HO6.o _ (some ⟨gb,0,none⟩) 0 0 (D.map (Value.int .i64)) rfl HLD.o HDD.o H1D.o (by simp only[maxLen];omega) (by omega) HX1.o.size ?_;intro v7 x2 hown hb hg;have HX2:=hy' (HX1.o.trans hb);refine hK _ _ (Stg.Keep.of_below hb (fun q hq=>hq)) ?_;rw[←List.map_append]at hown;obtain⟨A7,c7,rfl⟩:=zA2 hown;have HO7:=hy' (Sl.of_own hown);clear hown hb hg;intro A' hA';simp only[Act.put,List.setIfInBounds_toArray,List.set_cons_succ,List.set_cons_zero]at hA';subst hA';refine Stg.readW (by kernel_rfl) ?_;intro K hK;go_big_quiet_op;go_big_quiet_on;clear f0 f1;refine Stg.nil x2 rfl ?_;go_wp2_with fail;go_meet;rw[←HM.o];exact⟨⟨A7,c7,rfl,HO7.o⟩,HX2.o⟩
end Go.Proofs.YtddbccflcekdpaaGreatDoor
