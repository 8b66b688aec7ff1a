/- The law CedillaUnique, by walking its text. -/
import Derived.Test.YtddbccflcekdpaaGreatDoorFiBits
import Derived.Test.YtddbccflcekdpaaGreatDoorNfLaid
import Derived.Test.YtddbccflcekdpaaGreatDoorSlCut
import Derived.Test.YtddbccflcekdpaaGreatDoorUtf
import Derived.Test.YtddbccflcekdpaaGreatDoorUtfJ
import Derived.Test.YtddbccflcekdpaaGreatDoorMdRef4
import Derived.Test.YtddbccflcekdpaaGreatDoorStage
import Derived.Test.YtddbccflcekdpaaGreatDoorMdTable
import Derived.BigRegion
import Derived.BigQuiet
import Derived.Deep.DeepCutAuto
import Derived.Deep.CutBlock
namespace Go.Proofs.YtddbccflcekdpaaGreatDoor
open Go.RowKit
set_option linter.unusedSimpArgs false
set_option linter.unusedVariables false
set_option maxRecDepth 100000 in
set_option maxHeartbeats 4000000 in
theorem Tp.cedillaUnique_any (w:World) (A XA PA MA:Option Addr) (n c xn xc pn pc mn mc:Nat) (T0:List Rw.Row) (E0 P M:List Int) (hT:Tx.In A XA PA MA n c xn xc pn pc mn mc T0 E0 P M w) (QA:Option Addr) (qn qc:Nat) (qs:List Int) (hq:IsRow .i64 w QA qn qc qs) (hqb:∀x∈qs,-9223372036854775808≤x∧x≤9223372036854775807) (hL:Nf.Laid w) :
 Calls Tryz.prog 3 #[.agg #[.slice A n c,.slice XA xn xc,.slice PA pn pc,.slice MA mn mc],.slice QA qn qc] w fun e w'=>e=.returned (.bool true)∧Below w.heap.size w w':=by
 have HMADE:=hy' (fun W (hW:Below w.heap.size w W)=>zHl A XA PA MA n c xn xc pn pc mn mc T0 E0 P M 16 W (by decide) (hT.below hW) (Rw.Laid.next hL.1 hW));obtain⟨wa,hwa⟩:∃wa,w.alloc (.cells #[.slice A n c,.slice XA xn xc,.slice PA pn pc,.slice MA mn mc] 27)=wa:=⟨_,rfl⟩;have hba:Below w.heap.size w wa:=by rw[←hwa];exact (Below.refl _ _).alloc (Nat.le_refl _) _
 have hat:Rw.At wa w.heap.size 27 [.slice A n c,.slice XA xn xc,.slice PA pn pc,.slice MA mn mc]:=by rw[←hwa];exact Rw.At.new w 27 [.slice A n c,.slice XA xn xc,.slice PA pn pc,.slice MA mn mc]
 have HWA:=hy' hwa;have HBA:=hy' hba;have HAT:=hy' hat;obtain⟨hq1,hq2,hq3⟩:=hq.len_le;have HQS:=hy' ((hq.sl qn (Nat.le_refl _)).below hba hba.size);have HQN:Hy ((qs.take qn).length=qn):=hy' (by rw[List.length_take];omega);have HQM:Hy (qn≤maxLen):=hy' (by omega);have HH:=hy' hL.2;clear hwa hba hat hT hL hq hqb hq1 hq2 hq3;go_enter Tryz.func3,Tryz.ntmps3;go_upto_region 1 with (fail)
 rw[HWA.o];obtain⟨w1,hw1⟩:∃w1,wa=w1:=⟨_,rfl⟩;have hat1:=HAT.o;rw[hw1]at hat1;have HB1:=hy' (show Below w.heap.size w w1 by rw[←hw1];exact HBA.o);rw[hw1];have x0:=hat1.cell 0 rfl;have x1:=hat1.cell 1 rfl;have x2:=hat1.cell 2 rfl;have x3:=hat1.cell 3 rfl;have xl:=hat1.lt;clear hat1;go_wp2_with fail;refine (HMADE.o w1 HB1.o).mono ?_;rintro e w2 ⟨p,v2,T,E,S,l,Al,cl,rfl,his,hdo,hR,hown,hlc,hll,hap,hb2⟩;obtain⟨pb,rfl,hpbl⟩:=his.form;obtain⟨A2,c2,XA2,xc2,rfl,hdo2⟩:=id hdo;obtain⟨n2,hn2⟩:∃k,T.length=k:=⟨_,rfl⟩;obtain⟨xn2,hxn2⟩:∃k,E.length=k:=⟨_,rfl⟩;obtain⟨ln,hln⟩:∃k,l.length=k:=⟨_,rfl⟩;unfold zBs at hdo hap ⊢;rw[hn2,hxn2]at hdo ⊢;simp only[hn2,hxn2]at hap;rw[hln]at hown hll hap ⊢;obtain⟨w3,hw3⟩:∃w3,w2.alloc (.cells #[.slice A2 n2 c2,.slice XA2 xn2 xc2] 25)=w3:=⟨_,rfl⟩;have hb3:Below w2.heap.size w2 w3:=by rw[←hw3];exact (Below.refl _ _).alloc (Nat.le_refl _) _
 have hat3:Rw.At w3 w2.heap.size 25 [.slice A2 n2 c2,.slice XA2 xn2 xc2]:=by rw[←hw3];exact Rw.At.new w2 25 [.slice A2 n2 c2,.slice XA2 xn2 xc2]
 have HW3:=hy' hw3;have HB3:=hy' (HB1.o.trans ((hb2.trans (hb3.mono hb2.size)).mono HB1.o.size));have HT3:=hy' hat3;have HBA3:=hy' (show Below wa.heap.size wa w3 by rw[hw1];exact hb2.trans (hb3.mono hb2.size));have HI3:=hy' (his.below hb3);have HD3:=hy' (hdo.below hb3);have HL3:=hy' (zA4 hown hb3 (Nat.le_refl _));have HR:=hy' hR;have HLC:=hy' hlc;have HLN:=hy' hln;have HN2:=hy' hn2;have HAP:Hy (∀w'',w3.grownBy w'' (Value.slice Al ln cl).ownBlock→Ud.Is w'' (.pointer (some ⟨pb,0,none⟩)) T S∧Md.Doc w'' (.agg #[.slice A2 n2 c2,.slice XA2 xn2 xc2]) T E):=hy' fun w'' hg=>hap w'' (zA0 (by rw[←hw3];exact World.grownBy_alloc _ _ _) hg)
 have HLB:=hy' (fun x (hx:x∈l)=>Tx.isC_i32 (hlc x hx));have z0:=hat3.cell 0 rfl;have z1:=hat3.cell 1 rfl;have zl:=hat3.lt;clear x0 x1 x2 x3 xl hap hdo hdo2 his hR hown hlc hln hn2 hxn2 hw3 hb3 hat3 hb2 hw1 HMADE HWA HBA HAT;go_upto_region 2 with (fail)
 rw[HW3.o];have hok:=HR.o.ok;have HL33:=hy' (Sl.of_own HL3.o);have HH3:=hy' (HH.o.next HB3.o);have HQ0:=hy' (Below.refl w3.heap.size w3)
 have HEN:Hy (∀(A':Option Addr) (m c':Nat) (z:List Int) (sq:ByteArray) (W:World),z.length=m→m≤2000→(∀c∈z,C.isC c=true)→zA6 z=sq→Sl W W.heap.size A' (z.map (Value.int .i64))→Calls Tryz.prog 13 #[.slice A' m c'] W fun e w'=>e=.returned (.string sq)∧Below W.heap.size W w'):=hy' fun A' m c' z sq W hz hm hzl hs hA=>by
  have:=zG1 A' m c' z W hz (by omega) hA hzl;rw[hs]at this;exact this
 have HOD:Hy (∀(z:List Int) (s r:ByteArray) (W:World),Below w3.heap.size w3 W→(∀c∈z,C.isC c=true)→(Nf.fl T z).length≤1024→zA6 z=s→zA6 (Nf.chars T z)=r→Calls Tryz.prog 14 #[.pointer (some ⟨pb,0,none⟩),.string s] W fun e w'=>e=.returned (.tuple #[.string r,.int .i64 0])∧Below W.heap.size W w'):=hy' fun z s r W hW hz hf hs hr=>by
  have:=Nf.of_chars _ T S z W hok (HI3.o.below hW) (HH3.o.next hW) hz (by have:=zBE hok z;omega) hf;rw[hs,hr]at this;exact this
 have HID:Hy (∀(z:List Int) (s:ByteArray) (b:Bool) (W:World),Below w3.heap.size w3 W→(∀c∈z,C.isC c=true)→(Nf.fl T z).length≤1024→zA6 z=s→decide (Nf.chars T z=z)=b→Calls Tryz.prog 18 #[.pointer (some ⟨pb,0,none⟩),.string s] W fun e w'=>e=.returned (.bool b)∧Below W.heap.size W w'):=hy' fun z s b W hW hz hf hs hr=>by
  have:=Nf.is_chars _ T S z W hok (HI3.o.below hW) (HH3.o.next hW) hz (by have:=zBE hok z;omega) hf;rw[hs,hr]at this;exact this
 have HRC:Hy (∀(A':Option Addr) (m c':Nat) (z Z:List Int) (zn:Nat) (W:World),Below w3.heap.size w3 W→z.length=m→m≤2000→(∀c∈z,C.isC c=true)→Nf.chars T z=Z→Z.length=zn→Sl W W.heap.size A' (z.map (Value.int .i64))→Calls Tryz.prog 12 #[.agg #[.slice A2 n2 c2,.slice XA2 xn2 xc2],.slice A' m c'] W fun e w'=>∃A' c',e=.returned (.slice A' zn c')∧w'.ownsRow W.heap.size 3 1 (.slice A' zn c') zn (Z.map (Value.int .i64))∧Below W.heap.size W w'):=hy' fun A' m c' z Z zn W hW hz hm hzl hZ hzn hA=>by
  refine (zEl _ T E A' m c' z W (by have:=HR.o.tl;omega) hok.bd (fun r hr=>by have:=(HR.o.rok r hr).2.2.1;omega) (fun c=>zB5 hok c) (HD3.o.below hW) hz (by omega) (fun x hx=>Tx.isC_i32 (hzl x hx)) hA).mono ?_;rintro e w' ⟨A',c',rfl,ho,hb⟩;rw[hZ,hzn]at ho ⊢;exact⟨A',c',rfl,ho,hb⟩
 obtain⟨i0,hi0,iz0,iz1,iz2⟩:=info_parts zDE;have hfl:(Nf.fl T l).length≤1024:=zFs hok (by rw[HLN.o];omega);obtain⟨Z,hZ⟩:∃Z,Nf.chars T l=Z:=⟨_,rfl⟩;obtain⟨zn,hzn⟩:∃q,Z.length=q:=⟨_,rfl⟩;have hzc:∀c∈Z,C.isC c=true:=by rw[←hZ];exact Nf.chars_isC hok HLC.o
 have hzm:∀c∈Z,Md.mp T c=[]:=by rw[←hZ];exact zEp hok l
 have hzl:zn≤1024:=by rw[←hzn,←hZ,Nf.chars_len];exact hfl
 have HRL:=HRC.o Al ln cl l Z zn w3 HQ0.o HLN.o (by omega) HLC.o hZ hzn HL33.o;obtain⟨sz,hsz⟩:∃q,zA6 Z=q:=⟨_,rfl⟩
 have HY:Hy (∀y:List Int,y.length=zn→(∀c∈y,c∈Z)→(∀c∈y,C.isC c=true)∧(Nf.fl T y).length≤1024∧(∀c∈y,Md.mp T c=[])∧Nf.chars T y=Or.of (Md.cls T) y):=hy' fun y hl hy=>by
  have h1:Nf.fl T y=y:=zHb hok (fun x hx=>hzm x (hy x hx));refine⟨fun c hc=>hzc c (hy c hc),by rw[h1,hl];exact hzl,fun c hc=>hzm c (hy c hc),?_⟩;unfold Nf.chars;rw[h1]
 have HMP:Hy (∀x W,Below w3.heap.size w3 W→C.isC x=true→Md.mp T x=[]→Calls Tryz.prog 17 #[.agg #[.slice A2 n2 c2,.slice XA2 xn2 xc2],.int .i64 x] W fun e w'=>∃A' c',e=.returned (.slice A' 0 c')∧Below W.heap.size W w'):=hy' fun x W hW hx hm=>by
  have hb:=Tx.isC_i32 hx;have:=zEj _ T E x W (by have:=HR.o.tl;omega) (HD3.o.below hW) hb.1 hb.2;unfold RetInts at this;rw[hm]at this;refine this.mono ?_;rintro e w' ⟨A',c',rfl,_,hb⟩;exact⟨A',c',rfl,hb⟩
 have HRO:Hy (∀(A':Option Addr) (c':Nat) (y:List Int) (W:World),Below w3.heap.size w3 W→y.length=zn→Sl W W.heap.size A' (y.map (Value.int .i64))→Calls Tryz.prog 16 #[.agg #[.slice A2 n2 c2,.slice XA2 xn2 xc2],.slice A' zn c'] W fun e w'=>∃A'' c'',e=.returned (.slice A'' zn c'')∧Sl w' w'.heap.size A'' ((Or.of (Md.cls T) y).map (Value.int .i64))∧Below W.heap.size W w'):=hy' fun A' c' y W hW hl hA=>by
  refine (zKo _ T E A' zn c' y W (by have:=HR.o.tl;omega) (HD3.o.below hW) hl (by omega) hA).mono ?_;rintro e w' ⟨A'',c'',rfl,ho,hb⟩;rw[zCA,hl]at ho ⊢;exact⟨A'',c'',rfl,Sl.of_own ho,hb⟩
 have HZN:=hy' hzn;have HZC:=hy' hzc;have HSZ:=hy' hsz;have HZL:=hy' hzl;clear hok hZ hzn hzc hzm hzl hsz hfl HL3;go_wp2_with fail;refine HRL.mono ?_;rintro e q1 ⟨A5,c5,rfl,ho5,hb⟩;have HQ1:=hy' (HQ0.o.trans (hb.mono HQ0.o.size));have HO5:=hy' ho5;clear hb ho5 z0 z1 zl HRL;obtain⟨wb,hwb⟩:∃wb,q1.alloc (.cells #[] 3)=wb:=⟨_,rfl⟩;have hbw:Below q1.heap.size q1 wb:=by rw[←hwb];exact (Below.refl _ _).alloc (Nat.le_refl _) _
 have how:wb.ownsRow q1.heap.size 3 1 (.slice (some ⟨q1.heap.size,0,none⟩) 0 0) 0 []:=by
  have:=Md.own_empty q1 3 (by decide);rw[←hwb];exact this
 have HQB:=hy' (HQ1.o.trans (hbw.mono HQ1.o.size));have HS5:=hy' (Sl.of_own HO5.o);have HZB:=hy' (HS5.o.below hbw (Nat.le_refl _));have HWB:=hy' hwb;have HOW:=hy' how;have HLM:=hy' (show (Z.map (Value.int .i64)).length=zn*1 by rw[List.length_map,HZN.o];omega);have H1C:=hy' (zBN .i64 Z);have hzl:=HZL.o;have hzb:=hbw.size;have HOB:=hy' (zA4 HO5.o hbw (Nat.le_refl _));have HBW2:=hy' hbw;clear hbw how hwb;go_upto_region 6 with (first|(at_builtin;(rw[HWB.o]);refine zAc _ rfl _ _ _ rfl q1.heap.size 3 i0 _ 1 8 Tryz.underlying23 hi0 iz0 iz1 iz2 rfl (by omega) _ 0 _ rfl HOW.o _ A5 zn c5 (Z.map (Value.int .i64)) rfl HLM.o HZB.o H1C.o (by simp only[maxLen];omega) (by omega) hzb ?_;intro v2 q2 hown hb2 hg2)|fail)
 rw[List.nil_append,Nat.zero_add]at hown;obtain⟨A6,c6,rfl⟩:=zA2 hown;have HO6:=hy' hown;have HP2:=hy' hb2;have HQ2:=hy' (HQB.o.trans (hb2.mono HQ1.o.size));have HS52:=hy' (HS5.o.below (HBW2.o.trans HP2.o) (HBW2.o.trans HP2.o).size);clear hown hb2 hg2 hzb;go_upto_block 0 with (fail)
 go_cut [] (fun wx=>(∃y:List Int,y.length=zn∧(∀c∈y,c∈Z)∧Sl wx wx.heap.size A6 (y.map (Value.int .i64)))∧Sl wx wx.heap.size A5 (Z.map (Value.int .i64))∧Below w3.heap.size w3 wx)
 case first =>
  go_wp2_with fail;go_loopw [11,12] (fun i _ wr=>∃(k:Nat) (y:List Int),k≤qn∧k≤20∧i=.int .i64 k∧wr.ownsRow q1.heap.size 3 1 (.slice A6 zn c6) zn (y.map (Value.int .i64))∧y.length=zn∧(∀c∈y,c∈Z)∧Below q1.heap.size q2 wr) (fun i _ _=>20-(intOf i).toNat)
  case atStart=>exact⟨0,Z,Nat.zero_le _,Nat.zero_le _,rfl,HO6.o,HZN.o,fun c h=>h,Below.refl _ _⟩
  obtain⟨k,y,hk1,hk2,rfl,hown,hyl,hym,hbr⟩:=hrel;obtain⟨q3,rfl⟩:∃q:World,q=wr:=⟨_,rfl⟩;have HOWN:=hy' hown;have HYL:=hy' hyl;have HYM:=hy' hym;have HBR:=hy' hbr;have HBW:=hy' (show Below w3.heap.size w3 q3 from HQ2.o.trans (hbr.mono HQ1.o.size));clear hym
  by_cases hgo:k<qn∧k<20∧1<zn
  rotate_left
  · have hcase:¬k<qn∨(k<qn∧¬k<20)∨(k<qn∧k<20∧¬1<zn):=by omega
    have HSL:=hy' (Sl.of_own hown);have HS53:=hy' (HS5.o.below (HBW2.o.trans (HP2.o.trans hbr)) (HBW2.o.trans (HP2.o.trans hbr)).size);clear hgo hown hbr;rcases hcase with g1|⟨g1,g2⟩|⟨g1,g2,g3⟩
    · go_wp2_with fail;go_meet;exact⟨⟨y,HYL.o,HYM.o,HSL.o⟩,HS53.o,HBW.o⟩
    · go_wp2_with fail;go_meet;exact⟨⟨y,HYL.o,HYM.o,HSL.o⟩,HS53.o,HBW.o⟩
    go_wp2_with fail;go_meet;exact⟨⟨y,HYL.o,HYM.o,HSL.o⟩,HS53.o,HBW.o⟩
  obtain⟨hq,h60,h1n⟩:=hgo;obtain⟨z,hz⟩:∃z,(qs.take qn)[k]?=some z:=⟨_,List.getElem?_eq_getElem (by rw[HQN.o];exact hq)⟩;obtain⟨qb,qo,rfl,hqb,hqc⟩:=HQS.o (by rw[List.length_map,HQN.o];omega);have hbaq:Below wa.heap.size wa q3:=HBA3.o.trans (HBW.o.mono HBA3.o.size);have hc:=hqc k (by rw[List.length_map,HQN.o];exact hq);rw[List.getElem?_map,hz,Option.map_some,←(zAI hbaq).1 _ _ hqb]at hc;have hqbr:=Nat.lt_of_lt_of_le hqb hbaq.size;obtain⟨m,hm⟩:∃m,zn=m+1:=⟨zn-1,by omega⟩;have hm0:0<m:=by omega
  obtain⟨j,hj,hpick⟩:=Tx.pick z hm0 (show m≤1000000 by omega);have em:(m:Int)=(zn:Int)-1:=by omega
  rw[em]at hpick;have htb:=zFB z (L:=(zn:Int)-1) (by omega)
  have hpick:(wrap64 (wrap64 (z.tmod ((zn:Int)-1)+zn)-1)).tmod ((zn:Int)-1)=(j:Int):=by
   rw[←hpick];congr 1;unfold wrap64;have:=HZL.o;omega
  clear htb;obtain⟨gb,go',rfl,hgb,hgc⟩:=(Sl.of_own hown) (by rw[List.length_map,hyl];omega);obtain⟨rfl,hg1,hg2,hg3⟩:=zDw hown;obtain⟨x,hx⟩:∃x,y[j]?=some x:=⟨_,List.getElem?_eq_getElem (by omega)⟩;obtain⟨u,hu⟩:∃u,y[j+1]?=some u:=⟨_,List.getElem?_eq_getElem (by omega)⟩
  obtain⟨PP,QQ,hPQ,hPl⟩:∃PP QQ,y=PP++x::u::QQ∧PP.length=j:=by
   obtain⟨h1,h2⟩:=List.getElem?_eq_some_iff.1 hx;obtain⟨h3,h4⟩:=List.getElem?_eq_some_iff.1 hu;refine⟨y.take j,y.drop (j+1+1),?_,by rw[List.length_take];omega⟩;rw[←h2,←h4,←List.drop_eq_getElem_cons h3,←List.drop_eq_getElem_cons h1,List.take_append_drop]
  have hcx:=hgc j (by rw[List.length_map];omega);have hcy:=hgc (j+1) (by rw[List.length_map];omega);rw[List.getElem?_map,hx,Option.map_some,Nat.zero_add]at hcx;rw[List.getElem?_map,hu,Option.map_some,Nat.zero_add]at hcy;have HPQ:=hy' hPQ;have HPL:=hy' hPl;have kQ:(k:Int)<qn:=by omega
  have k6:(k:Int)<20:=by omega
  have k0:(0:Int)≤k:=by omega
  have l1:(zn:Int) > 1:=by omega
  have l1':1<zn:=h1n;have jI:(j:Int)<zn:=by omega
  have j0:(0:Int)≤j:=by omega
  have jI1:(j:Int)+1<zn:=by omega
  have m0:((zn:Int)-1)≠0:=by omega
  have fz:q3.frozen? ⟨gb,j,none⟩=false:=zKa HOWN.o j;have fz1:q3.frozen? ⟨gb,j+1,none⟩=false:=zKa HOWN.o (j+1);clear hx hu hgc hqc hz hPQ hPl hown hm hyl em hbr;go_upto_region 10 with (fail)
  clear hpick m0 hc;go_region;go_wp2_with fail;have hn':(PP++u::x::QQ).length=zn:=by have:=HYL.o;rw[HPQ.o]at this;simpa using this
  obtain⟨hN,hN2,hN3,hN4⟩:=Nf.At.of_own (l:=y) HYL.o HOWN.o;rw[HPQ.o]at hN;have hS:=hN.swap;rw[HPL.o]at hS;have hO:=hS.own hn' hN2 hN3 hN4;refine⟨⟨k+1,PP++u::x::QQ,by omega,by omega,by go_num,zA4 hO (Below.refl _ _).drew (Nat.le_refl _),hn',fun c hc=>?_,?_⟩,by simp[intOf];omega⟩
  · refine HYM.o c ?_;rw[HPQ.o];simp only[List.mem_append,List.mem_cons]at hc ⊢;rcases hc with h|h|h|h
    · exact .inl h
    · exact .inr (.inr (.inl h))
    · exact .inr (.inl h)
    exact .inr (.inr (.inr h))
  exact ((HBR.o.setCell (p:=⟨gb,j,none⟩) hN2 _).setCell (p:=⟨gb,j+1,none⟩) hN2 _).drew
 obtain⟨⟨y,hyl,hym,hys⟩,hzs,hbc⟩:=hcut;obtain⟨q3,rfl⟩:∃q:World,q=wc:=⟨_,rfl⟩;obtain⟨hyc,hyf,hymp,hych⟩:=HY.o y hyl hym;obtain⟨sy,hsy⟩:∃q,zA6 y=q:=⟨_,rfl⟩;obtain⟨sd,hsd⟩:∃q,zA6 (Nf.chars T y)=q:=⟨_,rfl⟩;obtain⟨Y2,hY2⟩:∃q,Or.of (Md.cls T) y=q:=⟨_,rfl⟩;obtain⟨sb,hsb⟩:∃b,decide (Y2=y)=b:=⟨_,rfl⟩;obtain⟨al,hal⟩:∃b,decide (sd=sz)=b:=⟨_,rfl⟩;have hY2l:Y2.length=zn:=by rw[←hY2,zCA];exact hyl
 have HYL:=hy' hyl;have HYC:=hy' hyc;have HYF:=hy' hyf;have HYMP:=hy' hymp;have HSY:=hy' hsy;have HYS:=hy' hys;have HZS:=hy' hzs;have HR0:=hy' hbc;have hzl:=HZL.o;have HD:Hy (∀W,Below w3.heap.size w3 W→Calls Tryz.prog 14 #[.pointer (some ⟨pb,0,none⟩),.string sy] W fun e w'=>e=.returned (.tuple #[.string sd,.int .i64 0])∧Below W.heap.size W w'):=hy' fun W hW=>HOD.o y sy sd W hW hyc hyf hsy hsd
 have HI:Hy (∀W,Below w3.heap.size w3 W→Calls Tryz.prog 18 #[.pointer (some ⟨pb,0,none⟩),.string sy] W fun e w'=>e=.returned (.bool sb)∧Below W.heap.size W w'):=hy' fun W hW=>HID.o y sy sb W hW hyc hyf hsy (by rw[hych,hY2,hsb])
 have HOF:Hy (∀W,Below q3.heap.size q3 W→Calls Tryz.prog 16 #[.agg #[.slice A2 n2 c2,.slice XA2 xn2 xc2],.slice A6 zn c6] W fun e w'=>∃A'' c'',e=.returned (.slice A'' zn c'')∧Sl w' w'.heap.size A'' (Y2.map (Value.int .i64))∧Below W.heap.size W w'):=hy' fun W hW=>by
  have:=HRO.o A6 c6 y W (hbc.trans (hW.mono hbc.size)) hyl (hys.below hW hW.size);rw[hY2]at this;exact this
 have HCM:Hy (∀A' c' W,Below q3.heap.size q3 W→Sl W W.heap.size A' (Y2.map (Value.int .i64))→Calls Tryz.prog 15 #[.slice A' zn c',.slice A6 zn c6] W fun e w'=>e=.returned (.int .i64 (zB6 Y2 y))∧Below W.heap.size W w'):=hy' fun A' c' W hW hA =>
  zJO A' A6 c' c6 zn zn W.heap.size Y2 y W (Nat.le_refl _) hY2l hyl (by omega) (by omega) hA (hys.below hW hW.size)
 have HEQ:Hy ((sd.toList == sz.toList)=al∧(sb=true→(sy.toList == sd.toList)=true)∧((zB6 Y2 y == 0)=sb)):=hy' ⟨by rw[zDf,hal],fun h=>by
  have h1:Y2=y:=by rw[h]at hsb;exact of_decide_eq_true hsb
  rw[zDf,←hsy,←hsd,hych,hY2,h1,decide_eq_true rfl],by
  rw[←hsb,Bool.eq_iff_iff,decide_eq_true_iff,beq_iff_eq,zJy]⟩
 clear hyl hym hys hzs hbc hyc hyf hymp hych hsy hsd hY2 hsb hal hY2l;go_wp2_with fail;refine (HEN.o A6 zn c6 y sy q3 HYL.o (by omega) HYC.o HSY.o HYS.o).mono ?_;rintro e q4 ⟨rfl,hb⟩;have HR1:=hy' (HR0.o.trans (hb.mono HR0.o.size));have HG1:=hy' (hb);clear hb;go_wp2_with fail;refine (HD.o q4 HR1.o).mono ?_;rintro e q5 ⟨rfl,hb⟩;have HR2:=hy' (HR1.o.trans (hb.mono HR1.o.size));have HG2:=hy' (HG1.o.trans (hb.mono HG1.o.size));clear hb;go_wp2_with fail;refine (HEN.o A5 zn c5 Z sz q5 HZN.o (by omega) HZC.o HSZ.o (HZS.o.below HG2.o HG2.o.size)).mono ?_;rintro e q6 ⟨rfl,hb⟩;have HR3:=hy' (HR2.o.trans (hb.mono HR2.o.size));have HG3:=hy' (HG2.o.trans (hb.mono HG2.o.size));clear hb;have ht:=HT3.o.below HR3.o;have z0:=ht.cell 0 rfl;have z1:=ht.cell 1 rfl;have zl:=ht.lt;clear ht;go_wp2_with fail;refine (HOF.o q6 HG3.o).mono ?_;rintro e q7 ⟨A7,c7,rfl,hs7,hb⟩;have HR4:=hy' (HR3.o.trans (hb.mono HR3.o.size));have HG4:=hy' (HG3.o.trans (hb.mono HG3.o.size));have HS7:=hy' hs7;clear hs7 z0 z1 zl;clear hb;go_wp2_with fail;refine (HCM.o A7 c7 q7 HG4.o HS7.o).mono ?_;rintro e q8 ⟨rfl,hb⟩;have HR5:=hy' (HR4.o.trans (hb.mono HR4.o.size));have HG5:=hy' (HG4.o.trans (hb.mono HG4.o.size));clear hb;have HR0:=hy' HR5.o;obtain⟨he1,he2,he3⟩:=HEQ.o;have HG5S:=hy' HG5.o;go_upto_block 2 with (fail)
 go_cut [] (fun wx=>Below w3.heap.size w3 wx)
 case rest =>
  obtain⟨r0,rfl⟩:∃q:World,q=wc:=⟨_,rfl⟩;have HRB:=hy' hcut;clear hcut;go_wp2_with fail;refine (HI.o r0 HRB.o).mono ?_;rintro e r1 ⟨rfl,hb⟩;have HF:=hy' (HB3.o.trans ((HRB.o.trans (hb.mono HRB.o.size)).mono HB3.o.size));clear hb;cases sb
  · cases al
    all_goals
     go_wp2_with fail;go_ret;exact⟨by first|rfl|(simp;done),HF.o⟩
  have he4:=he2 rfl;cases al
  all_goals
   go_wp2_with fail;go_ret;exact⟨by first|rfl|(simp;done),HF.o⟩
 go_wp2_with fail;go_loopw [19,102] (fun _ i wr=>∃k:Nat,k≤zn∧i=.int .i64 k∧Below q8.heap.size q8 wr) (fun _ i _=>zn-(intOf i).toNat)
 case atStart=>exact⟨0,Nat.zero_le _,rfl,Below.refl _ _⟩
 obtain⟨k,hk,rfl,hbr⟩:=hrel;obtain⟨r0,rfl⟩:∃q:World,q=wr:=⟨_,rfl⟩;have HRR:=hy' hbr;have HRB:=hy' (HR5.o.trans (hbr.mono HR5.o.size))
 by_cases hlt:k<zn
 rotate_left
 · obtain rfl:k=zn:=by omega
   have kI:¬(k:Int)<k:=by omega
   clear hbr;go_wp2_with fail;go_meet;exact HRB.o
 obtain⟨x,hx⟩:∃x,y[k]?=some x:=⟨_,List.getElem?_eq_getElem (by rw[HYL.o];exact hlt)⟩;have hxm:=List.mem_of_getElem? hx;have hmp:=HMP.o x r0 HRB.o (HYC.o x hxm) (HYMP.o x hxm);obtain⟨ab,ao,rfl,hab,hac⟩:=HYS.o (by rw[List.length_map,HYL.o];omega);have hc:=hac k (by rw[List.length_map,HYL.o];exact hlt);have hqr:Below q3.heap.size q3 r0:=HG5S.o.trans (hbr.mono HG5S.o.size);rw[List.getElem?_map,hx,Option.map_some,←(zAI hqr).1 _ _ hab]at hc;have hab2:=Nat.lt_of_lt_of_le hab hqr.size;have ht:=HT3.o.below HRB.o;have z0:=ht.cell 0 rfl;have z1:=ht.cell 1 rfl;have zl:=ht.lt;have HM:=hy' hmp;have kI:(k:Int)<zn:=by omega
 have k0:(0:Int)≤k:=by omega
 clear hx hxm hmp hac hab ht hqr hbr;go_wp2_with fail;refine HM.o.mono ?_;rintro e r1 ⟨A9,c9,rfl,hb⟩;have HR1':=hy' (HRR.o.trans (hb.mono HRR.o.size));clear hb hc hab2 z0 z1 zl;go_wp2_with fail;go_roundw
 case rel=>exact⟨k+1,by omega,by first|rfl|go_num,HR1'.o⟩
 simp[intOf];omega
end Go.Proofs.YtddbccflcekdpaaGreatDoor
