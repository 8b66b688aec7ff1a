/- The law EqualGoes, by walking its text. -/
import Derived.Test.YtjakbblocbicjaaGreatDoorEqLaw
import Derived.Test.YtjakbblocbicjaaGreatDoorEqTurn
import Derived.Test.YtjakbblocbicjaaGreatDoorTxSame
import Derived.Test.YtjakbblocbicjaaGreatDoorChar
import Derived.Test.YtjakbblocbicjaaGreatDoorStage
import Derived.Test.YtjakbblocbicjaaGreatDoorUtfJ
import Derived.BigQuiet
import Derived.Deep.DeepCutAuto
import Derived.Deep.CutBlock
namespace Go.Proofs.YtjakbblocbicjaaGreatDoor
open Go.RowKit
set_option linter.unusedSimpArgs false
set_option linter.unusedVariables false
theorem Eq.encs_app:∀x y:List Int,zAd (x++y)=zAd x++zAd y
 | [],_=>rfl
 | c::x,y=>by rw[List.cons_append,zAu,zAu,Eq.encs_app x y,List.append_assoc]
theorem Eq.encS_app {x y:List Int} (hx:∀c∈x,C.isC c=true) (hy:∀c∈y,C.isC c=true):zAv x++zAv y=zAv (x++y):=by
 rw[zIT hx,zIT hy,zIT (fun c hc=>(List.mem_append.1 hc).elim (hx c) (hy c)),Eq.encs_app];apply ByteArray.ext
 simp
theorem Eq.encS_one {x:List Int} {y:Int} (hx:∀c∈x,C.isC c=true) (hy:C.isC y=true):zAv x++⟨(zAn y).toArray⟩=zAv (x++[y]):=by
 have h1:∀c∈[y],C.isC c=true:=fun c hc=>by rw[List.mem_singleton]at hc;rw[hc];exact hy
 rw[←Eq.encS_app hx h1,zIT h1,zAu,show zAd []=[] from rfl,List.append_nil]
theorem Eq.enc_le {y:Int} (hy:C.isC y=true):(⟨(zAn y).toArray⟩:ByteArray).size≤4:=by
 have h1:∀c∈[y],C.isC c=true:=fun c hc=>by rw[List.mem_singleton]at hc;rw[hc];exact hy
 have h:=zEr h1;rw[zIT h1,zAu,show zAd []=[] from rfl,List.append_nil]at h;exact h
theorem Eq.app_isC {x y:List Int} (hx:∀c∈x,C.isC c=true) (hy:∀c∈y,C.isC c=true):∀c∈x++y,C.isC c=true:=fun c hc=>(List.mem_append.1 hc).elim (hx c) (hy c)
set_option maxRecDepth 100000 in
set_option maxHeartbeats 4000000 in
theorem Eq.equalGoes_any (w:World) (A XA PA MA:Option Addr) (n c xn xc pn pc mn mc:Nat) (T0:List Rw.Row) (E0 P M:List Int) (hT:Tx.In A XA PA MA n c xn xc pn pc mn mc T0 E0 P M w) (RA:Option Addr) (rn rc:Nat) (SA:Option Addr) (sn sc:Nat) (rs ss:List Int) (hr:IsRow .i64 w RA rn rc rs) (hs:IsRow .i64 w SA sn sc ss) (QA:Option Addr) (qn qc:Nat) (qs:List Int) (hq:IsRow .i64 w QA qn qc qs) (hqb:∀x∈qs,-9223372036854775808≤x∧x≤9223372036854775807) (hL:Nf.Laid w) :
 Calls Tryz.prog 6 #[.agg #[.slice A n c,.slice XA xn xc,.slice PA pn pc,.slice MA mn mc],.agg #[.slice RA rn rc,.slice SA sn sc],.slice QA qn qc] w fun e w'=>e=.returned (.bool true)∧Below w.heap.size w w':=by
 have HMADE:=hy' (fun W (hW:Below w.heap.size w W)=>zFx A XA PA MA n c xn xc pn pc mn mc T0 E0 P M 10 W (by decide) (hT.below hW) (Rw.Laid.next hL.1 hW));have HAW:=hy' (fun W (hW:Below w.heap.size w W)=>Eq.awake22 W (hL.next hW));obtain⟨wa,hwa⟩:∃wa,(w.alloc (.cells #[.slice A n c,.slice XA xn xc,.slice PA pn pc,.slice MA mn mc] 27)).alloc (.cells #[.slice RA rn rc,.slice SA sn sc] 51)=wa:=⟨_,rfl⟩;have hb0:Below (w.alloc (.cells #[.slice A n c,.slice XA xn xc,.slice PA pn pc,.slice MA mn mc] 27)).heap.size (w.alloc (.cells #[.slice A n c,.slice XA xn xc,.slice PA pn pc,.slice MA mn mc] 27)) wa:=by rw[←hwa];exact (Below.refl _ _).alloc (Nat.le_refl _) _
 have hba:Below w.heap.size w wa:=by rw[←hwa];exact ((Below.refl _ _).alloc (Nat.le_refl _) _).alloc (by simp) _
 have hat:Rw.At wa w.heap.size 27 [.slice A n c,.slice XA xn xc,.slice PA pn pc,.slice MA mn mc]:=(Rw.At.new w 27 [.slice A n c,.slice XA xn xc,.slice PA pn pc,.slice MA mn mc]).below hb0
 have hcu:Rw.At wa (w.heap.size+1) 51 [.slice RA rn rc,.slice SA sn sc]:=by
  have:=Rw.At.new (w.alloc (.cells #[.slice A n c,.slice XA xn xc,.slice PA pn pc,.slice MA mn mc] 27)) 51 [.slice RA rn rc,.slice SA sn sc];rw[show (w.alloc (.cells #[.slice A n c,.slice XA xn xc,.slice PA pn pc,.slice MA mn mc] 27)).heap.size=w.heap.size+1 by simp]at this;rw[←hwa];exact this
 have HWA:=hy' hwa;have HBA:=hy' hba;have HAT:=hy' hat;have HCU:=hy' hcu;have HH:=hy' hL.2;obtain⟨hr1,hr2,hr3⟩:=hr.len_le;have HRS:=hy' ((hr.sl rn (Nat.le_refl _)).below hba hba.size);have HRN:Hy ((rs.take rn).length=rn):=hy' (by rw[List.length_take];omega);have HRM:Hy (rn≤maxLen):=hy' (by omega);obtain⟨hs1,hs2,hs3⟩:=hs.len_le;have HSS:=hy' ((hs.sl sn (Nat.le_refl _)).below hba hba.size);have HSN:Hy ((ss.take sn).length=sn):=hy' (by rw[List.length_take];omega);have HSM:Hy (sn≤maxLen):=hy' (by omega);obtain⟨hq1,hq2,hq3⟩:=hq.len_le;have HQS:=hy' ((hq.sl qn (Nat.le_refl _)).below hba hba.size);have HQN:Hy ((qs.take qn).length=qn):=hy' (by rw[List.length_take];omega);have HQM:Hy (qn≤maxLen):=hy' (by omega);have HQ4S:=hy' ((hq.sl (min qn 4) (Nat.min_le_left _ _)).below hba hba.size);have HQ4N:Hy ((qs.take (min qn 4)).length=min qn 4):=hy' (by rw[List.length_take];omega);clear hb0 hwa hba hat hcu hT hL hr1 hr2 hr3 hs1 hs2 hs3 hq1 hq2 hq3 hr hs hq hqb;go_enter Tryz.func6,Tryz.ntmps6;go_upto_region 1 with (fail)
 rw[HWA.o];go_wp2_with fail;refine (HAW.o wa HBA.o).mono ?_;rintro e w1 ⟨rfl,hb1⟩;have hat1:=HAT.o.below hb1;have hcu1:=HCU.o.below hb1;have HB1:=hy' (HBA.o.trans (hb1.mono HBA.o.size));have x0:=hat1.cell 0 rfl;have x1:=hat1.cell 1 rfl;have x2:=hat1.cell 2 rfl;have x3:=hat1.cell 3 rfl;have xl:=hat1.lt;clear hat1;go_wp2_with fail;refine (HMADE.o w1 HB1.o).mono ?_;rintro e w2 ⟨p,v2,T,E,S,l,Al,cl,rfl,his,hdo,hR,hown,hlc,hll,hap,hb2⟩;obtain⟨pb,rfl,hpbl⟩:=his.form;obtain⟨A2,c2,XA2,xc2,rfl,hdo2⟩:=id hdo;obtain⟨n2,hn2⟩:∃k,T.length=k:=⟨_,rfl⟩;obtain⟨xn2,hxn2⟩:∃k,E.length=k:=⟨_,rfl⟩;obtain⟨ln,hln⟩:∃k,l.length=k:=⟨_,rfl⟩;unfold zAX at hdo hap ⊢;rw[hn2,hxn2]at hdo ⊢;simp only[hn2,hxn2]at hap;rw[hln]at hown hll hap ⊢;obtain⟨w3,hw3⟩:∃w3,w2.alloc (.cells #[.slice A2 n2 c2,.slice XA2 xn2 xc2] 25)=w3:=⟨_,rfl⟩;have hb3:Below w2.heap.size w2 w3:=by rw[←hw3];exact (Below.refl _ _).alloc (Nat.le_refl _) _
 have hat3:Rw.At w3 w2.heap.size 25 [.slice A2 n2 c2,.slice XA2 xn2 xc2]:=by rw[←hw3];exact Rw.At.new w2 25 [.slice A2 n2 c2,.slice XA2 xn2 xc2]
 have HCU3:=hy' ((hcu1.below hb2).below hb3);have HW3:=hy' hw3;have HB3:=hy' (HB1.o.trans ((hb2.trans (hb3.mono hb2.size)).mono HB1.o.size));have HT3:=hy' hat3;have HBA3:=hy' (hb1.trans ((hb2.trans (hb3.mono hb2.size)).mono hb1.size));have HI3:=hy' (his.below hb3);have HD3:=hy' (hdo.below hb3);have HL3:=hy' (zA4 hown hb3 (Nat.le_refl _));have HR:=hy' hR;have HLC:=hy' hlc;have HLN:=hy' hln;have HN2:=hy' hn2;have HAP:Hy (∀w'',w3.grownBy w'' (Value.slice Al ln cl).ownBlock→Ud.Is w'' (.pointer (some ⟨pb,0,none⟩)) T S∧Md.Doc w'' (.agg #[.slice A2 n2 c2,.slice XA2 xn2 xc2]) T E):=hy' fun w'' hg=>hap w'' (zA0 (by rw[←hw3];exact World.grownBy_alloc _ _ _) hg)
 have HLB:=hy' (fun x (hx:x∈l)=>Tx.isC_i32 (hlc x hx));have z0:=hat3.cell 0 rfl;have z1:=hat3.cell 1 rfl;have zl:=hat3.lt;clear hcu1 x0 x1 x2 x3 xl hap hdo hdo2 his hR hown hlc hln hn2 hxn2 hw3 hb3 hat3 hb2 hb1 HMADE HAW HWA HBA HAT HCU;go_upto_region 4 with (fail)
 rw[HW3.o];have hok:=HR.o.ok;have HL33:=hy' (Sl.of_own HL3.o);have HH3:=hy' (HH.o.next HB3.o);have hTn:T.length≤100000:=by have:=HR.o.tl;omega
 have hml:∀r∈T,r.2.2.length≤1000:=fun r hr=>by have:=(HR.o.rok r hr).2.2.1;omega
 have hflen:(Nf.fl T l).length≤1024:=zIc hok (by rw[HLN.o];omega);obtain⟨sa,hsa⟩:∃q,zAv l=q:=⟨_,rfl⟩;obtain⟨ys,hys⟩:∃q,(qs.take (min qn 4)).map Ch.K=q:=⟨_,rfl⟩;obtain⟨yn,hyn⟩:∃q,ys.length=q:=⟨_,rfl⟩;have hy4:yn≤4:=by rw[←hyn,←hys,List.length_map,HQ4N.o];omega
 have hyc:∀c∈ys,C.isC c=true:=fun c hc=>by
  rw[←hys]at hc;obtain⟨d,_,rfl⟩:=List.mem_map.1 hc;exact Ch.K_is d
 have HEN:Hy (∀(A':Option Addr) (m c':Nat) (z:List Int) (sq:ByteArray) (W:World),z.length=m→m≤2000→(∀c∈z,C.isC c=true)→zAv z=sq→Sl W W.heap.size A' (z.map (Value.int .i64))→Calls Tryz.prog 26 #[.slice A' m c'] W fun e w'=>e=.returned (.string sq)∧Below W.heap.size W w'):=hy' fun A' m c' z sq W hz hm hzl hs hA=>by
  have:=zEs A' m c' z W hz (by omega) hA hzl;rw[hs]at this;exact this
 have HTU:Hy (∀(PA:Option Addr) (pn pc:Nat) (P:List Int) W,Below w3.heap.size w3 W→P.length=pn→pn≤maxLen→Sl W W.heap.size PA (P.map (Value.int .i64))→Calls Tryz.prog 28 #[.agg #[.slice A2 n2 c2,.slice XA2 xn2 xc2],.slice Al ln cl,.slice PA pn pc] W fun e w'=>∃(Z:List Int) (m:Nat) (sb:ByteArray) (A':Option Addr) (c':Nat),e=.returned (.slice A' m c')∧Z.length=m∧m≤1024∧zAv Z=sb∧(∀c∈Z,C.isC c=true)∧(Nf.fl T Z).length≤1024∧Nf.chars T l=Nf.chars T Z∧Sl w' w'.heap.size A' (Z.map (Value.int .i64))∧Below W.heap.size W w'):=hy' fun PA pn pc P W hW hp1 hp2 hp3=>by
  refine (Eq.turned_any _ T E S Al PA ln cl pn pc l P W hok hTn hml (HD3.o.below hW) HLN.o (by omega) HLC.o (HL33.o.below hW hW.size) hp1 hp2 hp3).mono ?_;rintro e w' ⟨Z,A',c',rfl,ho,hch,hc,hb⟩;have hf:(Nf.fl T Z).length≤1024:=by rw[←Nf.chars_len,hch,Nf.chars_len];exact hflen
  have hm:=Nat.le_trans (zLu hok Z) hf;exact⟨Z,_,_,A',c',rfl,rfl,hm,rfl,hc,hf,hch.symm,Sl.of_own ho,hb⟩
 have HAL:Hy (∀(X Y:List Int) W,Below w3.heap.size w3 W→X.length≤3000→Y.length≤3000→(∀c∈X,C.isC c=true)→(∀c∈Y,C.isC c=true)→(Nf.fl T X).length≤1024→Nf.chars T X=Nf.chars T Y→Calls Tryz.prog 31 #[.pointer (some ⟨pb,0,none⟩),.string (zAv X),.string (zAv Y)] W fun e w'=>e=.returned (.tuple #[.bool true,.int .i64 0])∧Below W.heap.size W w'):=hy' fun X Y W hW h1 h2 h3 h4 h5 h6=>by
  have:=Eq.alike_chars _ T S X Y W hok (HI3.o.below hW) (HH3.o.next hW) h3 h1 h5 h4 h2 (by rw[←Nf.chars_len,←h6,Nf.chars_len];exact h5);rw[decide_eq_true h6]at this;exact this
 have HCHS:Hy (∀W,Below w3.heap.size w3 W→Calls Tryz.prog 29 #[.slice QA qn qc,.int .i64 4] W fun e w'=>∃A' c',e=.returned (.slice A' yn c')∧Sl w' w'.heap.size A' (ys.map (Value.int .i32))∧Below W.heap.size W w'):=hy' fun W hW=>by
  have hbw:=HBA3.o.trans (hW.mono HBA3.o.size);have:=Ch.chars_any QA qn qc W.heap.size (qs.take (min qn 4)) 4 W (Nat.le_refl _) HQ4N.o (by decide) (HQ4S.o.below hbw hbw.size) HQM.o;unfold Ch.RetOwn at this;rw[hys,hyn]at this;refine this.mono ?_;rintro e w' ⟨A',c',rfl,ho,hb⟩;exact⟨A',c',rfl,Sl.of_own ho,hb⟩
 have HBY:Hy (∀(y:Int) W,C.isC y=true→Calls Tryz.prog 30 #[.int .i64 y] W fun e w'=>e=.returned (.string ⟨(zAn y).toArray⟩)∧Below W.heap.size W w'):=hy' fun y W h=>zIP y W h
 have HRSW:Hy (∀W,Below w3.heap.size w3 W→Sl W W.heap.size RA ((rs.take rn).map (Value.int .i64))):=hy' fun W hW=>by
  have hbw:=HBA3.o.trans (hW.mono HBA3.o.size);exact HRS.o.below hbw hbw.size
 have HSSW:Hy (∀W,Below w3.heap.size w3 W→Sl W W.heap.size SA ((ss.take sn).map (Value.int .i64))):=hy' fun W hW=>by
  have hbw:=HBA3.o.trans (hW.mono HBA3.o.size);exact HSS.o.below hbw hbw.size
 have HCF:Hy (∀W,Below w3.heap.size w3 W→(∀x:Stg.Later Stg.Ex W,x.val.cell? ⟨w2.heap.size,0,none⟩=some (.slice A2 n2 c2))∧(∀x:Stg.Later Stg.Ex W,x.val.cell? ⟨w2.heap.size,1,none⟩=some (.slice XA2 xn2 xc2))∧(∀u:Stg.Later Stg.Ex W,u.val.cell? ⟨w.heap.size+1,0,none⟩=some (.slice RA rn rc))):=hy' fun W hW =>
  have hT:=HT3.o.below hW;have hC:=HCU3.o.below hW
  ⟨Stg.cells (hT.cell 0 rfl) hT.lt,Stg.cells (hT.cell 1 rfl) hT.lt,Stg.cells (hC.cell 0 rfl) hC.lt⟩
 have HSAE:=hy' hsa;have HYN:=hy' hyn;have HYC:=hy' hyc;have HFL:=hy' hflen;have HOK:=hy' hok;have HV0:=hy' (Below.refl w3.heap.size w3).drew;clear hok hTn hml hflen hsa hys hyn hyc HL3;go_upto_region 6 with (fail)
 clear z0 z1 zl;refine Stg.wp_region (by kernel_rfl) Stg.Ex Stg.Ex.rel ?_;refine Stg.readW (by kernel_rfl) ?_;intro K hK;go_big_quiet_op;go_big_quiet_on;refine Stg.cl 26 _ _ rfl Tryz.func26 [.slice Al ln cl] rfl w3.drew _ (HEN.o Al ln cl l sa w3.drew HLN.o (by omega) HLC.o HSAE.o (HL33.o.below HV0.o HV0.o.size)) (by kernel_rfl) rfl ?_;rintro e v1 ⟨rfl,hb⟩;refine⟨_,rfl,hb,?_⟩;have HV1:=hy' (HV0.o.trans (hb.mono HV0.o.size));clear hb;intro A' hA';simp only[Act.put,List.setIfInBounds_toArray,List.set_cons_succ,List.set_cons_zero]at hA';subst hA'
 obtain⟨f0,f1,e0⟩:=HCF.o w3.drew HV0.o;refine Stg.read 1 (by kernel_rfl) w3.drew rfl ?_;intro K hK;go_big_quiet_op;go_big_quiet_on;iterate 2 (refine Stg.readW (by kernel_rfl) ?_;intro K hK;go_big_quiet_op;go_big_quiet_on)
 refine Stg.read 1 (by kernel_rfl) w3.drew rfl ?_;intro K hK;go_big_quiet_op;go_big_quiet_on;refine Stg.cl 28 _ _ rfl Tryz.func28 [.agg #[.slice A2 n2 c2,.slice XA2 xn2 xc2],.slice Al ln cl,.slice RA rn rc] rfl v1 _ (HTU.o RA rn rc (rs.take rn) v1 HV1.o HRN.o HRM.o (HRSW.o v1 HV1.o)) (by kernel_rfl) rfl ?_;rintro e v2 ⟨Z,m,sb,A5,c5,rfl,hzm,hm,hsb,hzc,hzf,hchB,hs5,hb⟩;refine⟨_,rfl,hb,?_⟩;have HV2:=hy' (HV1.o.trans (hb.mono HV1.o.size));have HZM:=hy' hzm;have HSB:=hy' hsb;have HZC:=hy' hzc;have HZF:=hy' hzf;have HS5:=hy' hs5;clear hzm hsb hzc hzf hs5;clear hb;intro A' hA';simp only[Act.put,List.setIfInBounds_toArray,List.set_cons_succ,List.set_cons_zero]at hA';subst hA'
 refine Stg.cl 26 _ _ rfl Tryz.func26 [.slice A5 m c5] rfl v2 _ (HEN.o A5 m c5 Z sb v2 HZM.o (by omega) HZC.o HSB.o HS5.o) (by kernel_rfl) rfl ?_;rintro e v3 ⟨rfl,hb⟩;refine⟨_,rfl,hb,?_⟩;have HV3:=hy' (HV2.o.trans (hb.mono HV2.o.size));clear hb;intro A' hA';simp only[Act.put,List.setIfInBounds_toArray,List.set_cons_succ,List.set_cons_zero]at hA';subst hA'
 iterate 2 (refine Stg.readW (by kernel_rfl) ?_;intro K hK;go_big_quiet_op;go_big_quiet_on)
 clear f0 f1 e0;refine Stg.nil v3 rfl ?_;have HCHB:=hy' hchB;have ht1:=HT3.o.below HV3.o;have z0:=ht1.cell 0 rfl;have z1:=ht1.cell 1 rfl;have zl:=ht1.lt;have hc1:=HCU3.o.below HV3.o;have y1:=hc1.cell 1 rfl;have yl:=hc1.lt;clear ht1 hc1 hchB;go_wp2_with fail;refine (HTU.o SA sn sc (ss.take sn) v3 HV3.o HSN.o HSM.o (HSSW.o v3 HV3.o)).mono ?_;rintro e q4 ⟨Z2,m2,sc2,A6,c6,rfl,hzm,hm2,hsb,hzc,hzf,hch,hs5,hb⟩;have HQ4:=hy' (HV3.o.trans (hb.mono HV3.o.size));have HZM2:=hy' hzm;have HSC:=hy' hsb;have HZC2:=hy' hzc;have HZF2:=hy' hzf;have HCHC:=hy' hch;have HS6:=hy' hs5;clear hb z0 z1 zl y1 yl hzm hsb hzc hzf hch hs5;go_wp2_with fail;refine (HEN.o A6 m2 c6 Z2 sc2 q4 HZM2.o (by omega) HZC2.o HSC.o HS6.o).mono ?_;rintro e q5 ⟨rfl,hb⟩;have HQ5:=hy' (HQ4.o.trans (hb.mono HQ4.o.size));clear hb;go_wp2_with fail;refine (HCHS.o q5 HQ5.o).mono ?_;rintro e q6 ⟨A7,c7,rfl,hs7,hb⟩;have HQ6:=hy' (HQ5.o.trans (hb.mono HQ5.o.size));have HS7:=hy' hs7;clear hb hs7;go_upto_block 0 with (fail)
 go_cut [15,16] (fun va vb wx=>∃(X Y:List Int),X.length+Y.length≤4∧va=.string (zAv X)∧vb=.string (zAv Y)∧(∀c∈X,C.isC c=true)∧(∀c∈Y,C.isC c=true)∧Below w3.heap.size w3 wx)
 case rest =>
  obtain⟨X,Y,hXY,rfl,rfl,hXc,hYc,hbc⟩:=hcut;obtain⟨q7,rfl⟩:∃q:World,q=wc:=⟨_,rfl⟩;have HQ7:=hy' hbc;have a1:=HAL.o Z Z2;have a2:=HAL.o Z2 Z;have a3:=HAL.o (X++l++Y) (X++Z++Y);have hsX:=zEr hXc;have hsY:=zEr hYc;have hsl:=zEr HLC.o;have hsZ:=zEr HZC.o;rw[←Eq.encS_app (Eq.app_isC hXc HLC.o) hYc,←Eq.encS_app (Eq.app_isC hXc HZC.o) hYc,←Eq.encS_app hXc HLC.o,←Eq.encS_app hXc HZC.o,HSAE.o,HSB.o]at a3;rw[HSB.o,HSC.o]at a1 a2;rw[HSAE.o,HLN.o]at hsl;rw[HSB.o,HZM.o]at hsZ;have hl3:(X++l++Y).length≤32:=by rw[List.length_append,List.length_append,HLN.o];omega
  have hch3:Nf.chars T (X++l++Y)=Nf.chars T (X++Z++Y):=zF4 (zF4 rfl HCHB.o) rfl;have HA1:=hy' (fun W hW=>a1 W hW (by rw[HZM.o];omega) (by rw[HZM2.o];omega) HZC.o HZC2.o HZF.o (HCHB.o.symm.trans HCHC.o));have HA2:=hy' (fun W hW=>a2 W hW (by rw[HZM2.o];omega) (by rw[HZM.o];omega) HZC2.o HZC.o HZF2.o (HCHC.o.symm.trans HCHB.o));have HA3:=hy' (fun W hW=>a3 W hW (by omega) (by rw[List.length_append,List.length_append,HZM.o];omega) (Eq.app_isC (Eq.app_isC hXc HLC.o) hYc) (Eq.app_isC (Eq.app_isC hXc HZC.o) hYc) (zIc HOK.o hl3) hch3);obtain⟨sX,hsX2⟩:∃q,zAv X=q:=⟨_,rfl⟩;obtain⟨sY,hsY2⟩:∃q,zAv Y=q:=⟨_,rfl⟩;rw[hsX2]at hsX HA3 ⊢;rw[hsY2]at hsY HA3 ⊢;have k1:¬9223372036854775807<sX.size+sa.size:=by omega
  have k2:¬9223372036854775807<sX.size+sb.size:=by omega
  have k3:¬9223372036854775807<(sX++sa).size+sY.size:=by rw[ByteArray.size_append];omega
  have k4:¬9223372036854775807<(sX++sb).size+sY.size:=by rw[ByteArray.size_append];omega
  clear hbc a1 a2 a3 hsX hsY hsl hsZ hl3 hch3 hsX2 hsY2 hXc hYc;go_wp2_with fail;refine (HA1.o q7 HQ7.o).mono ?_;rintro e q8 ⟨rfl,hb⟩;have HQ8:=hy' (HQ7.o.trans (hb.mono HQ7.o.size));clear hb;go_wp2_with fail;refine (HA2.o q8 HQ8.o).mono ?_;rintro e q9 ⟨rfl,hb⟩;have HQ9:=hy' (HQ8.o.trans (hb.mono HQ8.o.size));clear hb;go_wp2_with fail;refine (HA3.o q9 HQ9.o).mono ?_;rintro e q10 ⟨rfl,hb⟩;have HE:=hy' (HB3.o.trans ((HQ9.o.trans (hb.mono HQ9.o.size)).mono HB3.o.size));clear hb;go_wp2_with fail;go_ret;exact⟨by first|rfl|(simp;done),HE.o⟩
 go_wp2_with fail;go_loopw [15,16,54] (fun va vb vi wr=>∃(k:Nat) (X Y:List Int),k≤yn∧vi=.int .i64 k∧X.length+Y.length≤k∧va=.string (zAv X)∧vb=.string (zAv Y)∧(∀c∈X,C.isC c=true)∧(∀c∈Y,C.isC c=true)∧Below q6.heap.size q6 wr) (fun _ _ vi _=>yn-(intOf vi).toNat)
 case atStart=>exact⟨0,[],[],Nat.zero_le _,rfl,Nat.le_refl _,rfl,rfl,(by simp),(by simp),Below.refl _ _⟩
 obtain⟨k,X,Y,hk,rfl,hXY,rfl,rfl,hXc,hYc,hbr⟩:=hrel;obtain⟨q7,rfl⟩:∃q:World,q=wr:=⟨_,rfl⟩;have HR0:=hy' hbr;have hsX:=zEr hXc;have hsY:=zEr hYc;have HXC:=hy' hXc;have HYC2:=hy' hYc
 by_cases hlt:k<yn
 rotate_left
 · obtain rfl:k=yn:=by omega
   have kI:¬(k:Int)<k:=by omega
   obtain⟨sX,hsX2⟩:∃q,zAv X=q:=⟨_,rfl⟩;obtain⟨sY,hsY2⟩:∃q,zAv Y=q:=⟨_,rfl⟩;rw[hsX2,hsY2];have HSX2:=hy' hsX2;have HSY2:=hy' hsY2;clear hbr hsX hsY hXc hYc hsX2 hsY2;go_wp2_with fail;go_meet;exact⟨X,Y,by omega,by rw[HSX2.o],by rw[HSY2.o],HXC.o,HYC2.o,HQ6.o.trans (HR0.o.mono HQ6.o.size)⟩
 obtain⟨y,hy⟩:∃y,ys[k]?=some y:=⟨_,List.getElem?_eq_getElem (by rw[HYN.o];exact hlt)⟩;have hyc:=HYC.o y (List.mem_of_getElem? hy);obtain⟨b7,o7,rfl,hb7,hc7⟩:=HS7.o (by rw[List.length_map,HYN.o];omega);have hc:=hc7 k (by rw[List.length_map,HYN.o];exact hlt);rw[List.getElem?_map,hy,Option.map_some,←(zAQ hbr).1 _ _ hb7]at hc;have hg7:=Nat.lt_of_lt_of_le hb7 hbr.size;have hyb:=Nf.isC_i32 hyc;have hw0:IntKind.i64.wrap y=y:=by rw[IntKind.wrap_i64];omega
 have e1:=Eq.encS_one hXc hyc;have e2:=Eq.encS_one hYc hyc;obtain⟨su,hsu⟩:∃q:ByteArray,⟨(zAn y).toArray⟩=q:=⟨_,rfl⟩;have hsl:su.size≤4:=by rw[←hsu];exact Eq.enc_le hyc
 have hby:=HBY.o y;rw[hsu]at e1 e2 hby;obtain⟨sX,hsX2⟩:∃q,zAv X=q:=⟨_,rfl⟩;obtain⟨sY,hsY2⟩:∃q,zAv Y=q:=⟨_,rfl⟩;rw[hsX2]at hsX e1;rw[hsY2]at hsY e2;rw[hsX2,hsY2];have k1:¬9223372036854775807<sX.size+su.size:=by omega
 have k2:¬9223372036854775807<sY.size+su.size:=by omega
 have kI:(k:Int)<yn:=by omega
 have k0:(0:Int)≤k:=by omega
 have HE1:=hy' e1;have HE2:=hy' e2;have HSX2:=hy' hsX2;have HSY2:=hy' hsY2;have HBYY:=hy' (fun W=>hby W hyc);have h1c:∀c∈[y],C.isC c=true:=fun c hc=>by rw[List.mem_singleton]at hc;rw[hc];exact hyc
 have HX1:=hy' (Eq.app_isC hXc h1c);have HY1:=hy' (Eq.app_isC hYc h1c);obtain⟨b,hb⟩:∃q,bits .and .i64 (k:Int) 1=q:=⟨_,rfl⟩;clear hy hyc hc7 hb7 hbr hyb e1 e2 hsu hsX2 hsY2 hby h1c hXc hYc hsX hsY hsl
 by_cases hb0:b=0
 · subst hb0;go_wp2_with fail;refine (HBYY.o q7).mono ?_;rintro e q8 ⟨rfl,hb8⟩;have HR1:=hy' (HR0.o.trans (hb8.mono HR0.o.size));clear hb8 hc hg7 hb;go_wp2_with fail;exact⟨⟨k+1,X++[y],Y,by omega,by first|rfl|go_num,by rw[List.length_append,List.length_singleton];omega,by rw[←HE1.o],by rw[HSY2.o],HX1.o,HYC2.o,HR1.o⟩,by simp[intOf];omega⟩
 have hb1:(b == 0)=false:=by simpa using hb0
 go_wp2_with fail;refine (HBYY.o q7).mono ?_;rintro e q8 ⟨rfl,hb8⟩;have HR1:=hy' (HR0.o.trans (hb8.mono HR0.o.size));clear hb8 hc hg7 hb hb1;go_wp2_with fail;exact⟨⟨k+1,X,Y++[y],by omega,by first|rfl|go_num,by rw[List.length_append,List.length_singleton];omega,by rw[HSX2.o],by rw[←HE2.o],HXC.o,HY1.o,HR1.o⟩,by simp[intOf];omega⟩
end Go.Proofs.YtjakbblocbicjaaGreatDoor
