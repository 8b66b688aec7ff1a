/- The law SplitTells, by walking its text. -/
import Derived.Test.YtjakbblocbicjaaGreatDoorSpAwake
import Derived.Test.YtjakbblocbicjaaGreatDoorTxSame
import Derived.Test.YtjakbblocbicjaaGreatDoorMdRef4
import Derived.Test.YtjakbblocbicjaaGreatDoorStage
import Derived.Test.YtjakbblocbicjaaGreatDoorMdTable
import Derived.BigQuiet
import Derived.Deep.DeepCutAuto
namespace Go.Proofs.YtjakbblocbicjaaGreatDoor
open Go.RowKit
set_option linter.unusedSimpArgs false
set_option linter.unusedVariables false
theorem Sp.safe_isC {T:List Rw.Row} {S:List Int} {x:Int} (h:C.isC x=true):zLv T S x=(Sp.start T x&&!Nc.sec T S (Sp.head T x)):=by unfold zLv;rw[h,Bool.true_and]
theorem Sp.apart_isC {T:List Rw.Row} {x:Int} (h:C.isC x=true):Sp.apart T x=(Sp.start T x&&!Sp.inn T (Sp.head T x)):=by unfold Sp.apart;rw[h,Bool.true_and]
theorem Sp.no4449 {T:List Rw.Row} {S:List Int} (ok:Ud.Ok T S):zLv T S 4449=false:=by
 have hk:zA2 4449=2:=by decide
 have hf:Ud.full T 4449=[4449]:=zFk ok (zP1 (by unfold zAV;rw[zMk ok (by rw[hk];decide)];rfl) (by omega)).1;unfold zLv Nc.sec Sp.head;rw[hf];show (_&&(_&&!(_||decide (zA2 4449=2)||_)))=false;rw[hk];simp
theorem Sp.no4520 {T:List Rw.Row} {S:List Int} (ok:Ud.Ok T S):Sp.apart T 4520=false:=by
 have hk:zA2 4520=3:=by decide
 have hf:Ud.full T 4520=[4520]:=zFk ok (zP1 (by unfold zAV;rw[zMk ok (by rw[hk];decide)];rfl) (by omega)).1;unfold Sp.apart Sp.inn Sp.head;rw[hf];show (_&&(_&&!(_||_||decide (zA2 4520=3))))=false;rw[hk];simp
set_option maxRecDepth 100000 in
set_option maxHeartbeats 4000000 in
theorem Sp.splitTells_any (w:World) (A XA PA MA:Option Addr) (n c xn xc pn pc mn mc:Nat) (T0:List Rw.Row) (E0 P M:List Int) (hT:Tx.In A XA PA MA n c xn xc pn pc mn mc T0 E0 P M w) (hL:Nf.Laid w) :
 Calls Tryz.prog 4 #[.agg #[.slice A n c,.slice XA xn xc,.slice PA pn pc,.slice MA mn mc]] w fun e w'=>e=.returned (.bool true)∧Below w.heap.size w w':=by
 have HMADE:=hy' (fun W (hW:Below w.heap.size w W)=>zFx A XA PA MA n c xn xc pn pc mn mc T0 E0 P M 20 W (by decide) (hT.below hW) (Rw.Laid.next hL.1 hW));have HAW:=hy' (fun W (hW:Below w.heap.size w W)=>Sp.awake20 W (hL.next hW));obtain⟨wa,hwa⟩:∃wa,w.alloc (.cells #[.slice A n c,.slice XA xn xc,.slice PA pn pc,.slice MA mn mc] 27)=wa:=⟨_,rfl⟩;have hba:Below w.heap.size w wa:=by rw[←hwa];exact (Below.refl _ _).alloc (Nat.le_refl _) _
 have hat:Rw.At wa w.heap.size 27 [.slice A n c,.slice XA xn xc,.slice PA pn pc,.slice MA mn mc]:=by rw[←hwa];exact Rw.At.new w 27 [.slice A n c,.slice XA xn xc,.slice PA pn pc,.slice MA mn mc]
 have HWA:=hy' hwa;have HBA:=hy' hba;have HAT:=hy' hat;clear hwa hba hat hT hL;go_enter Tryz.func4,Tryz.ntmps4;go_upto_region 1 with (fail)
 rw[HWA.o];go_wp2_with fail;refine (HAW.o wa HBA.o).mono ?_;rintro e w1 ⟨rfl,hb1⟩;have hat1:=HAT.o.below hb1;have HB1:=hy' (HBA.o.trans (hb1.mono HBA.o.size));have x0:=hat1.cell 0 rfl;have x1:=hat1.cell 1 rfl;have x2:=hat1.cell 2 rfl;have x3:=hat1.cell 3 rfl;have xl:=hat1.lt;clear hb1 hat1;go_wp2_with fail;refine (HMADE.o w1 HB1.o).mono ?_;rintro e w2 ⟨p,v2,T,E,S,l,Al,cl,rfl,his,hdo,hR,hown,hlc,hll,hap,hb2⟩;obtain⟨pb,rfl,hpbl⟩:=his.form;obtain⟨A2,c2,XA2,xc2,rfl,hdo2⟩:=id hdo;obtain⟨n2,hn2⟩:∃k,T.length=k:=⟨_,rfl⟩;obtain⟨xn2,hxn2⟩:∃k,E.length=k:=⟨_,rfl⟩;obtain⟨ln,hln⟩:∃k,l.length=k:=⟨_,rfl⟩;unfold zAX at hdo hap ⊢;rw[hn2,hxn2]at hdo ⊢;simp only[hn2,hxn2]at hap;rw[hln]at hown hll hap ⊢;obtain⟨w3,hw3⟩:∃w3,w2.alloc (.cells #[.slice A2 n2 c2,.slice XA2 xn2 xc2] 25)=w3:=⟨_,rfl⟩;have hb3:Below w2.heap.size w2 w3:=by rw[←hw3];exact (Below.refl _ _).alloc (Nat.le_refl _) _
 have hat3:Rw.At w3 w2.heap.size 25 [.slice A2 n2 c2,.slice XA2 xn2 xc2]:=by rw[←hw3];exact Rw.At.new w2 25 [.slice A2 n2 c2,.slice XA2 xn2 xc2]
 have HW3:=hy' hw3;have HB3:=hy' (HB1.o.trans ((hb2.trans (hb3.mono hb2.size)).mono HB1.o.size));have HT3:=hy' hat3;have HI3:=hy' (his.below hb3);have HD3:=hy' (hdo.below hb3);have HL3:=hy' (zA4 hown hb3 (Nat.le_refl _));have HOB:=hy' (fun g hg=>(zB6 hown (g:=g) hg).2);have HR:=hy' hR;have HLC:=hy' hlc;have HLN:=hy' hln;have HN2:=hy' hn2;have HAP:Hy (∀w'',w3.grownBy w'' (Value.slice Al ln cl).ownBlock→Ud.Is w'' (.pointer (some ⟨pb,0,none⟩)) T S∧Md.Doc w'' (.agg #[.slice A2 n2 c2,.slice XA2 xn2 xc2]) T E):=hy' fun w'' hg=>hap w'' (zA0 (by rw[←hw3];exact World.grownBy_alloc _ _ _) hg)
 have HLB:=hy' (fun x (hx:x∈l)=>Tx.isC_i32 (hlc x hx));have z0:=hat3.cell 0 rfl;have z1:=hat3.cell 1 rfl;have zl:=hat3.lt;have hb2z:=hb2.size;have hb3z:=hb3.size;clear x0 x1 x2 x3 xl hap hdo hdo2 his hR hown hlc hln hn2 hxn2 hw3 hb3 hat3 hb2 HMADE HAW HWA HBA HAT;go_upto_region 4 with (fail)
 rw[HW3.o];have hok:=HR.o.ok;obtain⟨i0,hi0,iz0,iz1,iz2⟩:=info_parts zDT;obtain⟨L2,hL2⟩:∃q,l++[65,4449,4520]=q:=⟨_,rfl⟩
 have hLC:∀c∈L2,C.isC c=true:=fun c hc=>by
  rw[←hL2]at hc;rcases List.mem_append.1 hc with h|h
  · exact HLC.o c h
  simp only[List.mem_cons,List.not_mem_nil,or_false]at h;rcases h with rfl|rfl|rfl <;> decide
 have hLl:L2.length=ln+3:=by rw[←hL2,List.length_append,HLN.o];rfl
 obtain⟨w4,hw4⟩:∃w4,w3.alloc (.cells #[.int .i64 65,.int .i64 4449,.int .i64 4520] 3)=w4:=⟨_,rfl⟩;have hb4:Below w3.heap.size w3 w4:=by rw[←hw4];exact (Below.refl _ _).alloc (Nat.le_refl _) _
 have hlit:Sl w4 w4.heap.size (some ⟨w3.heap.size,0,none⟩) [.int .i64 65,.int .i64 4449,.int .i64 4520]:=by
  rw[←hw4];exact Sl.lit rfl _ _ (heap_alloc_new w3 _)
 have hg4:w3.grownBy w4 (Value.slice Al ln cl).ownBlock:=by rw[←hw4];exact World.grownBy_alloc _ _ _
 have hH:=HB1.o;have hz4:w1.heap.size≤w4.heap.size:=Nat.le_trans (Nat.le_trans hb2z hb3z) hb4.size;have HW4:=hy' hw4;have HO4:=hy' (zA4 HL3.o hb4 (Nat.le_refl _));have HLIT:=hy' hlit;have HG4:=hy' hg4;have HB4:=hy' hb4;have HLC2:=hy' hLC;have HLL:=hy' hLl;have HL2:=hy' hL2;clear hw4 hb4 hlit hg4 hLC hLl hL2 hok z0 z1 zl hH;go_upto_region 7 with (first|(at_builtin;rw[HW4.o];refine zAe _ rfl _ _ _ rfl w1.heap.size 3 i0 _ 1 8 Tryz.underlying23 hi0 iz0 iz1 iz2 rfl (by omega) _ ln _ rfl HO4.o _ (some ⟨w3.heap.size,0,none⟩) 3 3 [.int .i64 65,.int .i64 4449,.int .i64 4520] rfl rfl HLIT.o (by intro u hu;simp at hu;rcases hu with rfl|rfl|rfl <;> rfl) (by simp only[maxLen];omega) (by omega) hz4 ?_;intro v5 w5 hown5 hb5 hg5;obtain⟨A5,c5,rfl⟩:=zA3 hown5;have HO5:=hy' hown5;have HB5:=hy' hb5;have HG5:=hy' hg5;clear hown5 hb5 hg5)|fail)
 have hg35:=zA0 HG4.o HG5.o;have hat5:=HT3.o.grown hg35 (fun e=>by have:=HOB.o _ e;omega);obtain⟨hi5,hd5⟩:=HAP.o w5 hg35
 have hs5:Sl w5 w5.heap.size A5 (L2.map (Value.int .i64)):=by
  have:=Sl.of_own HO5.o;rw[←HL2.o,List.map_append];exact this
 have hbb:Below w.heap.size w w5:=HB3.o.trans ((HB4.o.mono HB3.o.size).trans (HB5.o.mono HB1.o.size));have HI5:=hy' hi5;have HD5:=hy' hd5;have HT5:=hy' hat5;have HS5:=hy' hs5;have HBB:=hy' hbb;clear hg35 hat5 hi5 hd5 hs5 hbb HO5 HB5 HG5 HL3 HW4 HO4 HLIT HG4 HB4;go_loopw [28] (fun i wr=>∃k:Nat,k≤ln+3∧i=.int .i64 k∧Below w5.heap.size w5 wr) (fun i _=>ln+3-(intOf i).toNat)
 case atStart=>exact⟨0,Nat.zero_le _,rfl,Below.refl _ _⟩
 obtain⟨k,hk,rfl,hbr⟩:=hrel;obtain⟨q0,rfl⟩:∃q:World,q=wr:=⟨_,rfl⟩;have HR0:=hy' hbr
 by_cases hlt:k<ln+3
 rotate_left
 · obtain rfl:k=ln+3:=by omega
   have kI:¬((ln+3:Nat):Int)<(ln+3:Nat):=by omega
   have HS1:Hy (∀(x:Int),C.isC x=false→∀W,Below w5.heap.size w5 W→Calls Tryz.prog 22 #[.pointer (some ⟨pb,0,none⟩),.int .i32 x] W fun e w'=>e=.returned (.bool false)∧Below W.heap.size W w'):=hy' fun x hx W hW=>by
    have:=Sp.safe_any _ T S x W HR.o.ok (HI5.o.below hW);unfold zLv at this;rw[hx,Bool.false_and]at this;exact this
   have HS2:Hy (∀(x:Int),C.isC x=false→∀W,Below w5.heap.size w5 W→Calls Tryz.prog 19 #[.pointer (some ⟨pb,0,none⟩),.int .i32 x] W fun e w'=>e=.returned (.bool false)∧Below W.heap.size W w'):=hy' fun x hx W hW=>by
    have:=Sp.apart_any _ T S x W HR.o.ok (HI5.o.below hW);unfold Sp.apart at this;rw[hx,Bool.false_and]at this;exact this
   have HS3:Hy (∀W,Below w5.heap.size w5 W→Calls Tryz.prog 22 #[.pointer (some ⟨pb,0,none⟩),.int .i32 4449] W fun e w'=>e=.returned (.bool false)∧Below W.heap.size W w'):=hy' fun W hW=>by
    have:=Sp.safe_any _ T S 4449 W HR.o.ok (HI5.o.below hW);rw[Sp.no4449 HR.o.ok]at this;exact this
   have HS4:Hy (∀W,Below w5.heap.size w5 W→Calls Tryz.prog 19 #[.pointer (some ⟨pb,0,none⟩),.int .i32 4520] W fun e w'=>e=.returned (.bool false)∧Below W.heap.size W w'):=hy' fun W hW=>by
    have:=Sp.apart_any _ T S 4520 W HR.o.ok (HI5.o.below hW);rw[Sp.no4520 HR.o.ok]at this;exact this
   clear hbr;go_wp2_with fail;refine (HS1.o (-1) (by decide) q0 HR0.o).mono ?_;rintro e q3 ⟨rfl,hb⟩;have HR3:=hy' (HR0.o.trans (hb.mono HR0.o.size));clear hb;go_wp2_with fail;refine (HS2.o 55296 (by decide) q3 HR3.o).mono ?_;rintro e q4 ⟨rfl,hb⟩;have HR4:=hy' (HR3.o.trans (hb.mono HR3.o.size));clear hb;go_wp2_with fail;refine (HS3.o q4 HR4.o).mono ?_;rintro e q5 ⟨rfl,hb⟩;have HR5:=hy' (HR4.o.trans (hb.mono HR4.o.size));clear hb;go_wp2_with fail;refine (HS4.o q5 HR5.o).mono ?_;rintro e q6 ⟨rfl,hb⟩;have HR6:=hy' (HBB.o.trans ((HR5.o.trans (hb.mono HR5.o.size)).mono HBB.o.size));clear hb;go_wp2_with fail;go_ret;exact⟨rfl,HR6.o⟩
 obtain⟨x,hx⟩:∃x,L2[k]?=some x:=⟨_,List.getElem?_eq_getElem (by rw[HLL.o];exact hlt)⟩;have hxc:=HLC2.o x (List.mem_of_getElem? hx);obtain⟨hx1,hx2⟩:=Sp.isC_bd hxc;obtain⟨ab,ao,rfl,hab,hac⟩:=HS5.o (by rw[List.length_map,HLL.o];omega);have hc:=hac k (by rw[List.length_map,HLL.o];exact hlt);rw[List.getElem?_map,hx,Option.map_some,←(zAQ hbr).1 _ _ hab]at hc;have hab2:=Nat.lt_of_lt_of_le hab hbr.size;obtain⟨M,hM⟩:=zCx HR.o.ok x;obtain⟨y,hy⟩:∃y,Sp.head T x=y:=⟨_,rfl⟩;have hyb:=Sp.head_bd HR.o.ok hxc;have hsf:=Sp.safe_isC (T:=T) (S:=S) hxc;have hsa:=Sp.apart_isC (T:=T) hxc;rw[hy]at hM hyb hsf hsa;obtain⟨cv,hcv⟩:∃q,Md.cls T y=q:=⟨_,rfl⟩;obtain⟨st,hst⟩:∃q,Sp.start T x=q:=⟨_,rfl⟩;have hsc:st=decide (cv=0):=by rw[←hst,←hcv,←hy];rfl
 obtain⟨sc,hsc2⟩:∃q,Nc.sec T S y=q:=⟨_,rfl⟩;obtain⟨nn,hnn⟩:∃q,Sp.inn T y=q:=⟨_,rfl⟩;rw[hst,hsc2]at hsf;rw[hst,hnn]at hsa;have hw0:IntKind.i32.wrap x=x:=by rw[IntKind.wrap_i32];omega
 have hw1:IntKind.i32.wrap y=y:=by rw[IntKind.wrap_i32];omega
 have HFULL:Hy (∀W,Below w5.heap.size w5 W→Calls Tryz.prog 20 #[.agg #[.slice A2 n2 c2,.slice XA2 xn2 xc2],.int .i64 x] W fun e w'=>∃A' c',e=.returned (.tuple #[.slice A' (M.length+1) c',.bool true])∧Sl w' w'.heap.size A' ((y::M).map (Value.int .i64))∧Below W.heap.size W w'):=hy' fun W hW=>by
  have:=zEJ _ T E x W (by have:=HR.o.tl;omega) (HD5.o.below hW) HR.o.ok.bd (fun r hr=>by have:=(HR.o.rok r hr).2.2.1;omega) hx1 hx2;rw[zDM HR.o.ok,hM]at this;exact this
 have HCLS:Hy (∀W,Below w5.heap.size w5 W→Calls Tryz.prog 21 #[.agg #[.slice A2 n2 c2,.slice XA2 xn2 xc2],.int .i64 y] W fun e w'=>e=.returned (.int .i64 cv)∧Below W.heap.size W w'):=hy' fun W hW=>by
  have:=zFW _ T E y W (by have:=HR.o.tl;omega) (HD5.o.below hW);rw[hcv]at this;exact this
 have HSF:Hy (∀W,Below w5.heap.size w5 W→Calls Tryz.prog 22 #[.pointer (some ⟨pb,0,none⟩),.int .i32 x] W fun e w'=>e=.returned (.bool (st&&!sc))∧Below W.heap.size W w'):=hy' fun W hW=>by
  have:=Sp.safe_any _ T S x W HR.o.ok (HI5.o.below hW);rw[hsf]at this;exact this
 have HAPT:Hy (∀W,Below w5.heap.size w5 W→Calls Tryz.prog 19 #[.pointer (some ⟨pb,0,none⟩),.int .i32 x] W fun e w'=>e=.returned (.bool (st&&!nn))∧Below W.heap.size W w'):=hy' fun W hW=>by
  have:=Sp.apart_any _ T S x W HR.o.ok (HI5.o.below hW);rw[hsa]at this;exact this
 have HSEC:Hy (∀W,Below w5.heap.size w5 W→Calls Tryz.prog 23 #[.pointer (some ⟨pb,0,none⟩),.int .i32 y] W fun e w'=>e=.returned (.bool sc)∧Below W.heap.size W w'):=hy' fun W hW=>by
  have:=Ud.second_any _ T S y W HR.o.ok (HI5.o.below hW) hyb.1 hyb.2;rw[hsc2]at this;exact this
 have HINN:Hy (∀W,Below w5.heap.size w5 W→Calls Tryz.prog 24 #[.pointer (some ⟨pb,0,none⟩),.int .i32 y] W fun e w'=>e=.returned (.bool nn)∧Below W.heap.size W w'):=hy' fun W hW=>by
  have:=zM7 _ T S y W HR.o.ok (Ud.inn_le HR.o.ok) (HI5.o.below hW) hyb.1 hyb.2;rw[show (C.mem (C.chars (Ud.inn T T)) y||decide (zA2 y=2)||decide (zA2 y=3))=nn from hnn]at this;exact this
 have HST:=hy' hsc;have hat:=HT5.o.below hbr;have z0:=hat.cell 0 rfl;have z1:=hat.cell 1 rfl;have zl:=hat.lt;have kI:(k:Int)<(ln+3:Nat):=by omega
 have k0:(0:Int)≤k:=by omega
 clear hx hxc hx1 hx2 hac hM hy hyb hsf hsa hcv hst hsc hsc2 hnn hbr hat;go_wp2_with fail;refine (HFULL.o q0 HR0.o).mono ?_;rintro e q1 ⟨A6,c6,rfl,hs6,hb⟩;have HR1:=hy' (HR0.o.trans (hb.mono HR0.o.size));obtain⟨g6,o6,rfl,hg6,hc6⟩:=hs6 (by simp);have hc7:=hc6 0 (by simp);rw[Nat.add_zero]at hc7;have hc8:q1.cell? ⟨g6,o6,none⟩=some (.int .i64 y):=hc7;have hml:(0:Int)<((M.length+1:Nat):Int):=by omega
 have hml':0<M.length+1:=by omega
 have HCG:Hy (∀W,Below q1.heap.size q1 W→(∀x:Stg.Later Stg.Ex W,x.val.cell? ⟨w2.heap.size,0,none⟩=some (.slice A2 n2 c2))∧(∀x:Stg.Later Stg.Ex W,x.val.cell? ⟨w2.heap.size,1,none⟩=some (.slice XA2 xn2 xc2))∧(∀x:Stg.Later Stg.Ex W,x.val.cell? ⟨g6,o6,none⟩=some (.int .i64 y))):=hy' fun W hW =>
  have hT:=HT5.o.below (HR1.o.trans (hW.mono HR1.o.size))
  ⟨Stg.cells (hT.cell 0 rfl) hT.lt,Stg.cells (hT.cell 1 rfl) hT.lt,Stg.cells (((zAQ hW).1 _ _ hg6).trans hc8) (Nat.lt_of_lt_of_le hg6 hW.size)⟩
 have HV0:=hy' (Below.refl q1.heap.size q1).drew;clear hs6 hb hc6 hc7 z0 z1 zl hc hab2;go_upto_region 11 with (fail)
 clear hc8;refine Stg.wp_region (by kernel_rfl) Stg.Ex Stg.Ex.rel ?_;obtain⟨f0,f1,e0⟩:=HCG.o q1.drew HV0.o;refine Stg.read 0 (by kernel_rfl) q1.drew rfl ?_;intro K hK;go_big_quiet_op;go_big_quiet_on;iterate 2 (refine Stg.readW (by kernel_rfl) ?_;intro K hK;go_big_quiet_op;go_big_quiet_on)
 refine Stg.read 0 (by kernel_rfl) q1.drew rfl ?_;intro K hK;go_big_quiet_op;go_big_quiet_on;refine Stg.cl 21 _ _ rfl Tryz.func21 [.agg #[.slice A2 n2 c2,.slice XA2 xn2 xc2],.int .i64 y] rfl q1.drew _ (HCLS.o q1.drew (HR1.o.trans (HV0.o.mono HR1.o.size))) (by kernel_rfl) rfl ?_;rintro e v1 ⟨rfl,hb⟩;refine⟨_,rfl,hb,?_⟩;have HV1:=hy' (HV0.o.trans (hb.mono HV0.o.size));clear hb;intro A' hA';simp only[Act.put,List.setIfInBounds_toArray,List.set_cons_succ,List.set_cons_zero]at hA';subst hA'
 iterate 2 (refine Stg.readW (by kernel_rfl) ?_;intro K hK;go_big_quiet_op;go_big_quiet_on)
 clear f0 f1 e0;refine Stg.nil v1 rfl ?_;have HR2:=hy' (HR1.o.trans (HV1.o.mono HR1.o.size));clear HV0 HV1 HCG;rcases st with _|_
 · have hcn:(cv == 0)=false:=by have:=HST.o;simpa using this.symm
   have hq:=HST.o;clear hq;go_wp2_with fail;refine (HSF.o v1 HR2.o).mono ?_;rintro e q3 ⟨rfl,hb⟩;have HR3:=hy' (HR2.o.trans (hb.mono HR2.o.size));clear hb;go_wp2_with fail;refine (HAPT.o q3 HR3.o).mono ?_;rintro e q4 ⟨rfl,hb⟩;have HR4:=hy' (HR3.o.trans (hb.mono HR3.o.size));clear hb;go_wp2_with fail;go_roundw
   case rel=>exact⟨k+1,by omega,by first|rfl|go_num,HR4.o⟩
   simp[intOf];omega
 have hcn:(cv == 0)=true:=by have:=HST.o;simpa using this.symm
 cases sc <;> cases nn
 all_goals
  go_wp2_with fail;refine (HSF.o v1 HR2.o).mono ?_;rintro e q3 ⟨rfl,hb⟩;have HR3:=hy' (HR2.o.trans (hb.mono HR2.o.size));clear hb;go_wp2_with fail;refine (HSEC.o q3 HR3.o).mono ?_;rintro e q4 ⟨rfl,hb⟩;have HR4:=hy' (HR3.o.trans (hb.mono HR3.o.size));clear hb;go_wp2_with fail;refine (HAPT.o q4 HR4.o).mono ?_;rintro e q5 ⟨rfl,hb⟩;have HR5:=hy' (HR4.o.trans (hb.mono HR4.o.size));clear hb;go_wp2_with fail;refine (HINN.o q5 HR5.o).mono ?_;rintro e q6 ⟨rfl,hb⟩;have HR6:=hy' (HR5.o.trans (hb.mono HR5.o.size));clear hb;go_wp2_with fail;go_roundw
  case rel=>exact⟨k+1,by omega,by first|rfl|go_num,HR6.o⟩
  simp[intOf];omega
end Go.Proofs.YtjakbblocbicjaaGreatDoor
