/- The law OrderJoins, by walking its text. -/
import Derived.Test.YtbeakahjbkdeiaaGreatDoorTxAwake
import Derived.Test.YtbeakahjbkdeiaaGreatDoorOrRuns
import Derived.Test.YtbeakahjbkdeiaaGreatDoorTxSame
import Derived.Test.YtbeakahjbkdeiaaGreatDoorStage
import Derived.Test.YtbeakahjbkdeiaaGreatDoorSlCut
import Derived.Test.YtbeakahjbkdeiaaGreatDoorSlt
import Derived.BigQuiet
import Derived.Deep.DeepCutAuto
import Derived.Test.YtbeakahjbkdeiaaGreatDoorMoreJ
namespace Go.Proofs.YtbeakahjbkdeiaaGreatDoor
open Go.RowKit
set_option linter.unusedSimpArgs false
set_option linter.unusedVariables false
set_option maxRecDepth 100000 in
set_option maxHeartbeats 40000000 in
theorem Tx.orderJoins_any (w:World) (A XA PA MA:Option Addr) (n c xn xc pn pc mn mc:Nat) (T0:List Rw.Row) (E0 P M:List Int) (hT:Tx.In A XA PA MA n c xn xc pn pc mn mc T0 E0 P M w) (at':Int) (ha1 : -9223372036854775808≤at') (ha2:at'≤9223372036854775807) (hL:Rw.Laid w) :
 Calls Tryz.prog 7 #[.agg #[.slice A n c,.slice XA xn xc,.slice PA pn pc,.slice MA mn mc],.int .i64 at'] w fun e w'=>e=.returned (.bool true)∧Below w.heap.size w w':=by
 have HMADE:=Lib.hid (fun W (hW:Below w.heap.size w W)=>Tx.made_in A XA PA MA n c xn xc pn pc mn mc T0 E0 P M 30 W (by decide) (hT.below hW) (Rw.Laid.next hL hW))
 have HAW:=Lib.hid (fun W (hW:Below w.heap.size w W)=>Tx.awake16 W (hL.next hW))
 obtain⟨wa,hwa⟩:∃wa,w.alloc (.cells #[.slice A n c,.slice XA xn xc,.slice PA pn pc,.slice MA mn mc] 50)=wa:=⟨_,rfl⟩
 have hba:Below w.heap.size w wa:=by rw[←hwa];exact (Below.refl _ _).alloc (Nat.le_refl _) _
 have hat:Rw.At wa w.heap.size 50 [.slice A n c,.slice XA xn xc,.slice PA pn pc,.slice MA mn mc]:=by rw[←hwa];exact Rw.At.new w 50 [.slice A n c,.slice XA xn xc,.slice PA pn pc,.slice MA mn mc]
 have HWA:=Lib.hid hwa
 have HBA:=Lib.hid hba
 have HAT:=Lib.hid hat
 clear hwa hba hat hT hL
 go_enter Tryz.func7,Tryz.ntmps7
 go_upto_region 1 with (fail)
 rw[HWA.out]
 go_wp2_with fail
 refine (HAW.out wa HBA.out).mono ?_
 rintro e w1 ⟨rfl,hb1⟩
 have hat1:=HAT.out.below hb1
 have HB1:=Lib.hid (HBA.out.trans (hb1.mono HBA.out.size))
 have x0:=hat1.cell 0 rfl
 have x1:=hat1.cell 1 rfl
 have x2:=hat1.cell 2 rfl
 have x3:=hat1.cell 3 rfl
 have xl:=hat1.lt
 clear hb1 hat1
 go_wp2_with fail
 refine (HMADE.out w1 HB1.out).mono ?_
 rintro e w2 ⟨p,v2,T,E,S,l,Al,cl,rfl,his,hdo,hR,hown,hlc,hll,hap,hb2⟩
 obtain⟨pb,rfl,hpbl⟩:=his.form
 obtain⟨A2,c2,XA2,xc2,rfl,hdo2⟩:=id hdo
 obtain⟨n2,hn2⟩:∃k,T.length=k:=⟨_,rfl⟩
 obtain⟨xn2,hxn2⟩:∃k,E.length=k:=⟨_,rfl⟩
 obtain⟨ln,hln⟩:∃k,l.length=k:=⟨_,rfl⟩
 unfold Md.tv at hdo hap ⊢
 rw[hn2,hxn2]at hdo ⊢
 simp only[hn2,hxn2]at hap
 rw[hln]at hown hll hap ⊢
 obtain⟨w3,hw3⟩:∃w3,w2.alloc (.cells #[.slice A2 n2 c2,.slice XA2 xn2 xc2] 31)=w3:=⟨_,rfl⟩
 have hb3:Below w2.heap.size w2 w3:=by rw[←hw3];exact (Below.refl _ _).alloc (Nat.le_refl _) _
 have hat3:Rw.At w3 w2.heap.size 31 [.slice A2 n2 c2,.slice XA2 xn2 xc2]:=by rw[←hw3];exact Rw.At.new w2 31 [.slice A2 n2 c2,.slice XA2 xn2 xc2]
 have HW3:=Lib.hid hw3
 have HB3:=Lib.hid (HB1.out.trans ((hb2.trans (hb3.mono hb2.size)).mono HB1.out.size))
 have HT3:=Lib.hid hat3
 have HI3:=Lib.hid (his.below hb3)
 have HD3:=Lib.hid (hdo.below hb3)
 have HL3:=Lib.hid (own_below hown hb3 (Nat.le_refl _))
 have HR:=Lib.hid hR
 have HLC:=Lib.hid hlc
 have HLN:=Lib.hid hln
 have HN2:=Lib.hid hn2
 have HAP:Hid (∀w'',w3.grownBy w'' (Value.slice Al ln cl).ownBlock→Ud.Is w'' (.pointer (some ⟨pb,0,none⟩)) T S∧Md.Doc w'' (.agg #[.slice A2 n2 c2,.slice XA2 xn2 xc2]) T E):=Lib.hid fun w'' hg=>hap w'' (Rw.grown_trans (by rw[←hw3];exact World.grownBy_alloc _ _ _) hg)
 have HLB:=Lib.hid (fun x (hx:x∈l)=>Tx.isC_i32 (hlc x hx))
 have z0:=hat3.cell 0 rfl
 have z1:=hat3.cell 1 rfl
 have zl:=hat3.lt
 clear x0 x1 x2 x3 xl hap hdo hdo2 his hR hown hlc hln hn2 hxn2 hw3 hb3 hat3 hb2 HMADE HAW HWA HBA HAT
 go_upto_region 4 with (fail)
 rw[HW3.out]
 have hok:=HR.out.ok
 obtain⟨i0,hi0,iz0,iz1,iz2⟩:=info_parts infoRune
 have HL33:=Lib.hid (Sl.of_own HL3.out)
 obtain⟨f,hf⟩:∃f,Md.cls T=f:=⟨_,rfl⟩
 obtain⟨wl,hwl⟩:∃wl,Or.of f l=wl:=⟨_,rfl⟩
 have hwn:wl.length=ln:=by rw[←hwl,Or.of_len];exact HLN.out
 have h0:∀x,0≤f x:=fun x=>by rw[←hf];exact (Ud.cls_bd hok x).1
 have HCL:Hid (∀d W,Below w3.heap.size w3 W→Calls Tryz.prog 36 #[.agg #[.slice A2 n2 c2,.slice XA2 xn2 xc2],.int .i64 d] W fun e w'=>e=.returned (.int .i64 (f d))∧Below W.heap.size W w'):=Lib.hid fun d W hW=>by
  have:=Md.rcls_any _ T E d W (by have:=HR.out.tl;omega) (HD3.out.below hW)
  rw[hf]at this
  exact this
 have HRU:Hid (∀(A':Option Addr) (m c':Nat) (z:List Int) (W:World),Below w3.heap.size w3 W→z.length=m→m≤1000000→(∀x∈z,x∈l)→Sl W W.heap.size A' (z.map (Value.int .i64))→Calls Tryz.prog 31 #[.slice A' m c'] W fun e w'=>∃A' c',e=.returned (.slice A' m c')∧Sl w' w'.heap.size A' (z.map (Value.int .i32))∧Below W.heap.size W w'):=Lib.hid fun A' m c' z W hW hz hm hzl hA=>by
  refine (Tx.runes_any A' m c' z W hz hm (fun x hx=>HLB.out x (hzl x hx)) hA).mono ?_
  rintro e w' ⟨A',c',rfl,ho,hb⟩
  rw[hz]at ho ⊢
  exact⟨A',c',rfl,Sl.of_own ho,hb⟩
 have HOF:Hid (∀(A':Option Addr) (m c':Nat) (z:List Int) (W:World),Below w3.heap.size w3 W→z.length=m→m≤100000→Sl W W.heap.size A' (z.map (Value.int .i32))→Calls Tryz.prog 33 #[.pointer (some ⟨pb,0,none⟩),.slice A' m c'] W fun e w'=>∃A' c',e=.returned (.slice A' m c')∧w'.ownsRow W.heap.size 21 1 (.slice A' m c') m ((Or.of f z).map (Value.int .i32))∧Below W.heap.size W w'):=Lib.hid fun A' m c' z W hW hz hm hA=>by
  refine (Or.ofD_any _ T S A' m c' z W hok (HI3.out.below hW) hz hm hA).mono ?_
  rintro e w' ⟨A',c',rfl,hown,hb⟩
  rw[hf,Or.of_len,hz]at hown ⊢
  exact⟨A',c',rfl,hown,hb⟩
 have HIN:Hid (∀(A':Option Addr) (m c':Nat) (z:List Int) (W:World) (b:Bool),Below w3.heap.size w3 W→z.length=m→m≤1000000→Or.inB f 0 z=b→Sl W W.heap.size A' (z.map (Value.int .i32))→Calls Tryz.prog 35 #[.pointer (some ⟨pb,0,none⟩),.slice A' m c'] W fun e w'=>e=.returned (.bool b)∧Below W.heap.size W w'):=Lib.hid fun A' m c' z W b hW hz hm hb hA=>by
  have:=Or.in_any _ T S A' m c' z W hok (HI3.out.below hW) hz hm hA
  rw[hf,hb]at this
  exact this
 have HROF:Hid (∀W,Below w3.heap.size w3 W→Calls Tryz.prog 32 #[.agg #[.slice A2 n2 c2,.slice XA2 xn2 xc2],.slice Al ln cl] W fun e w'=>∃A' c',e=.returned (.slice A' ln c')∧Sl w' w'.heap.size A' (wl.map (Value.int .i64))∧Below W.heap.size W w'):=Lib.hid fun W hW=>by
  refine (Nf.rof_any _ T E Al ln cl l W (by have:=HR.out.tl;omega) (HD3.out.below hW) HLN.out (by omega) (HL33.out.below hW hW.size)).mono ?_
  rintro e w' ⟨A',c',rfl,ho,hb⟩
  rw[hf,hwl,hwn]at ho ⊢
  exact⟨A',c',rfl,Sl.of_own ho,hb⟩
 have HSM:Hid (∀(A' B':Option Addr) (na ca cb:Nat) (z:List Int) (W:World),na=ln→z=wl→Sl W W.heap.size A' (z.map (Value.int .i32))→Sl W W.heap.size B' (wl.map (Value.int .i64))→Calls Tryz.prog 34 #[.slice A' na ca,.slice B' ln cb] W fun e w'=>e=.returned (.bool true)∧Below W.heap.size W w'):=Lib.hid fun A' B' na ca cb z W hna hz hA hB=>by
  subst hna hz
  have:=Tx.same_any A' B' na ca na cb z z W hwn hwn (by omega) (by omega) (fun x hx=>HLB.out x (by rw[←hwl]at hx;exact (Or.of_mem f l x).1 hx)) hA hB
  rw[decide_eq_true rfl]at this
  exact this
 have HF0:=Lib.hid h0
 have HWL:=Lib.hid hwl
 have hA:(Al=none∧ln=0∧cl=0)∨∃gb,Al=some ⟨gb,0,none⟩∧ln≤cl:=by
  rcases HL3.out.2 with ⟨hv,h0⟩|⟨g',cap',cur,hv,hg,hb,h1,h2,h3,h4⟩
  · cases hv;exact .inl ⟨rfl,rfl,rfl⟩
  · cases hv;exact .inr ⟨g',rfl,by omega⟩
 have HCK:Hid (∀W,Below w3.heap.size w3 W→(∀x:Stg.Later (Stg.Keep fun b=>b<w3.heap.size) W,x.val.cell? ⟨w2.heap.size,0,none⟩=some (.slice A2 n2 c2))∧(∀x:Stg.Later (Stg.Keep fun b=>b<w3.heap.size) W,x.val.cell? ⟨w2.heap.size,1,none⟩=some (.slice XA2 xn2 xc2))):=Lib.hid fun W hW =>
  have hT:=HT3.out.below hW
  ⟨Stg.Keep.cells (hT.cell 0 rfl) HT3.out.lt,Stg.Keep.cells (hT.cell 1 rfl) HT3.out.lt⟩
 have HBL0:=Lib.hid (Below.refl w3.heap.size w3)
 have HFIN:=HB3.out
 clear hok h0 hf z0 z1 zl hwl hwn
 rcases hA with ⟨rfl,rfl,rfl⟩|⟨gb,rfl,hcap⟩
 · have hl0:l=[]:=List.eq_nil_of_length_eq_zero HLN.out
   subst hl0
   have nI:¬(((0:Nat):Int) > 0):=by decide
   go_wp2_with fail
   go_loopw [9] (fun i wr=>i=.int .i64 0∧Below w3.heap.size w3 wr) (fun i _=>0)
   case atStart=>exact⟨rfl,HBL0.out⟩
   case round =>
    obtain⟨rfl,hbel⟩:=hrel
    go_upto_region 9 with (fail)
    go_quiet (fail)
    obtain⟨w4,hw4⟩:∃w4:World,wr.drewN nq=w4:=⟨_,rfl⟩
    have HBC:Hid (Below w3.heap.size w3 w4):=Lib.hid (by rw[←hw4];exact below_drewN hbel _)
    rw[hw4]
    have HKA:Hid (([]:List Int).length=0):=Lib.hid rfl
    have HKB0:=HKA
    have HKAM:Hid (∀x∈([]:List Int),x∈([]:List Int)):=Lib.hid fun _ h=>h
    have HKBM:=HKAM
    have HSA:Hid (∀W,Below w3.heap.size w3 W→Sl W W.heap.size none (([]:List Int).map (Value.int .i64))):=Lib.hid fun W _=>Sl.nil _ _ _
    have HSL:=HSA
    have HSB':=HSA
    have HOFC:Hid (wl=Or.of f []++Or.of f []):=Lib.hid (by rw[←HWL.out];rfl)
    have HIN0:Hid (Or.inB f 0 []=true):=Lib.hid rfl
    have HIA:=HIN0
    have HIB:=HIN0
    have hsb:Hid ((true == true)=true):=Lib.hid rfl
    clear hbel hw4
    have HQ0:=Lib.hid HBC.out.drew
    go_upto_region 11 with (fail)
    refine Stg.wp_region Stg.Ex Stg.Ex.rel (by kernel_rfl) (by kernel_rfl) (by kernel_rfl) ?_
    refine Stg.readW (by kernel_rfl) (by kernel_rfl) (by kernel_rfl) ?_;intro K hK;go_big_quiet_op;go_big_quiet_on
    refine Stg.readW (by kernel_rfl) (by kernel_rfl) (by kernel_rfl) ?_;intro K hK;go_big_quiet_op;go_big_quiet_on
    refine Stg.readW (by kernel_rfl) (by kernel_rfl) (by kernel_rfl) ?_;intro K hK;go_big_quiet_op;go_big_quiet_on
    refine Stg.readW (by kernel_rfl) (by kernel_rfl) (by kernel_rfl) ?_;intro K hK;go_big_quiet_op;go_big_quiet_on
    refine Stg.call 31 _ _ rfl (C.enter Tryz.func31 (by kernel_rfl) rfl) [.slice none 0 0] rfl w4.drew _ (HRU.out none 0 0 [] w4.drew HQ0.out HKA.out (by omega) HKAM.out (HSA.out w4.drew HQ0.out)) (by kernel_rfl) rfl (by kernel_rfl) ?_
    rintro e q1 ⟨A5,c5,rfl,hs5,hb⟩;refine⟨_,rfl,hb,?_⟩;have HQ1:=Lib.hid (HQ0.out.trans (hb.mono HQ0.out.size));have HS5:=Lib.hid hs5;clear hs5;clear hb;intro A' hA';simp only[Act.put,List.setIfInBounds_toArray,List.set_cons_succ,List.set_cons_zero]at hA';subst hA'
    refine Stg.call 33 _ _ rfl (C.enter Tryz.func33 (by kernel_rfl) rfl) [.pointer (some ⟨pb,0,none⟩),.slice A5 0 c5] rfl q1 _ (HOF.out A5 0 c5 [] q1 HQ1.out HKA.out (by omega) HS5.out) (by kernel_rfl) rfl (by kernel_rfl) ?_
    rintro e q2 ⟨A6,c6,rfl,ho6,hb⟩;refine⟨_,rfl,hb,?_⟩;have HQ2:=Lib.hid (HQ1.out.trans (hb.mono HQ1.out.size));have HO6:=Lib.hid (own_mono ho6 HQ1.out.size);clear ho6;clear hb;intro A' hA';simp only[Act.put,List.setIfInBounds_toArray,List.set_cons_succ,List.set_cons_zero]at hA';subst hA'
    refine Stg.readW (by kernel_rfl) (by kernel_rfl) (by kernel_rfl) ?_;intro K hK;go_big_quiet_op;go_big_quiet_on
    refine Stg.readW (by kernel_rfl) (by kernel_rfl) (by kernel_rfl) ?_;intro K hK;go_big_quiet_op;go_big_quiet_on
    refine Stg.readW (by kernel_rfl) (by kernel_rfl) (by kernel_rfl) ?_;intro K hK;go_big_quiet_op;go_big_quiet_on
    refine Stg.readW (by kernel_rfl) (by kernel_rfl) (by kernel_rfl) ?_;intro K hK;go_big_quiet_op;go_big_quiet_on
    refine Stg.call 31 _ _ rfl (C.enter Tryz.func31 (by kernel_rfl) rfl) [.slice none 0 0] rfl q2 _ (HRU.out none 0 0 [] q2 HQ2.out HKB0.out (by omega) HKBM.out (HSB'.out q2 HQ2.out)) (by kernel_rfl) rfl (by kernel_rfl) ?_
    rintro e q3 ⟨A7,c7,rfl,hs7,hb⟩;refine⟨_,rfl,hb,?_⟩;have HQ3:=Lib.hid (HQ2.out.trans (hb.mono HQ2.out.size));have HO7:=Lib.hid (own_below HO6.out hb (Nat.le_refl _));have HS7:=Lib.hid hs7;clear hs7;clear hb;intro A' hA';simp only[Act.put,List.setIfInBounds_toArray,List.set_cons_succ,List.set_cons_zero]at hA';subst hA'
    refine Stg.call 33 _ _ rfl (C.enter Tryz.func33 (by kernel_rfl) rfl) [.pointer (some ⟨pb,0,none⟩),.slice A7 0 c7] rfl q3 _ (HOF.out A7 0 c7 [] q3 HQ3.out HKB0.out (by omega) HS7.out) (by kernel_rfl) rfl (by kernel_rfl) ?_
    rintro e q4 ⟨A8,c8,rfl,ho8,hb⟩;refine⟨_,rfl,hb,?_⟩;have HQ4:=Lib.hid (HQ3.out.trans (hb.mono HQ3.out.size));have HO8:=Lib.hid (own_below HO7.out hb (Nat.le_refl _));have HS8:=Lib.hid (Sl.of_own ho8);clear ho8;clear hb;intro A' hA';simp only[Act.put,List.setIfInBounds_toArray,List.set_cons_succ,List.set_cons_zero]at hA';subst hA'
    refine Stg.readW (by kernel_rfl) (by kernel_rfl) (by kernel_rfl) ?_;intro K hK;go_big_quiet_op;go_big_quiet_on
    refine Stg.readW (by kernel_rfl) (by kernel_rfl) (by kernel_rfl) ?_;intro K hK;go_big_quiet_op;go_big_quiet_on
    refine Stg.nil q4 rfl ?_
    have HU0:=Lib.hid HQ4.out.drew
    have HO8':=Lib.hid (own_below HO8.out (Below.refl _ _).drew (Nat.le_refl _))
    have HS8':=Lib.hid (HS8.out.below (Below.refl _ _).drew (Nat.le_refl _))
    have HLM:Hid (((Or.of f []).map (Value.int .i32)).length=0*1):=Lib.hid (by rw[List.length_map,Or.of_len,HKB0.out] <;> omega)
    have H1C:Hid (∀u∈(Or.of f []).map (Value.int .i32),u.oneCell'=true):=Lib.hid (oneCells .i32 _)
    go_upto_region 12 with (fail)
    have hsb':(true == true)=true:=hsb.out
    refine Stg.wp_region (Stg.Keep fun b=>b<w3.heap.size) (Stg.Keep.rel _) (by kernel_rfl) (by kernel_rfl) (by kernel_rfl) ?_
    refine Stg.readW (by kernel_rfl) (by kernel_rfl) (by kernel_rfl) ?_;intro K hK;go_big_quiet_op;go_big_quiet_on
    refine Stg.readW (by kernel_rfl) (by kernel_rfl) (by kernel_rfl) ?_;intro K hK;go_big_quiet_op;go_big_quiet_on
    refine Stg.stepW q4.drew (by kernel_rfl) (by kernel_rfl) rfl (by kernel_rfl) ?_;intro K hK
    refine wp_appendSl q4.drew _ _ _ rfl w3.heap.size 21 i0 _ 1 4 Tryz.underlying25 hi0 iz0 iz1 iz2 rfl (by omega) _ 0 _ rfl HO8'.out _ A8 0 c8 ((Or.of f []).map (Value.int .i32)) rfl HLM.out HS8'.out H1C.out (by simp only[maxLen];omega) (by omega) HU0.out.size ?_
    intro v9 u1 hown hb hg
    have HU1:=Lib.hid (HU0.out.trans hb)
    refine hK _ _ (Stg.Keep.of_below hb (fun q hq=>hq)) ?_
    rw[←List.map_append]at hown
    obtain⟨A9,c9,rfl⟩:=own_form hown
    have HO9:=Lib.hid (Sl.of_own hown)
    clear hown hb hg
    intro A' hA';simp only[Act.put,List.setIfInBounds_toArray,List.set_cons_succ,List.set_cons_zero]at hA';subst hA'
    obtain⟨f0,f1⟩:=HCK.out q4.drew HU0.out
    refine Stg.read 1 (by kernel_rfl) (by kernel_rfl) (by kernel_rfl) q4.drew rfl (by kernel_rfl) ?_;intro K hK;go_big_quiet_op;go_big_quiet_on
    refine Stg.readW (by kernel_rfl) (by kernel_rfl) (by kernel_rfl) ?_;intro K hK;go_big_quiet_op;go_big_quiet_on
    refine Stg.call 32 _ _ rfl (C.enter Tryz.func32 (by kernel_rfl) rfl) [.agg #[.slice A2 n2 c2,.slice XA2 xn2 xc2],.slice none 0 0] rfl u1 _ (HROF.out u1 HU1.out) (by kernel_rfl) rfl (by kernel_rfl) ?_
    rintro e u2 ⟨A10,c10,rfl,hs10,hb⟩;refine⟨_,rfl,(Stg.Keep.of_below hb (fun q hq=>Nat.lt_of_lt_of_le hq HU1.out.size)),?_⟩;have HU2:=Lib.hid (HU1.out.trans (hb.mono HU1.out.size));have HS10:=Lib.hid hs10;have HO10:=Lib.hid (HO9.out.below hb hb.size);clear hs10;clear hb;intro A' hA';simp only[Act.put,List.setIfInBounds_toArray,List.set_cons_succ,List.set_cons_zero]at hA';subst hA'
    refine Stg.call 34 _ _ rfl (C.enter Tryz.func34 (by kernel_rfl) rfl) [.slice A9 (0+0) c9,.slice A10 0 c10] rfl u2 _ (HSM.out A9 A10 (0+0) c9 c10 _ u2 (by omega) HOFC.out.symm HO10.out HS10.out) (by kernel_rfl) rfl (by kernel_rfl) ?_
    rintro e u3 ⟨rfl,hb⟩;refine⟨_,rfl,(Stg.Keep.of_below hb (fun q hq=>Nat.lt_of_lt_of_le hq HU2.out.size)),?_⟩;have HU3:=Lib.hid (HU2.out.trans (hb.mono HU2.out.size));clear hb;intro A' hA';simp only[Act.put,List.setIfInBounds_toArray,List.set_cons_succ,List.set_cons_zero]at hA';subst hA'
    refine Stg.readW (by kernel_rfl) (by kernel_rfl) (by kernel_rfl) ?_;intro K hK;go_big_quiet_op;go_big_quiet_on
    refine Stg.readW (by kernel_rfl) (by kernel_rfl) (by kernel_rfl) ?_;intro K hK;go_big_quiet_op;go_big_quiet_on
    refine Stg.readW (by kernel_rfl) (by kernel_rfl) (by kernel_rfl) ?_;intro K hK;go_big_quiet_op;go_big_quiet_on
    refine Stg.call 31 _ _ rfl (C.enter Tryz.func31 (by kernel_rfl) rfl) [.slice none 0 0] rfl u3 _ (HRU.out none 0 0 [] u3 HU3.out HLN.out (by omega) (fun _ h=>h) (HSL.out u3 HU3.out)) (by kernel_rfl) rfl (by kernel_rfl) ?_
    rintro e u4 ⟨A11,c11,rfl,hs11,hb⟩;refine⟨_,rfl,(Stg.Keep.of_below hb (fun q hq=>Nat.lt_of_lt_of_le hq HU3.out.size)),?_⟩;have HU4:=Lib.hid (HU3.out.trans (hb.mono HU3.out.size));have HS11:=Lib.hid hs11;clear hs11;clear hb;intro A' hA';simp only[Act.put,List.setIfInBounds_toArray,List.set_cons_succ,List.set_cons_zero]at hA';subst hA'
    refine Stg.call 35 _ _ rfl (C.enter Tryz.func35 (by kernel_rfl) rfl) [.pointer (some ⟨pb,0,none⟩),.slice A11 0 c11] rfl u4 _ (HIN.out A11 0 c11 [] u4 true HU4.out HLN.out (by omega) HIN0.out HS11.out) (by kernel_rfl) rfl (by kernel_rfl) ?_
    rintro e u5 ⟨rfl,hb⟩;refine⟨_,rfl,(Stg.Keep.of_below hb (fun q hq=>Nat.lt_of_lt_of_le hq HU4.out.size)),?_⟩;have HU5:=Lib.hid (HU4.out.trans (hb.mono HU4.out.size));clear hb;intro A' hA';simp only[Act.put,List.setIfInBounds_toArray,List.set_cons_succ,List.set_cons_zero]at hA';subst hA'
    refine Stg.readW (by kernel_rfl) (by kernel_rfl) (by kernel_rfl) ?_;intro K hK;go_big_quiet_op;go_big_quiet_on
    refine Stg.readW (by kernel_rfl) (by kernel_rfl) (by kernel_rfl) ?_;intro K hK;go_big_quiet_op;go_big_quiet_on
    refine Stg.readW (by kernel_rfl) (by kernel_rfl) (by kernel_rfl) ?_;intro K hK;go_big_quiet_op;go_big_quiet_on
    refine Stg.readW (by kernel_rfl) (by kernel_rfl) (by kernel_rfl) ?_;intro K hK;go_big_quiet_op;go_big_quiet_on
    refine Stg.call 31 _ _ rfl (C.enter Tryz.func31 (by kernel_rfl) rfl) [.slice none 0 0] rfl u5 _ (HRU.out none 0 0 [] u5 HU5.out HKA.out (by omega) HKAM.out (HSA.out u5 HU5.out)) (by kernel_rfl) rfl (by kernel_rfl) ?_
    rintro e u6 ⟨A12,c12,rfl,hs12,hb⟩;refine⟨_,rfl,(Stg.Keep.of_below hb (fun q hq=>Nat.lt_of_lt_of_le hq HU5.out.size)),?_⟩;have HU6:=Lib.hid (HU5.out.trans (hb.mono HU5.out.size));have HS12:=Lib.hid hs12;clear hs12;clear hb;intro A' hA';simp only[Act.put,List.setIfInBounds_toArray,List.set_cons_succ,List.set_cons_zero]at hA';subst hA'
    refine Stg.call 35 _ _ rfl (C.enter Tryz.func35 (by kernel_rfl) rfl) [.pointer (some ⟨pb,0,none⟩),.slice A12 0 c12] rfl u6 _ (HIN.out A12 0 c12 [] u6 true HU6.out HKA.out (by omega) HIA.out HS12.out) (by kernel_rfl) rfl (by kernel_rfl) ?_
    rintro e u7 ⟨rfl,hb⟩;refine⟨_,rfl,(Stg.Keep.of_below hb (fun q hq=>Nat.lt_of_lt_of_le hq HU6.out.size)),?_⟩;have HU7:=Lib.hid (HU6.out.trans (hb.mono HU6.out.size));clear hb;intro A' hA';simp only[Act.put,List.setIfInBounds_toArray,List.set_cons_succ,List.set_cons_zero]at hA';subst hA'
    refine Stg.readW (by kernel_rfl) (by kernel_rfl) (by kernel_rfl) ?_;intro K hK;go_big_quiet_op;go_big_quiet_on
    refine Stg.readW (by kernel_rfl) (by kernel_rfl) (by kernel_rfl) ?_;intro K hK;go_big_quiet_op;go_big_quiet_on
    refine Stg.readW (by kernel_rfl) (by kernel_rfl) (by kernel_rfl) ?_;intro K hK;go_big_quiet_op;go_big_quiet_on
    refine Stg.readW (by kernel_rfl) (by kernel_rfl) (by kernel_rfl) ?_;intro K hK;go_big_quiet_op;go_big_quiet_on
    refine Stg.readW (by kernel_rfl) (by kernel_rfl) (by kernel_rfl) ?_;intro K hK;go_big_quiet_op;go_big_quiet_on
    refine Stg.call 31 _ _ rfl (C.enter Tryz.func31 (by kernel_rfl) rfl) [.slice none 0 0] rfl u7 _ (HRU.out none 0 0 [] u7 HU7.out HKB0.out (by omega) HKBM.out (HSB'.out u7 HU7.out)) (by kernel_rfl) rfl (by kernel_rfl) ?_
    rintro e u8 ⟨A13,c13,rfl,hs13,hb⟩;refine⟨_,rfl,(Stg.Keep.of_below hb (fun q hq=>Nat.lt_of_lt_of_le hq HU7.out.size)),?_⟩;have HU8:=Lib.hid (HU7.out.trans (hb.mono HU7.out.size));have HS13:=Lib.hid hs13;clear hs13;clear hb;intro A' hA';simp only[Act.put,List.setIfInBounds_toArray,List.set_cons_succ,List.set_cons_zero]at hA';subst hA'
    refine Stg.call 35 _ _ rfl (C.enter Tryz.func35 (by kernel_rfl) rfl) [.pointer (some ⟨pb,0,none⟩),.slice A13 0 c13] rfl u8 _ (HIN.out A13 0 c13 [] u8 true HU8.out HKB0.out (by omega) HIB.out HS13.out) (by kernel_rfl) rfl (by kernel_rfl) ?_
    rintro e u9 ⟨rfl,hb⟩;refine⟨_,rfl,(Stg.Keep.of_below hb (fun q hq=>Nat.lt_of_lt_of_le hq HU8.out.size)),?_⟩;have HU9:=Lib.hid (HU8.out.trans (hb.mono HU8.out.size));clear hb;intro A' hA';simp only[Act.put,List.setIfInBounds_toArray,List.set_cons_succ,List.set_cons_zero]at hA';subst hA'
    refine Stg.readW (by kernel_rfl) (by kernel_rfl) (by kernel_rfl) ?_;intro K hK;go_big_quiet_op;go_big_quiet_on
    refine Stg.readW (by kernel_rfl) (by kernel_rfl) (by kernel_rfl) ?_;intro K hK;go_big_quiet_op;go_big_quiet_on
    refine Stg.readW (by kernel_rfl) (by kernel_rfl) (by kernel_rfl) ?_;intro K hK;go_big_quiet_op;go_big_quiet_on
    refine Stg.readW (by kernel_rfl) (by kernel_rfl) (by kernel_rfl) ?_;intro K hK;go_big_quiet_op;go_big_quiet_on
    clear f0 f1
    refine Stg.nil u9 rfl ?_
    have HBF:=Lib.hid (HFIN.trans (HU9.out.mono HFIN.size))
    go_wp2_with fail
    go_ret
    exact⟨by first|rfl|simp,HBF.out⟩
 go_upto_if 25 with (fail)
 go_cut [9] (fun s9 wx=>(∃k:Nat,k≤ln∧s9=.int .i64 k)∧wx=w3)
 case first =>
  by_cases hn:0<ln
  · obtain⟨j,hj,hpick⟩:=Tx.pick at' hn (show ln≤1000000 by omega)
    have m0:(ln:Int)≠0:=by omega
    have nI:(ln:Int) > 0:=by omega
    go_wp2_with fail
    go_meet
    exact⟨⟨j,by omega,rfl⟩,rfl⟩
  · have nI:¬(ln:Int) > 0:=by omega
    go_wp2_with fail
    go_meet
    exact⟨⟨0,by omega,rfl⟩,rfl⟩
 case rest =>
  obtain⟨⟨k0,hk0,rfl⟩,hwc⟩:=hcut
  replace hwc:=hwc.symm
  subst hwc
  have HCF:Hid (∀W,Below w3.heap.size w3 W→(∀x:Stg.Later Stg.Ex W,x.val.cell? ⟨w2.heap.size,0,none⟩=some (.slice A2 n2 c2))∧(∀x:Stg.Later Stg.Ex W,x.val.cell? ⟨w2.heap.size,1,none⟩=some (.slice XA2 xn2 xc2))):=Lib.hid fun W hW =>
   have hT:=HT3.out.below hW
   ⟨Stg.cells (hT.cell 0 rfl) hT.lt,Stg.cells (hT.cell 1 rfl) hT.lt⟩
  go_wp2_with fail
  go_loopw [9] (fun i wr=>∃(k:Nat),k≤ln∧i=.int .i64 k∧Below w3.heap.size w3 wr) (fun i _=>ln-(intOf i).toNat)
  case atStart=>exact⟨k0,hk0,rfl,HBL0.out⟩
  case round =>
   obtain⟨k,hk,rfl,hbel⟩:=hrel
   have HBEL:=Lib.hid hbel
   clear hbel hk0
   go_upto_region 9 with (fail)
   go_cut [48] (fun s wx=>(∃b,s=.bool b∧(b=true→k<ln)∧(b=false→Or.at0 f l k))∧Below w3.heap.size w3 wx)
   case first =>
    by_cases hlt:k<ln
    · obtain⟨x,hx⟩:∃x,l[k]?=some x:=⟨_,List.getElem?_eq_getElem (by rw[HLN.out];exact hlt)⟩
      obtain⟨ab,ao,hA2,hab,hac⟩:=HL33.out (by rw[List.length_map,HLN.out];omega)
      cases hA2
      have hc:=hac k (by rw[List.length_map,HLN.out];exact hlt)
      rw[List.getElem?_map,hx,Option.map_some,Nat.zero_add]at hc
      have HCE:Hid (∀W,Below w3.heap.size w3 W→(∀x:Stg.Later Stg.Ex W,x.val.cell? ⟨w2.heap.size,0,none⟩=some (.slice A2 n2 c2))∧(∀x:Stg.Later Stg.Ex W,x.val.cell? ⟨w2.heap.size,1,none⟩=some (.slice XA2 xn2 xc2))∧(∀u:Stg.Later Stg.Ex W,u.val.cell? ⟨gb,k,none⟩=some (.int .i64 x))):=Lib.hid fun W hW=>⟨(HCF.out W hW).1,(HCF.out W hW).2,Stg.cells (((bcell hW).1 _ _ hab).trans hc) (Nat.lt_of_lt_of_le hab hW.size)⟩
      have kI:(k:Int)<ln:=by omega
      have k0':(0:Int)≤k:=by omega
      have HX:=Lib.hid hx
      have HQ0:=Lib.hid HBEL.out.drew
      clear hx hac hc hab
      refine Stg.wp_region Stg.Ex Stg.Ex.rel (by kernel_rfl) (by kernel_rfl) (by kernel_rfl) ?_
      refine Stg.readW (by kernel_rfl) (by kernel_rfl) (by kernel_rfl) ?_;intro K hK;go_big_quiet_op;go_big_quiet_on
      refine Stg.readW (by kernel_rfl) (by kernel_rfl) (by kernel_rfl) ?_;intro K hK;go_big_quiet_op;go_big_quiet_on
      refine Stg.readW (by kernel_rfl) (by kernel_rfl) (by kernel_rfl) ?_;intro K hK;go_big_quiet_op;go_big_quiet_on
      refine Stg.readW (by kernel_rfl) (by kernel_rfl) (by kernel_rfl) ?_;intro K hK;go_big_quiet_op;go_big_quiet_on
      refine Stg.readW (by kernel_rfl) (by kernel_rfl) (by kernel_rfl) ?_;intro K hK;go_big_quiet_op;go_big_quiet_on
      obtain⟨f0,f1,e0⟩:=HCE.out wr.drew HQ0.out
      refine Stg.read 0 (by kernel_rfl) (by kernel_rfl) (by kernel_rfl) wr.drew rfl (by kernel_rfl) ?_;intro K hK;go_big_quiet_op;go_big_quiet_on
      refine Stg.readW (by kernel_rfl) (by kernel_rfl) (by kernel_rfl) ?_;intro K hK;go_big_quiet_op;go_big_quiet_on
      refine Stg.readW (by kernel_rfl) (by kernel_rfl) (by kernel_rfl) ?_;intro K hK;go_big_quiet_op;go_big_quiet_on
      refine Stg.readW (by kernel_rfl) (by kernel_rfl) (by kernel_rfl) ?_;intro K hK;go_big_quiet_op;go_big_quiet_on
      refine Stg.read 0 (by kernel_rfl) (by kernel_rfl) (by kernel_rfl) wr.drew rfl (by kernel_rfl) ?_;intro K hK;go_big_quiet_op;go_big_quiet_on
      refine Stg.call 36 _ _ rfl (C.enter Tryz.func36 (by kernel_rfl) rfl) [.agg #[.slice A2 n2 c2,.slice XA2 xn2 xc2],.int .i64 x] rfl wr.drew _ (HCL.out x wr.drew HQ0.out) (by kernel_rfl) rfl (by kernel_rfl) ?_
      rintro e q1 ⟨rfl,hb⟩;refine⟨_,rfl,hb,?_⟩;have HQ1:=Lib.hid (HQ0.out.trans (hb.mono HQ0.out.size));clear hb;intro A' hA';simp only[Act.put,List.setIfInBounds_toArray,List.set_cons_succ,List.set_cons_zero]at hA';subst hA'
      refine Stg.readW (by kernel_rfl) (by kernel_rfl) (by kernel_rfl) ?_;intro K hK;go_big_quiet_op;go_big_quiet_on
      refine Stg.readW (by kernel_rfl) (by kernel_rfl) (by kernel_rfl) ?_;intro K hK;go_big_quiet_op;go_big_quiet_on
      clear f0 f1 e0
      refine Stg.nil q1 rfl ?_
      have HQQ:=Lib.hid HQ1.out
      obtain⟨q,hq⟩:∃q,f x=q:=⟨_,rfl⟩
      rw[hq]
      have HQE:=Lib.hid hq
      clear hq
      by_cases hg:q > 0
      · have hg':0<q:=hg
        go_wp2_with fail
        go_meet
        exact⟨⟨true,by first|rfl|simp[hg'],fun _=>hlt,(fun e=>absurd e (by decide))⟩,HQQ.out⟩
      · have hg':¬0<q:=hg
        go_wp2_with fail
        go_meet
        exact⟨⟨false,by first|rfl|simp[hg'],(fun e=>absurd e (by decide)),fun _=>.inr ⟨x,HX.out,by have:=HF0.out x;rw[HQE.out]at this ⊢;omega⟩⟩,HQQ.out⟩
    · have kI:¬(k:Int)<ln:=by omega
      have hkl:k=l.length:=by rw[HLN.out];omega
      have HKL:=Lib.hid hkl
      clear hkl
      go_quiet (fail)
      try go_wp2_with fail
      go_meet
      exact⟨⟨false,by first|rfl|simp,(fun e=>absurd e (by decide)),fun _=>.inl HKL.out⟩,by first|exact HBEL.out|exact HBEL.out.drew|exact below_drewN HBEL.out _⟩
   case rest =>
    obtain⟨⟨b,rfl,ht,hf0⟩,hbc⟩:=hcut
    cases b
    · have hat0:=hf0 rfl
      obtain⟨w4,rfl⟩:∃w4:World,w4=wc:=⟨_,rfl⟩
      obtain⟨ka,hka⟩:∃z,l.take k=z:=⟨_,rfl⟩
      obtain⟨kb,hkb⟩:∃z,l.drop k=z:=⟨_,rfl⟩
      have hof:=hat0.of
      have hin:=hat0.in
      rw[hka,hkb]at hof hin
      rw[HWL.out]at hof
      have hkal:ka.length=k:=by rw[←hka,List.length_take,HLN.out];omega
      have hkbl:kb.length=ln-k:=by rw[←hkb,List.length_drop,HLN.out]
      have hkam:∀x∈ka,x∈l:=fun x hx=>List.mem_of_mem_take (hka▸hx)
      have hkbm:∀x∈kb,x∈l:=fun x hx=>List.mem_of_mem_drop (hkb▸hx)
      have HKA:=Lib.hid hkal
      have HKB:=Lib.hid hkbl
      have HKAM:=Lib.hid hkam
      have HKBM:=Lib.hid hkbm
      have HBC:=Lib.hid hbc
      have HOFC:=Lib.hid hof
      have HSA:Hid (∀W,Below w3.heap.size w3 W→Sl W W.heap.size (some ⟨gb,0,none⟩) (ka.map (Value.int .i64))):=Lib.hid fun W hW=>by
       rw[←hka,List.map_take];exact (HL33.out.below hW hW.size).takeN k
      have HSL:Hid (∀W,Below w3.heap.size w3 W→Sl W W.heap.size (some ⟨gb,0,none⟩) (l.map (Value.int .i64))):=Lib.hid fun W hW=>HL33.out.below hW hW.size
      have HSB:Hid (∀W,Below w3.heap.size w3 W→Sl W W.heap.size (some ⟨gb,k,none⟩) (kb.map (Value.int .i64))):=Lib.hid fun W hW=>by
       have:=HL33.out.below hW hW.size
       rw[←hkb,List.map_drop];have:=this.dropN k;rwa [Nat.zero_add]at this
      obtain⟨ia,hia⟩:∃b,Or.inB f 0 ka=b:=⟨_,rfl⟩
      obtain⟨ib,hib⟩:∃b,Or.inB f 0 kb=b:=⟨_,rfl⟩
      rw[hia,hib]at hin
      have HIA:=Lib.hid hia
      have HIB:=Lib.hid hib
      have HIN0:=Lib.hid hin
      have z0:(0:Int)≤k:=by omega
      clear hat0 hf0 ht hbc hof hin hka hkb hkal hkbl hkam hkbm hia hib
      have hsb:Hid (ib == ib):=Lib.hid (by simp)
      rcases Nat.lt_or_ge k cl with hkc|hkc
      case inr =>
       obtain rfl:cl=k:=by omega
       obtain rfl:ln=cl:=by omega
       have HKB0:=Lib.hid (show kb.length=0 by rw[HKB.out];omega)
       have HSB':Hid (∀W,Below w3.heap.size w3 W→Sl W W.heap.size (some ⟨gb,0,none⟩) (kb.map (Value.int .i64))):=Lib.hid fun W hW=>by rw[List.eq_nil_of_length_eq_zero HKB0.out];exact Sl.nil _ _ _
       have k0:(0:Int)≤ln:=by omega
       have HQ0:=Lib.hid HBC.out.drew
       go_upto_region 11 with (fail)
       refine Stg.wp_region Stg.Ex Stg.Ex.rel (by kernel_rfl) (by kernel_rfl) (by kernel_rfl) ?_
       refine Stg.readW (by kernel_rfl) (by kernel_rfl) (by kernel_rfl) ?_;intro K hK;go_big_quiet_op;go_big_quiet_on
       refine Stg.readW (by kernel_rfl) (by kernel_rfl) (by kernel_rfl) ?_;intro K hK;go_big_quiet_op;go_big_quiet_on
       refine Stg.readW (by kernel_rfl) (by kernel_rfl) (by kernel_rfl) ?_;intro K hK;go_big_quiet_op;go_big_quiet_on
       refine Stg.readW (by kernel_rfl) (by kernel_rfl) (by kernel_rfl) ?_;intro K hK;go_big_quiet_op;go_big_quiet_on
       refine Stg.call 31 _ _ rfl (C.enter Tryz.func31 (by kernel_rfl) rfl) [.slice (some ⟨gb,0,none⟩) ln ln] rfl w4.drew _ (HRU.out (some ⟨gb,0,none⟩) ln ln ka w4.drew HQ0.out HKA.out (by omega) HKAM.out (HSA.out w4.drew HQ0.out)) (by kernel_rfl) rfl (by kernel_rfl) ?_
       rintro e q1 ⟨A5,c5,rfl,hs5,hb⟩;refine⟨_,rfl,hb,?_⟩;have HQ1:=Lib.hid (HQ0.out.trans (hb.mono HQ0.out.size));have HS5:=Lib.hid hs5;clear hs5;clear hb;intro A' hA';simp only[Act.put,List.setIfInBounds_toArray,List.set_cons_succ,List.set_cons_zero]at hA';subst hA'
       refine Stg.call 33 _ _ rfl (C.enter Tryz.func33 (by kernel_rfl) rfl) [.pointer (some ⟨pb,0,none⟩),.slice A5 ln c5] rfl q1 _ (HOF.out A5 ln c5 ka q1 HQ1.out HKA.out (by omega) HS5.out) (by kernel_rfl) rfl (by kernel_rfl) ?_
       rintro e q2 ⟨A6,c6,rfl,ho6,hb⟩;refine⟨_,rfl,hb,?_⟩;have HQ2:=Lib.hid (HQ1.out.trans (hb.mono HQ1.out.size));have HO6:=Lib.hid (own_mono ho6 HQ1.out.size);clear ho6;clear hb;intro A' hA';simp only[Act.put,List.setIfInBounds_toArray,List.set_cons_succ,List.set_cons_zero]at hA';subst hA'
       refine Stg.readW (by kernel_rfl) (by kernel_rfl) (by kernel_rfl) ?_;intro K hK;go_big_quiet_op;go_big_quiet_on
       refine Stg.readW (by kernel_rfl) (by kernel_rfl) (by kernel_rfl) ?_;intro K hK;go_big_quiet_op;go_big_quiet_on
       refine Stg.readW (by kernel_rfl) (by kernel_rfl) (by kernel_rfl) ?_;intro K hK;go_big_quiet_op;go_big_quiet_on
       refine Stg.readW (by kernel_rfl) (by kernel_rfl) (by kernel_rfl) ?_;intro K hK;go_big_quiet_op;go_big_quiet_on
       refine Stg.call 31 _ _ rfl (C.enter Tryz.func31 (by kernel_rfl) rfl) [.slice (some ⟨gb,0,none⟩) 0 0] rfl q2 _ (HRU.out (some ⟨gb,0,none⟩) 0 0 kb q2 HQ2.out HKB0.out (by omega) HKBM.out (HSB'.out q2 HQ2.out)) (by kernel_rfl) rfl (by kernel_rfl) ?_
       rintro e q3 ⟨A7,c7,rfl,hs7,hb⟩;refine⟨_,rfl,hb,?_⟩;have HQ3:=Lib.hid (HQ2.out.trans (hb.mono HQ2.out.size));have HO7:=Lib.hid (own_below HO6.out hb (Nat.le_refl _));have HS7:=Lib.hid hs7;clear hs7;clear hb;intro A' hA';simp only[Act.put,List.setIfInBounds_toArray,List.set_cons_succ,List.set_cons_zero]at hA';subst hA'
       refine Stg.call 33 _ _ rfl (C.enter Tryz.func33 (by kernel_rfl) rfl) [.pointer (some ⟨pb,0,none⟩),.slice A7 0 c7] rfl q3 _ (HOF.out A7 0 c7 kb q3 HQ3.out HKB0.out (by omega) HS7.out) (by kernel_rfl) rfl (by kernel_rfl) ?_
       rintro e q4 ⟨A8,c8,rfl,ho8,hb⟩;refine⟨_,rfl,hb,?_⟩;have HQ4:=Lib.hid (HQ3.out.trans (hb.mono HQ3.out.size));have HO8:=Lib.hid (own_below HO7.out hb (Nat.le_refl _));have HS8:=Lib.hid (Sl.of_own ho8);clear ho8;clear hb;intro A' hA';simp only[Act.put,List.setIfInBounds_toArray,List.set_cons_succ,List.set_cons_zero]at hA';subst hA'
       refine Stg.readW (by kernel_rfl) (by kernel_rfl) (by kernel_rfl) ?_;intro K hK;go_big_quiet_op;go_big_quiet_on
       refine Stg.readW (by kernel_rfl) (by kernel_rfl) (by kernel_rfl) ?_;intro K hK;go_big_quiet_op;go_big_quiet_on
       refine Stg.nil q4 rfl ?_
       have HU0:=Lib.hid HQ4.out.drew
       have HO8':=Lib.hid (own_below HO8.out (Below.refl _ _).drew (Nat.le_refl _))
       have HS8':=Lib.hid (HS8.out.below (Below.refl _ _).drew (Nat.le_refl _))
       have HLM:Hid (((Or.of f kb).map (Value.int .i32)).length=0*1):=Lib.hid (by rw[List.length_map,Or.of_len,HKB0.out] <;> omega)
       have H1C:Hid (∀u∈(Or.of f kb).map (Value.int .i32),u.oneCell'=true):=Lib.hid (oneCells .i32 _)
       go_upto_region 12 with (fail)
       rcases ia with _|_
       · refine Stg.wp_region (Stg.Keep fun b=>b<w3.heap.size) (Stg.Keep.rel _) (by kernel_rfl) (by kernel_rfl) (by kernel_rfl) ?_
         refine Stg.readW (by kernel_rfl) (by kernel_rfl) (by kernel_rfl) ?_;intro K hK;go_big_quiet_op;go_big_quiet_on
         refine Stg.readW (by kernel_rfl) (by kernel_rfl) (by kernel_rfl) ?_;intro K hK;go_big_quiet_op;go_big_quiet_on
         refine Stg.stepW q4.drew (by kernel_rfl) (by kernel_rfl) rfl (by kernel_rfl) ?_;intro K hK
         refine wp_appendSl q4.drew _ _ _ rfl w3.heap.size 21 i0 _ 1 4 Tryz.underlying25 hi0 iz0 iz1 iz2 rfl (by omega) _ ln _ rfl HO8'.out _ A8 0 c8 ((Or.of f kb).map (Value.int .i32)) rfl HLM.out HS8'.out H1C.out (by simp only[maxLen];omega) (by omega) HU0.out.size ?_
         intro v9 u1 hown hb hg
         have HU1:=Lib.hid (HU0.out.trans hb)
         refine hK _ _ (Stg.Keep.of_below hb (fun q hq=>hq)) ?_
         rw[←List.map_append]at hown
         obtain⟨A9,c9,rfl⟩:=own_form hown
         have HO9:=Lib.hid (Sl.of_own hown)
         clear hown hb hg
         intro A' hA';simp only[Act.put,List.setIfInBounds_toArray,List.set_cons_succ,List.set_cons_zero]at hA';subst hA'
         obtain⟨f0,f1⟩:=HCK.out q4.drew HU0.out
         refine Stg.read 1 (by kernel_rfl) (by kernel_rfl) (by kernel_rfl) q4.drew rfl (by kernel_rfl) ?_;intro K hK;go_big_quiet_op;go_big_quiet_on
         refine Stg.readW (by kernel_rfl) (by kernel_rfl) (by kernel_rfl) ?_;intro K hK;go_big_quiet_op;go_big_quiet_on
         refine Stg.call 32 _ _ rfl (C.enter Tryz.func32 (by kernel_rfl) rfl) [.agg #[.slice A2 n2 c2,.slice XA2 xn2 xc2],.slice (some ⟨gb,0,none⟩) ln ln] rfl u1 _ (HROF.out u1 HU1.out) (by kernel_rfl) rfl (by kernel_rfl) ?_
         rintro e u2 ⟨A10,c10,rfl,hs10,hb⟩;refine⟨_,rfl,(Stg.Keep.of_below hb (fun q hq=>Nat.lt_of_lt_of_le hq HU1.out.size)),?_⟩;have HU2:=Lib.hid (HU1.out.trans (hb.mono HU1.out.size));have HS10:=Lib.hid hs10;have HO10:=Lib.hid (HO9.out.below hb hb.size);clear hs10;clear hb;intro A' hA';simp only[Act.put,List.setIfInBounds_toArray,List.set_cons_succ,List.set_cons_zero]at hA';subst hA'
         refine Stg.call 34 _ _ rfl (C.enter Tryz.func34 (by kernel_rfl) rfl) [.slice A9 (ln+0) c9,.slice A10 ln c10] rfl u2 _ (HSM.out A9 A10 (ln+0) c9 c10 _ u2 (by omega) HOFC.out.symm HO10.out HS10.out) (by kernel_rfl) rfl (by kernel_rfl) ?_
         rintro e u3 ⟨rfl,hb⟩;refine⟨_,rfl,(Stg.Keep.of_below hb (fun q hq=>Nat.lt_of_lt_of_le hq HU2.out.size)),?_⟩;have HU3:=Lib.hid (HU2.out.trans (hb.mono HU2.out.size));clear hb;intro A' hA';simp only[Act.put,List.setIfInBounds_toArray,List.set_cons_succ,List.set_cons_zero]at hA';subst hA'
         refine Stg.readW (by kernel_rfl) (by kernel_rfl) (by kernel_rfl) ?_;intro K hK;go_big_quiet_op;go_big_quiet_on
         refine Stg.readW (by kernel_rfl) (by kernel_rfl) (by kernel_rfl) ?_;intro K hK;go_big_quiet_op;go_big_quiet_on
         refine Stg.readW (by kernel_rfl) (by kernel_rfl) (by kernel_rfl) ?_;intro K hK;go_big_quiet_op;go_big_quiet_on
         refine Stg.call 31 _ _ rfl (C.enter Tryz.func31 (by kernel_rfl) rfl) [.slice (some ⟨gb,0,none⟩) ln ln] rfl u3 _ (HRU.out (some ⟨gb,0,none⟩) ln ln l u3 HU3.out HLN.out (by omega) (fun _ h=>h) (HSL.out u3 HU3.out)) (by kernel_rfl) rfl (by kernel_rfl) ?_
         rintro e u4 ⟨A11,c11,rfl,hs11,hb⟩;refine⟨_,rfl,(Stg.Keep.of_below hb (fun q hq=>Nat.lt_of_lt_of_le hq HU3.out.size)),?_⟩;have HU4:=Lib.hid (HU3.out.trans (hb.mono HU3.out.size));have HS11:=Lib.hid hs11;clear hs11;clear hb;intro A' hA';simp only[Act.put,List.setIfInBounds_toArray,List.set_cons_succ,List.set_cons_zero]at hA';subst hA'
         refine Stg.call 35 _ _ rfl (C.enter Tryz.func35 (by kernel_rfl) rfl) [.pointer (some ⟨pb,0,none⟩),.slice A11 ln c11] rfl u4 _ (HIN.out A11 ln c11 l u4 false HU4.out HLN.out (by omega) HIN0.out HS11.out) (by kernel_rfl) rfl (by kernel_rfl) ?_
         rintro e u5 ⟨rfl,hb⟩;refine⟨_,rfl,(Stg.Keep.of_below hb (fun q hq=>Nat.lt_of_lt_of_le hq HU4.out.size)),?_⟩;have HU5:=Lib.hid (HU4.out.trans (hb.mono HU4.out.size));clear hb;intro A' hA';simp only[Act.put,List.setIfInBounds_toArray,List.set_cons_succ,List.set_cons_zero]at hA';subst hA'
         refine Stg.readW (by kernel_rfl) (by kernel_rfl) (by kernel_rfl) ?_;intro K hK;go_big_quiet_op;go_big_quiet_on
         refine Stg.readW (by kernel_rfl) (by kernel_rfl) (by kernel_rfl) ?_;intro K hK;go_big_quiet_op;go_big_quiet_on
         refine Stg.readW (by kernel_rfl) (by kernel_rfl) (by kernel_rfl) ?_;intro K hK;go_big_quiet_op;go_big_quiet_on
         refine Stg.readW (by kernel_rfl) (by kernel_rfl) (by kernel_rfl) ?_;intro K hK;go_big_quiet_op;go_big_quiet_on
         refine Stg.call 31 _ _ rfl (C.enter Tryz.func31 (by kernel_rfl) rfl) [.slice (some ⟨gb,0,none⟩) ln ln] rfl u5 _ (HRU.out (some ⟨gb,0,none⟩) ln ln ka u5 HU5.out HKA.out (by omega) HKAM.out (HSA.out u5 HU5.out)) (by kernel_rfl) rfl (by kernel_rfl) ?_
         rintro e u6 ⟨A12,c12,rfl,hs12,hb⟩;refine⟨_,rfl,(Stg.Keep.of_below hb (fun q hq=>Nat.lt_of_lt_of_le hq HU5.out.size)),?_⟩;have HU6:=Lib.hid (HU5.out.trans (hb.mono HU5.out.size));have HS12:=Lib.hid hs12;clear hs12;clear hb;intro A' hA';simp only[Act.put,List.setIfInBounds_toArray,List.set_cons_succ,List.set_cons_zero]at hA';subst hA'
         refine Stg.call 35 _ _ rfl (C.enter Tryz.func35 (by kernel_rfl) rfl) [.pointer (some ⟨pb,0,none⟩),.slice A12 ln c12] rfl u6 _ (HIN.out A12 ln c12 ka u6 false HU6.out HKA.out (by omega) HIA.out HS12.out) (by kernel_rfl) rfl (by kernel_rfl) ?_
         rintro e u7 ⟨rfl,hb⟩;refine⟨_,rfl,(Stg.Keep.of_below hb (fun q hq=>Nat.lt_of_lt_of_le hq HU6.out.size)),?_⟩;have HU7:=Lib.hid (HU6.out.trans (hb.mono HU6.out.size));clear hb;intro A' hA';simp only[Act.put,List.setIfInBounds_toArray,List.set_cons_succ,List.set_cons_zero]at hA';subst hA'
         refine Stg.readW (by kernel_rfl) (by kernel_rfl) (by kernel_rfl) ?_;intro K hK;go_big_quiet_op;go_big_quiet_on
         refine Stg.skip (by kernel_rfl) (by kernel_rfl) ?_;intro A' hA';simp only[Act.put,List.setIfInBounds_toArray,List.set_cons_succ,List.set_cons_zero]at hA';subst hA'
         refine Stg.skip (by kernel_rfl) (by kernel_rfl) ?_;intro A' hA';simp only[Act.put,List.setIfInBounds_toArray,List.set_cons_succ,List.set_cons_zero]at hA';subst hA'
         refine Stg.skip (by kernel_rfl) (by kernel_rfl) ?_;intro A' hA';simp only[Act.put,List.setIfInBounds_toArray,List.set_cons_succ,List.set_cons_zero]at hA';subst hA'
         refine Stg.skip (by kernel_rfl) (by kernel_rfl) ?_;intro A' hA';simp only[Act.put,List.setIfInBounds_toArray,List.set_cons_succ,List.set_cons_zero]at hA';subst hA'
         refine Stg.skipStep _ (by kernel_rfl) rfl (by kernel_rfl) ?_;intro A' hA';simp only[Act.put,List.setIfInBounds_toArray,List.set_cons_succ,List.set_cons_zero]at hA';subst hA'
         refine Stg.skipStep _ (by kernel_rfl) rfl (by kernel_rfl) ?_;intro A' hA';simp only[Act.put,List.setIfInBounds_toArray,List.set_cons_succ,List.set_cons_zero]at hA';subst hA'
         refine Stg.readW (by kernel_rfl) (by kernel_rfl) (by kernel_rfl) ?_;intro K hK;go_big_quiet_op;go_big_quiet_on
         refine Stg.readW (by kernel_rfl) (by kernel_rfl) (by kernel_rfl) ?_;intro K hK;go_big_quiet_op;go_big_quiet_on
         refine Stg.readW (by kernel_rfl) (by kernel_rfl) (by kernel_rfl) ?_;intro K hK;go_big_quiet_op;go_big_quiet_on
         refine Stg.readW (by kernel_rfl) (by kernel_rfl) (by kernel_rfl) ?_;intro K hK;go_big_quiet_op;go_big_quiet_on
         clear f0 f1
         refine Stg.nil u7 rfl ?_
         have HBF:=Lib.hid (HFIN.trans (HU7.out.mono HFIN.size))
         go_wp2_with fail
         go_ret
         exact⟨by first|rfl|simp,HBF.out⟩
       · have hsb':(ib == ib)=true:=hsb.out
         refine Stg.wp_region (Stg.Keep fun b=>b<w3.heap.size) (Stg.Keep.rel _) (by kernel_rfl) (by kernel_rfl) (by kernel_rfl) ?_
         refine Stg.readW (by kernel_rfl) (by kernel_rfl) (by kernel_rfl) ?_;intro K hK;go_big_quiet_op;go_big_quiet_on
         refine Stg.readW (by kernel_rfl) (by kernel_rfl) (by kernel_rfl) ?_;intro K hK;go_big_quiet_op;go_big_quiet_on
         refine Stg.stepW q4.drew (by kernel_rfl) (by kernel_rfl) rfl (by kernel_rfl) ?_;intro K hK
         refine wp_appendSl q4.drew _ _ _ rfl w3.heap.size 21 i0 _ 1 4 Tryz.underlying25 hi0 iz0 iz1 iz2 rfl (by omega) _ ln _ rfl HO8'.out _ A8 0 c8 ((Or.of f kb).map (Value.int .i32)) rfl HLM.out HS8'.out H1C.out (by simp only[maxLen];omega) (by omega) HU0.out.size ?_
         intro v9 u1 hown hb hg
         have HU1:=Lib.hid (HU0.out.trans hb)
         refine hK _ _ (Stg.Keep.of_below hb (fun q hq=>hq)) ?_
         rw[←List.map_append]at hown
         obtain⟨A9,c9,rfl⟩:=own_form hown
         have HO9:=Lib.hid (Sl.of_own hown)
         clear hown hb hg
         intro A' hA';simp only[Act.put,List.setIfInBounds_toArray,List.set_cons_succ,List.set_cons_zero]at hA';subst hA'
         obtain⟨f0,f1⟩:=HCK.out q4.drew HU0.out
         refine Stg.read 1 (by kernel_rfl) (by kernel_rfl) (by kernel_rfl) q4.drew rfl (by kernel_rfl) ?_;intro K hK;go_big_quiet_op;go_big_quiet_on
         refine Stg.readW (by kernel_rfl) (by kernel_rfl) (by kernel_rfl) ?_;intro K hK;go_big_quiet_op;go_big_quiet_on
         refine Stg.call 32 _ _ rfl (C.enter Tryz.func32 (by kernel_rfl) rfl) [.agg #[.slice A2 n2 c2,.slice XA2 xn2 xc2],.slice (some ⟨gb,0,none⟩) ln ln] rfl u1 _ (HROF.out u1 HU1.out) (by kernel_rfl) rfl (by kernel_rfl) ?_
         rintro e u2 ⟨A10,c10,rfl,hs10,hb⟩;refine⟨_,rfl,(Stg.Keep.of_below hb (fun q hq=>Nat.lt_of_lt_of_le hq HU1.out.size)),?_⟩;have HU2:=Lib.hid (HU1.out.trans (hb.mono HU1.out.size));have HS10:=Lib.hid hs10;have HO10:=Lib.hid (HO9.out.below hb hb.size);clear hs10;clear hb;intro A' hA';simp only[Act.put,List.setIfInBounds_toArray,List.set_cons_succ,List.set_cons_zero]at hA';subst hA'
         refine Stg.call 34 _ _ rfl (C.enter Tryz.func34 (by kernel_rfl) rfl) [.slice A9 (ln+0) c9,.slice A10 ln c10] rfl u2 _ (HSM.out A9 A10 (ln+0) c9 c10 _ u2 (by omega) HOFC.out.symm HO10.out HS10.out) (by kernel_rfl) rfl (by kernel_rfl) ?_
         rintro e u3 ⟨rfl,hb⟩;refine⟨_,rfl,(Stg.Keep.of_below hb (fun q hq=>Nat.lt_of_lt_of_le hq HU2.out.size)),?_⟩;have HU3:=Lib.hid (HU2.out.trans (hb.mono HU2.out.size));clear hb;intro A' hA';simp only[Act.put,List.setIfInBounds_toArray,List.set_cons_succ,List.set_cons_zero]at hA';subst hA'
         refine Stg.readW (by kernel_rfl) (by kernel_rfl) (by kernel_rfl) ?_;intro K hK;go_big_quiet_op;go_big_quiet_on
         refine Stg.readW (by kernel_rfl) (by kernel_rfl) (by kernel_rfl) ?_;intro K hK;go_big_quiet_op;go_big_quiet_on
         refine Stg.readW (by kernel_rfl) (by kernel_rfl) (by kernel_rfl) ?_;intro K hK;go_big_quiet_op;go_big_quiet_on
         refine Stg.call 31 _ _ rfl (C.enter Tryz.func31 (by kernel_rfl) rfl) [.slice (some ⟨gb,0,none⟩) ln ln] rfl u3 _ (HRU.out (some ⟨gb,0,none⟩) ln ln l u3 HU3.out HLN.out (by omega) (fun _ h=>h) (HSL.out u3 HU3.out)) (by kernel_rfl) rfl (by kernel_rfl) ?_
         rintro e u4 ⟨A11,c11,rfl,hs11,hb⟩;refine⟨_,rfl,(Stg.Keep.of_below hb (fun q hq=>Nat.lt_of_lt_of_le hq HU3.out.size)),?_⟩;have HU4:=Lib.hid (HU3.out.trans (hb.mono HU3.out.size));have HS11:=Lib.hid hs11;clear hs11;clear hb;intro A' hA';simp only[Act.put,List.setIfInBounds_toArray,List.set_cons_succ,List.set_cons_zero]at hA';subst hA'
         refine Stg.call 35 _ _ rfl (C.enter Tryz.func35 (by kernel_rfl) rfl) [.pointer (some ⟨pb,0,none⟩),.slice A11 ln c11] rfl u4 _ (HIN.out A11 ln c11 l u4 ib HU4.out HLN.out (by omega) HIN0.out HS11.out) (by kernel_rfl) rfl (by kernel_rfl) ?_
         rintro e u5 ⟨rfl,hb⟩;refine⟨_,rfl,(Stg.Keep.of_below hb (fun q hq=>Nat.lt_of_lt_of_le hq HU4.out.size)),?_⟩;have HU5:=Lib.hid (HU4.out.trans (hb.mono HU4.out.size));clear hb;intro A' hA';simp only[Act.put,List.setIfInBounds_toArray,List.set_cons_succ,List.set_cons_zero]at hA';subst hA'
         refine Stg.readW (by kernel_rfl) (by kernel_rfl) (by kernel_rfl) ?_;intro K hK;go_big_quiet_op;go_big_quiet_on
         refine Stg.readW (by kernel_rfl) (by kernel_rfl) (by kernel_rfl) ?_;intro K hK;go_big_quiet_op;go_big_quiet_on
         refine Stg.readW (by kernel_rfl) (by kernel_rfl) (by kernel_rfl) ?_;intro K hK;go_big_quiet_op;go_big_quiet_on
         refine Stg.readW (by kernel_rfl) (by kernel_rfl) (by kernel_rfl) ?_;intro K hK;go_big_quiet_op;go_big_quiet_on
         refine Stg.call 31 _ _ rfl (C.enter Tryz.func31 (by kernel_rfl) rfl) [.slice (some ⟨gb,0,none⟩) ln ln] rfl u5 _ (HRU.out (some ⟨gb,0,none⟩) ln ln ka u5 HU5.out HKA.out (by omega) HKAM.out (HSA.out u5 HU5.out)) (by kernel_rfl) rfl (by kernel_rfl) ?_
         rintro e u6 ⟨A12,c12,rfl,hs12,hb⟩;refine⟨_,rfl,(Stg.Keep.of_below hb (fun q hq=>Nat.lt_of_lt_of_le hq HU5.out.size)),?_⟩;have HU6:=Lib.hid (HU5.out.trans (hb.mono HU5.out.size));have HS12:=Lib.hid hs12;clear hs12;clear hb;intro A' hA';simp only[Act.put,List.setIfInBounds_toArray,List.set_cons_succ,List.set_cons_zero]at hA';subst hA'
         refine Stg.call 35 _ _ rfl (C.enter Tryz.func35 (by kernel_rfl) rfl) [.pointer (some ⟨pb,0,none⟩),.slice A12 ln c12] rfl u6 _ (HIN.out A12 ln c12 ka u6 true HU6.out HKA.out (by omega) HIA.out HS12.out) (by kernel_rfl) rfl (by kernel_rfl) ?_
         rintro e u7 ⟨rfl,hb⟩;refine⟨_,rfl,(Stg.Keep.of_below hb (fun q hq=>Nat.lt_of_lt_of_le hq HU6.out.size)),?_⟩;have HU7:=Lib.hid (HU6.out.trans (hb.mono HU6.out.size));clear hb;intro A' hA';simp only[Act.put,List.setIfInBounds_toArray,List.set_cons_succ,List.set_cons_zero]at hA';subst hA'
         refine Stg.readW (by kernel_rfl) (by kernel_rfl) (by kernel_rfl) ?_;intro K hK;go_big_quiet_op;go_big_quiet_on
         refine Stg.readW (by kernel_rfl) (by kernel_rfl) (by kernel_rfl) ?_;intro K hK;go_big_quiet_op;go_big_quiet_on
         refine Stg.readW (by kernel_rfl) (by kernel_rfl) (by kernel_rfl) ?_;intro K hK;go_big_quiet_op;go_big_quiet_on
         refine Stg.readW (by kernel_rfl) (by kernel_rfl) (by kernel_rfl) ?_;intro K hK;go_big_quiet_op;go_big_quiet_on
         refine Stg.readW (by kernel_rfl) (by kernel_rfl) (by kernel_rfl) ?_;intro K hK;go_big_quiet_op;go_big_quiet_on
         refine Stg.call 31 _ _ rfl (C.enter Tryz.func31 (by kernel_rfl) rfl) [.slice (some ⟨gb,0,none⟩) 0 0] rfl u7 _ (HRU.out (some ⟨gb,0,none⟩) 0 0 kb u7 HU7.out HKB0.out (by omega) HKBM.out (HSB'.out u7 HU7.out)) (by kernel_rfl) rfl (by kernel_rfl) ?_
         rintro e u8 ⟨A13,c13,rfl,hs13,hb⟩;refine⟨_,rfl,(Stg.Keep.of_below hb (fun q hq=>Nat.lt_of_lt_of_le hq HU7.out.size)),?_⟩;have HU8:=Lib.hid (HU7.out.trans (hb.mono HU7.out.size));have HS13:=Lib.hid hs13;clear hs13;clear hb;intro A' hA';simp only[Act.put,List.setIfInBounds_toArray,List.set_cons_succ,List.set_cons_zero]at hA';subst hA'
         refine Stg.call 35 _ _ rfl (C.enter Tryz.func35 (by kernel_rfl) rfl) [.pointer (some ⟨pb,0,none⟩),.slice A13 0 c13] rfl u8 _ (HIN.out A13 0 c13 kb u8 ib HU8.out HKB0.out (by omega) HIB.out HS13.out) (by kernel_rfl) rfl (by kernel_rfl) ?_
         rintro e u9 ⟨rfl,hb⟩;refine⟨_,rfl,(Stg.Keep.of_below hb (fun q hq=>Nat.lt_of_lt_of_le hq HU8.out.size)),?_⟩;have HU9:=Lib.hid (HU8.out.trans (hb.mono HU8.out.size));clear hb;intro A' hA';simp only[Act.put,List.setIfInBounds_toArray,List.set_cons_succ,List.set_cons_zero]at hA';subst hA'
         refine Stg.readW (by kernel_rfl) (by kernel_rfl) (by kernel_rfl) ?_;intro K hK;go_big_quiet_op;go_big_quiet_on
         refine Stg.readW (by kernel_rfl) (by kernel_rfl) (by kernel_rfl) ?_;intro K hK;go_big_quiet_op;go_big_quiet_on
         refine Stg.readW (by kernel_rfl) (by kernel_rfl) (by kernel_rfl) ?_;intro K hK;go_big_quiet_op;go_big_quiet_on
         refine Stg.readW (by kernel_rfl) (by kernel_rfl) (by kernel_rfl) ?_;intro K hK;go_big_quiet_op;go_big_quiet_on
         clear f0 f1
         refine Stg.nil u9 rfl ?_
         have HBF:=Lib.hid (HFIN.trans (HU9.out.mono HFIN.size))
         go_wp2_with fail
         go_ret
         exact⟨by first|rfl|simp,HBF.out⟩
      case inl =>
       have kc:(k:Int)≤cl:=by omega
       have kl:(k:Int)≤ln:=by omega
       have kne:¬cl=k:=by omega
       have HKB0:=Lib.hid HKB.out
       have HSB':=HSB
       have HQ0:=Lib.hid HBC.out.drew
       go_upto_region 11 with (fail)
       refine Stg.wp_region Stg.Ex Stg.Ex.rel (by kernel_rfl) (by kernel_rfl) (by kernel_rfl) ?_
       refine Stg.readW (by kernel_rfl) (by kernel_rfl) (by kernel_rfl) ?_;intro K hK;go_big_quiet_op;go_big_quiet_on
       refine Stg.readW (by kernel_rfl) (by kernel_rfl) (by kernel_rfl) ?_;intro K hK;go_big_quiet_op;go_big_quiet_on
       refine Stg.readW (by kernel_rfl) (by kernel_rfl) (by kernel_rfl) ?_;intro K hK;go_big_quiet_op;go_big_quiet_on
       refine Stg.readW (by kernel_rfl) (by kernel_rfl) (by kernel_rfl) ?_;intro K hK;go_big_quiet_op;go_big_quiet_on
       refine Stg.call 31 _ _ rfl (C.enter Tryz.func31 (by kernel_rfl) rfl) [.slice (some ⟨gb,0,none⟩) k cl] rfl w4.drew _ (HRU.out (some ⟨gb,0,none⟩) k cl ka w4.drew HQ0.out HKA.out (by omega) HKAM.out (HSA.out w4.drew HQ0.out)) (by kernel_rfl) rfl (by kernel_rfl) ?_
       rintro e q1 ⟨A5,c5,rfl,hs5,hb⟩;refine⟨_,rfl,hb,?_⟩;have HQ1:=Lib.hid (HQ0.out.trans (hb.mono HQ0.out.size));have HS5:=Lib.hid hs5;clear hs5;clear hb;intro A' hA';simp only[Act.put,List.setIfInBounds_toArray,List.set_cons_succ,List.set_cons_zero]at hA';subst hA'
       refine Stg.call 33 _ _ rfl (C.enter Tryz.func33 (by kernel_rfl) rfl) [.pointer (some ⟨pb,0,none⟩),.slice A5 k c5] rfl q1 _ (HOF.out A5 k c5 ka q1 HQ1.out HKA.out (by omega) HS5.out) (by kernel_rfl) rfl (by kernel_rfl) ?_
       rintro e q2 ⟨A6,c6,rfl,ho6,hb⟩;refine⟨_,rfl,hb,?_⟩;have HQ2:=Lib.hid (HQ1.out.trans (hb.mono HQ1.out.size));have HO6:=Lib.hid (own_mono ho6 HQ1.out.size);clear ho6;clear hb;intro A' hA';simp only[Act.put,List.setIfInBounds_toArray,List.set_cons_succ,List.set_cons_zero]at hA';subst hA'
       refine Stg.readW (by kernel_rfl) (by kernel_rfl) (by kernel_rfl) ?_;intro K hK;go_big_quiet_op;go_big_quiet_on
       refine Stg.readW (by kernel_rfl) (by kernel_rfl) (by kernel_rfl) ?_;intro K hK;go_big_quiet_op;go_big_quiet_on
       refine Stg.readW (by kernel_rfl) (by kernel_rfl) (by kernel_rfl) ?_;intro K hK;go_big_quiet_op;go_big_quiet_on
       refine Stg.readW (by kernel_rfl) (by kernel_rfl) (by kernel_rfl) ?_;intro K hK;go_big_quiet_op;go_big_quiet_on
       refine Stg.call 31 _ _ rfl (C.enter Tryz.func31 (by kernel_rfl) rfl) [.slice (some ⟨gb,k,none⟩) (ln-k) (cl-k)] rfl q2 _ (HRU.out (some ⟨gb,k,none⟩) (ln-k) (cl-k) kb q2 HQ2.out HKB0.out (by omega) HKBM.out (HSB'.out q2 HQ2.out)) (by kernel_rfl) rfl (by kernel_rfl) ?_
       rintro e q3 ⟨A7,c7,rfl,hs7,hb⟩;refine⟨_,rfl,hb,?_⟩;have HQ3:=Lib.hid (HQ2.out.trans (hb.mono HQ2.out.size));have HO7:=Lib.hid (own_below HO6.out hb (Nat.le_refl _));have HS7:=Lib.hid hs7;clear hs7;clear hb;intro A' hA';simp only[Act.put,List.setIfInBounds_toArray,List.set_cons_succ,List.set_cons_zero]at hA';subst hA'
       refine Stg.call 33 _ _ rfl (C.enter Tryz.func33 (by kernel_rfl) rfl) [.pointer (some ⟨pb,0,none⟩),.slice A7 (ln-k) c7] rfl q3 _ (HOF.out A7 (ln-k) c7 kb q3 HQ3.out HKB0.out (by omega) HS7.out) (by kernel_rfl) rfl (by kernel_rfl) ?_
       rintro e q4 ⟨A8,c8,rfl,ho8,hb⟩;refine⟨_,rfl,hb,?_⟩;have HQ4:=Lib.hid (HQ3.out.trans (hb.mono HQ3.out.size));have HO8:=Lib.hid (own_below HO7.out hb (Nat.le_refl _));have HS8:=Lib.hid (Sl.of_own ho8);clear ho8;clear hb;intro A' hA';simp only[Act.put,List.setIfInBounds_toArray,List.set_cons_succ,List.set_cons_zero]at hA';subst hA'
       refine Stg.readW (by kernel_rfl) (by kernel_rfl) (by kernel_rfl) ?_;intro K hK;go_big_quiet_op;go_big_quiet_on
       refine Stg.readW (by kernel_rfl) (by kernel_rfl) (by kernel_rfl) ?_;intro K hK;go_big_quiet_op;go_big_quiet_on
       refine Stg.nil q4 rfl ?_
       have HU0:=Lib.hid HQ4.out.drew
       have HO8':=Lib.hid (own_below HO8.out (Below.refl _ _).drew (Nat.le_refl _))
       have HS8':=Lib.hid (HS8.out.below (Below.refl _ _).drew (Nat.le_refl _))
       have HLM:Hid (((Or.of f kb).map (Value.int .i32)).length=(ln-k)*1):=Lib.hid (by rw[List.length_map,Or.of_len,HKB0.out] <;> omega)
       have H1C:Hid (∀u∈(Or.of f kb).map (Value.int .i32),u.oneCell'=true):=Lib.hid (oneCells .i32 _)
       go_upto_region 12 with (fail)
       rcases ia with _|_
       · refine Stg.wp_region (Stg.Keep fun b=>b<w3.heap.size) (Stg.Keep.rel _) (by kernel_rfl) (by kernel_rfl) (by kernel_rfl) ?_
         refine Stg.readW (by kernel_rfl) (by kernel_rfl) (by kernel_rfl) ?_;intro K hK;go_big_quiet_op;go_big_quiet_on
         refine Stg.readW (by kernel_rfl) (by kernel_rfl) (by kernel_rfl) ?_;intro K hK;go_big_quiet_op;go_big_quiet_on
         refine Stg.stepW q4.drew (by kernel_rfl) (by kernel_rfl) rfl (by kernel_rfl) ?_;intro K hK
         refine wp_appendSl q4.drew _ _ _ rfl w3.heap.size 21 i0 _ 1 4 Tryz.underlying25 hi0 iz0 iz1 iz2 rfl (by omega) _ k _ rfl HO8'.out _ A8 (ln-k) c8 ((Or.of f kb).map (Value.int .i32)) rfl HLM.out HS8'.out H1C.out (by simp only[maxLen];omega) (by omega) HU0.out.size ?_
         intro v9 u1 hown hb hg
         have HU1:=Lib.hid (HU0.out.trans hb)
         refine hK _ _ (Stg.Keep.of_below hb (fun q hq=>hq)) ?_
         rw[←List.map_append]at hown
         obtain⟨A9,c9,rfl⟩:=own_form hown
         have HO9:=Lib.hid (Sl.of_own hown)
         clear hown hb hg
         intro A' hA';simp only[Act.put,List.setIfInBounds_toArray,List.set_cons_succ,List.set_cons_zero]at hA';subst hA'
         obtain⟨f0,f1⟩:=HCK.out q4.drew HU0.out
         refine Stg.read 1 (by kernel_rfl) (by kernel_rfl) (by kernel_rfl) q4.drew rfl (by kernel_rfl) ?_;intro K hK;go_big_quiet_op;go_big_quiet_on
         refine Stg.readW (by kernel_rfl) (by kernel_rfl) (by kernel_rfl) ?_;intro K hK;go_big_quiet_op;go_big_quiet_on
         refine Stg.call 32 _ _ rfl (C.enter Tryz.func32 (by kernel_rfl) rfl) [.agg #[.slice A2 n2 c2,.slice XA2 xn2 xc2],.slice (some ⟨gb,0,none⟩) ln cl] rfl u1 _ (HROF.out u1 HU1.out) (by kernel_rfl) rfl (by kernel_rfl) ?_
         rintro e u2 ⟨A10,c10,rfl,hs10,hb⟩;refine⟨_,rfl,(Stg.Keep.of_below hb (fun q hq=>Nat.lt_of_lt_of_le hq HU1.out.size)),?_⟩;have HU2:=Lib.hid (HU1.out.trans (hb.mono HU1.out.size));have HS10:=Lib.hid hs10;have HO10:=Lib.hid (HO9.out.below hb hb.size);clear hs10;clear hb;intro A' hA';simp only[Act.put,List.setIfInBounds_toArray,List.set_cons_succ,List.set_cons_zero]at hA';subst hA'
         refine Stg.call 34 _ _ rfl (C.enter Tryz.func34 (by kernel_rfl) rfl) [.slice A9 (k+(ln-k)) c9,.slice A10 ln c10] rfl u2 _ (HSM.out A9 A10 (k+(ln-k)) c9 c10 _ u2 (by omega) HOFC.out.symm HO10.out HS10.out) (by kernel_rfl) rfl (by kernel_rfl) ?_
         rintro e u3 ⟨rfl,hb⟩;refine⟨_,rfl,(Stg.Keep.of_below hb (fun q hq=>Nat.lt_of_lt_of_le hq HU2.out.size)),?_⟩;have HU3:=Lib.hid (HU2.out.trans (hb.mono HU2.out.size));clear hb;intro A' hA';simp only[Act.put,List.setIfInBounds_toArray,List.set_cons_succ,List.set_cons_zero]at hA';subst hA'
         refine Stg.readW (by kernel_rfl) (by kernel_rfl) (by kernel_rfl) ?_;intro K hK;go_big_quiet_op;go_big_quiet_on
         refine Stg.readW (by kernel_rfl) (by kernel_rfl) (by kernel_rfl) ?_;intro K hK;go_big_quiet_op;go_big_quiet_on
         refine Stg.readW (by kernel_rfl) (by kernel_rfl) (by kernel_rfl) ?_;intro K hK;go_big_quiet_op;go_big_quiet_on
         refine Stg.call 31 _ _ rfl (C.enter Tryz.func31 (by kernel_rfl) rfl) [.slice (some ⟨gb,0,none⟩) ln cl] rfl u3 _ (HRU.out (some ⟨gb,0,none⟩) ln cl l u3 HU3.out HLN.out (by omega) (fun _ h=>h) (HSL.out u3 HU3.out)) (by kernel_rfl) rfl (by kernel_rfl) ?_
         rintro e u4 ⟨A11,c11,rfl,hs11,hb⟩;refine⟨_,rfl,(Stg.Keep.of_below hb (fun q hq=>Nat.lt_of_lt_of_le hq HU3.out.size)),?_⟩;have HU4:=Lib.hid (HU3.out.trans (hb.mono HU3.out.size));have HS11:=Lib.hid hs11;clear hs11;clear hb;intro A' hA';simp only[Act.put,List.setIfInBounds_toArray,List.set_cons_succ,List.set_cons_zero]at hA';subst hA'
         refine Stg.call 35 _ _ rfl (C.enter Tryz.func35 (by kernel_rfl) rfl) [.pointer (some ⟨pb,0,none⟩),.slice A11 ln c11] rfl u4 _ (HIN.out A11 ln c11 l u4 false HU4.out HLN.out (by omega) HIN0.out HS11.out) (by kernel_rfl) rfl (by kernel_rfl) ?_
         rintro e u5 ⟨rfl,hb⟩;refine⟨_,rfl,(Stg.Keep.of_below hb (fun q hq=>Nat.lt_of_lt_of_le hq HU4.out.size)),?_⟩;have HU5:=Lib.hid (HU4.out.trans (hb.mono HU4.out.size));clear hb;intro A' hA';simp only[Act.put,List.setIfInBounds_toArray,List.set_cons_succ,List.set_cons_zero]at hA';subst hA'
         refine Stg.readW (by kernel_rfl) (by kernel_rfl) (by kernel_rfl) ?_;intro K hK;go_big_quiet_op;go_big_quiet_on
         refine Stg.readW (by kernel_rfl) (by kernel_rfl) (by kernel_rfl) ?_;intro K hK;go_big_quiet_op;go_big_quiet_on
         refine Stg.readW (by kernel_rfl) (by kernel_rfl) (by kernel_rfl) ?_;intro K hK;go_big_quiet_op;go_big_quiet_on
         refine Stg.readW (by kernel_rfl) (by kernel_rfl) (by kernel_rfl) ?_;intro K hK;go_big_quiet_op;go_big_quiet_on
         refine Stg.call 31 _ _ rfl (C.enter Tryz.func31 (by kernel_rfl) rfl) [.slice (some ⟨gb,0,none⟩) k cl] rfl u5 _ (HRU.out (some ⟨gb,0,none⟩) k cl ka u5 HU5.out HKA.out (by omega) HKAM.out (HSA.out u5 HU5.out)) (by kernel_rfl) rfl (by kernel_rfl) ?_
         rintro e u6 ⟨A12,c12,rfl,hs12,hb⟩;refine⟨_,rfl,(Stg.Keep.of_below hb (fun q hq=>Nat.lt_of_lt_of_le hq HU5.out.size)),?_⟩;have HU6:=Lib.hid (HU5.out.trans (hb.mono HU5.out.size));have HS12:=Lib.hid hs12;clear hs12;clear hb;intro A' hA';simp only[Act.put,List.setIfInBounds_toArray,List.set_cons_succ,List.set_cons_zero]at hA';subst hA'
         refine Stg.call 35 _ _ rfl (C.enter Tryz.func35 (by kernel_rfl) rfl) [.pointer (some ⟨pb,0,none⟩),.slice A12 k c12] rfl u6 _ (HIN.out A12 k c12 ka u6 false HU6.out HKA.out (by omega) HIA.out HS12.out) (by kernel_rfl) rfl (by kernel_rfl) ?_
         rintro e u7 ⟨rfl,hb⟩;refine⟨_,rfl,(Stg.Keep.of_below hb (fun q hq=>Nat.lt_of_lt_of_le hq HU6.out.size)),?_⟩;have HU7:=Lib.hid (HU6.out.trans (hb.mono HU6.out.size));clear hb;intro A' hA';simp only[Act.put,List.setIfInBounds_toArray,List.set_cons_succ,List.set_cons_zero]at hA';subst hA'
         refine Stg.readW (by kernel_rfl) (by kernel_rfl) (by kernel_rfl) ?_;intro K hK;go_big_quiet_op;go_big_quiet_on
         refine Stg.skip (by kernel_rfl) (by kernel_rfl) ?_;intro A' hA';simp only[Act.put,List.setIfInBounds_toArray,List.set_cons_succ,List.set_cons_zero]at hA';subst hA'
         refine Stg.skip (by kernel_rfl) (by kernel_rfl) ?_;intro A' hA';simp only[Act.put,List.setIfInBounds_toArray,List.set_cons_succ,List.set_cons_zero]at hA';subst hA'
         refine Stg.skip (by kernel_rfl) (by kernel_rfl) ?_;intro A' hA';simp only[Act.put,List.setIfInBounds_toArray,List.set_cons_succ,List.set_cons_zero]at hA';subst hA'
         refine Stg.skip (by kernel_rfl) (by kernel_rfl) ?_;intro A' hA';simp only[Act.put,List.setIfInBounds_toArray,List.set_cons_succ,List.set_cons_zero]at hA';subst hA'
         refine Stg.skipStep _ (by kernel_rfl) rfl (by kernel_rfl) ?_;intro A' hA';simp only[Act.put,List.setIfInBounds_toArray,List.set_cons_succ,List.set_cons_zero]at hA';subst hA'
         refine Stg.skipStep _ (by kernel_rfl) rfl (by kernel_rfl) ?_;intro A' hA';simp only[Act.put,List.setIfInBounds_toArray,List.set_cons_succ,List.set_cons_zero]at hA';subst hA'
         refine Stg.readW (by kernel_rfl) (by kernel_rfl) (by kernel_rfl) ?_;intro K hK;go_big_quiet_op;go_big_quiet_on
         refine Stg.readW (by kernel_rfl) (by kernel_rfl) (by kernel_rfl) ?_;intro K hK;go_big_quiet_op;go_big_quiet_on
         refine Stg.readW (by kernel_rfl) (by kernel_rfl) (by kernel_rfl) ?_;intro K hK;go_big_quiet_op;go_big_quiet_on
         refine Stg.readW (by kernel_rfl) (by kernel_rfl) (by kernel_rfl) ?_;intro K hK;go_big_quiet_op;go_big_quiet_on
         clear f0 f1
         refine Stg.nil u7 rfl ?_
         have HBF:=Lib.hid (HFIN.trans (HU7.out.mono HFIN.size))
         go_wp2_with fail
         go_ret
         exact⟨by first|rfl|simp,HBF.out⟩
       · have hsb':(ib == ib)=true:=hsb.out
         refine Stg.wp_region (Stg.Keep fun b=>b<w3.heap.size) (Stg.Keep.rel _) (by kernel_rfl) (by kernel_rfl) (by kernel_rfl) ?_
         refine Stg.readW (by kernel_rfl) (by kernel_rfl) (by kernel_rfl) ?_;intro K hK;go_big_quiet_op;go_big_quiet_on
         refine Stg.readW (by kernel_rfl) (by kernel_rfl) (by kernel_rfl) ?_;intro K hK;go_big_quiet_op;go_big_quiet_on
         refine Stg.stepW q4.drew (by kernel_rfl) (by kernel_rfl) rfl (by kernel_rfl) ?_;intro K hK
         refine wp_appendSl q4.drew _ _ _ rfl w3.heap.size 21 i0 _ 1 4 Tryz.underlying25 hi0 iz0 iz1 iz2 rfl (by omega) _ k _ rfl HO8'.out _ A8 (ln-k) c8 ((Or.of f kb).map (Value.int .i32)) rfl HLM.out HS8'.out H1C.out (by simp only[maxLen];omega) (by omega) HU0.out.size ?_
         intro v9 u1 hown hb hg
         have HU1:=Lib.hid (HU0.out.trans hb)
         refine hK _ _ (Stg.Keep.of_below hb (fun q hq=>hq)) ?_
         rw[←List.map_append]at hown
         obtain⟨A9,c9,rfl⟩:=own_form hown
         have HO9:=Lib.hid (Sl.of_own hown)
         clear hown hb hg
         intro A' hA';simp only[Act.put,List.setIfInBounds_toArray,List.set_cons_succ,List.set_cons_zero]at hA';subst hA'
         obtain⟨f0,f1⟩:=HCK.out q4.drew HU0.out
         refine Stg.read 1 (by kernel_rfl) (by kernel_rfl) (by kernel_rfl) q4.drew rfl (by kernel_rfl) ?_;intro K hK;go_big_quiet_op;go_big_quiet_on
         refine Stg.readW (by kernel_rfl) (by kernel_rfl) (by kernel_rfl) ?_;intro K hK;go_big_quiet_op;go_big_quiet_on
         refine Stg.call 32 _ _ rfl (C.enter Tryz.func32 (by kernel_rfl) rfl) [.agg #[.slice A2 n2 c2,.slice XA2 xn2 xc2],.slice (some ⟨gb,0,none⟩) ln cl] rfl u1 _ (HROF.out u1 HU1.out) (by kernel_rfl) rfl (by kernel_rfl) ?_
         rintro e u2 ⟨A10,c10,rfl,hs10,hb⟩;refine⟨_,rfl,(Stg.Keep.of_below hb (fun q hq=>Nat.lt_of_lt_of_le hq HU1.out.size)),?_⟩;have HU2:=Lib.hid (HU1.out.trans (hb.mono HU1.out.size));have HS10:=Lib.hid hs10;have HO10:=Lib.hid (HO9.out.below hb hb.size);clear hs10;clear hb;intro A' hA';simp only[Act.put,List.setIfInBounds_toArray,List.set_cons_succ,List.set_cons_zero]at hA';subst hA'
         refine Stg.call 34 _ _ rfl (C.enter Tryz.func34 (by kernel_rfl) rfl) [.slice A9 (k+(ln-k)) c9,.slice A10 ln c10] rfl u2 _ (HSM.out A9 A10 (k+(ln-k)) c9 c10 _ u2 (by omega) HOFC.out.symm HO10.out HS10.out) (by kernel_rfl) rfl (by kernel_rfl) ?_
         rintro e u3 ⟨rfl,hb⟩;refine⟨_,rfl,(Stg.Keep.of_below hb (fun q hq=>Nat.lt_of_lt_of_le hq HU2.out.size)),?_⟩;have HU3:=Lib.hid (HU2.out.trans (hb.mono HU2.out.size));clear hb;intro A' hA';simp only[Act.put,List.setIfInBounds_toArray,List.set_cons_succ,List.set_cons_zero]at hA';subst hA'
         refine Stg.readW (by kernel_rfl) (by kernel_rfl) (by kernel_rfl) ?_;intro K hK;go_big_quiet_op;go_big_quiet_on
         refine Stg.readW (by kernel_rfl) (by kernel_rfl) (by kernel_rfl) ?_;intro K hK;go_big_quiet_op;go_big_quiet_on
         refine Stg.readW (by kernel_rfl) (by kernel_rfl) (by kernel_rfl) ?_;intro K hK;go_big_quiet_op;go_big_quiet_on
         refine Stg.call 31 _ _ rfl (C.enter Tryz.func31 (by kernel_rfl) rfl) [.slice (some ⟨gb,0,none⟩) ln cl] rfl u3 _ (HRU.out (some ⟨gb,0,none⟩) ln cl l u3 HU3.out HLN.out (by omega) (fun _ h=>h) (HSL.out u3 HU3.out)) (by kernel_rfl) rfl (by kernel_rfl) ?_
         rintro e u4 ⟨A11,c11,rfl,hs11,hb⟩;refine⟨_,rfl,(Stg.Keep.of_below hb (fun q hq=>Nat.lt_of_lt_of_le hq HU3.out.size)),?_⟩;have HU4:=Lib.hid (HU3.out.trans (hb.mono HU3.out.size));have HS11:=Lib.hid hs11;clear hs11;clear hb;intro A' hA';simp only[Act.put,List.setIfInBounds_toArray,List.set_cons_succ,List.set_cons_zero]at hA';subst hA'
         refine Stg.call 35 _ _ rfl (C.enter Tryz.func35 (by kernel_rfl) rfl) [.pointer (some ⟨pb,0,none⟩),.slice A11 ln c11] rfl u4 _ (HIN.out A11 ln c11 l u4 ib HU4.out HLN.out (by omega) HIN0.out HS11.out) (by kernel_rfl) rfl (by kernel_rfl) ?_
         rintro e u5 ⟨rfl,hb⟩;refine⟨_,rfl,(Stg.Keep.of_below hb (fun q hq=>Nat.lt_of_lt_of_le hq HU4.out.size)),?_⟩;have HU5:=Lib.hid (HU4.out.trans (hb.mono HU4.out.size));clear hb;intro A' hA';simp only[Act.put,List.setIfInBounds_toArray,List.set_cons_succ,List.set_cons_zero]at hA';subst hA'
         refine Stg.readW (by kernel_rfl) (by kernel_rfl) (by kernel_rfl) ?_;intro K hK;go_big_quiet_op;go_big_quiet_on
         refine Stg.readW (by kernel_rfl) (by kernel_rfl) (by kernel_rfl) ?_;intro K hK;go_big_quiet_op;go_big_quiet_on
         refine Stg.readW (by kernel_rfl) (by kernel_rfl) (by kernel_rfl) ?_;intro K hK;go_big_quiet_op;go_big_quiet_on
         refine Stg.readW (by kernel_rfl) (by kernel_rfl) (by kernel_rfl) ?_;intro K hK;go_big_quiet_op;go_big_quiet_on
         refine Stg.call 31 _ _ rfl (C.enter Tryz.func31 (by kernel_rfl) rfl) [.slice (some ⟨gb,0,none⟩) k cl] rfl u5 _ (HRU.out (some ⟨gb,0,none⟩) k cl ka u5 HU5.out HKA.out (by omega) HKAM.out (HSA.out u5 HU5.out)) (by kernel_rfl) rfl (by kernel_rfl) ?_
         rintro e u6 ⟨A12,c12,rfl,hs12,hb⟩;refine⟨_,rfl,(Stg.Keep.of_below hb (fun q hq=>Nat.lt_of_lt_of_le hq HU5.out.size)),?_⟩;have HU6:=Lib.hid (HU5.out.trans (hb.mono HU5.out.size));have HS12:=Lib.hid hs12;clear hs12;clear hb;intro A' hA';simp only[Act.put,List.setIfInBounds_toArray,List.set_cons_succ,List.set_cons_zero]at hA';subst hA'
         refine Stg.call 35 _ _ rfl (C.enter Tryz.func35 (by kernel_rfl) rfl) [.pointer (some ⟨pb,0,none⟩),.slice A12 k c12] rfl u6 _ (HIN.out A12 k c12 ka u6 true HU6.out HKA.out (by omega) HIA.out HS12.out) (by kernel_rfl) rfl (by kernel_rfl) ?_
         rintro e u7 ⟨rfl,hb⟩;refine⟨_,rfl,(Stg.Keep.of_below hb (fun q hq=>Nat.lt_of_lt_of_le hq HU6.out.size)),?_⟩;have HU7:=Lib.hid (HU6.out.trans (hb.mono HU6.out.size));clear hb;intro A' hA';simp only[Act.put,List.setIfInBounds_toArray,List.set_cons_succ,List.set_cons_zero]at hA';subst hA'
         refine Stg.readW (by kernel_rfl) (by kernel_rfl) (by kernel_rfl) ?_;intro K hK;go_big_quiet_op;go_big_quiet_on
         refine Stg.readW (by kernel_rfl) (by kernel_rfl) (by kernel_rfl) ?_;intro K hK;go_big_quiet_op;go_big_quiet_on
         refine Stg.readW (by kernel_rfl) (by kernel_rfl) (by kernel_rfl) ?_;intro K hK;go_big_quiet_op;go_big_quiet_on
         refine Stg.readW (by kernel_rfl) (by kernel_rfl) (by kernel_rfl) ?_;intro K hK;go_big_quiet_op;go_big_quiet_on
         refine Stg.readW (by kernel_rfl) (by kernel_rfl) (by kernel_rfl) ?_;intro K hK;go_big_quiet_op;go_big_quiet_on
         refine Stg.call 31 _ _ rfl (C.enter Tryz.func31 (by kernel_rfl) rfl) [.slice (some ⟨gb,k,none⟩) (ln-k) (cl-k)] rfl u7 _ (HRU.out (some ⟨gb,k,none⟩) (ln-k) (cl-k) kb u7 HU7.out HKB0.out (by omega) HKBM.out (HSB'.out u7 HU7.out)) (by kernel_rfl) rfl (by kernel_rfl) ?_
         rintro e u8 ⟨A13,c13,rfl,hs13,hb⟩;refine⟨_,rfl,(Stg.Keep.of_below hb (fun q hq=>Nat.lt_of_lt_of_le hq HU7.out.size)),?_⟩;have HU8:=Lib.hid (HU7.out.trans (hb.mono HU7.out.size));have HS13:=Lib.hid hs13;clear hs13;clear hb;intro A' hA';simp only[Act.put,List.setIfInBounds_toArray,List.set_cons_succ,List.set_cons_zero]at hA';subst hA'
         refine Stg.call 35 _ _ rfl (C.enter Tryz.func35 (by kernel_rfl) rfl) [.pointer (some ⟨pb,0,none⟩),.slice A13 (ln-k) c13] rfl u8 _ (HIN.out A13 (ln-k) c13 kb u8 ib HU8.out HKB0.out (by omega) HIB.out HS13.out) (by kernel_rfl) rfl (by kernel_rfl) ?_
         rintro e u9 ⟨rfl,hb⟩;refine⟨_,rfl,(Stg.Keep.of_below hb (fun q hq=>Nat.lt_of_lt_of_le hq HU8.out.size)),?_⟩;have HU9:=Lib.hid (HU8.out.trans (hb.mono HU8.out.size));clear hb;intro A' hA';simp only[Act.put,List.setIfInBounds_toArray,List.set_cons_succ,List.set_cons_zero]at hA';subst hA'
         refine Stg.readW (by kernel_rfl) (by kernel_rfl) (by kernel_rfl) ?_;intro K hK;go_big_quiet_op;go_big_quiet_on
         refine Stg.readW (by kernel_rfl) (by kernel_rfl) (by kernel_rfl) ?_;intro K hK;go_big_quiet_op;go_big_quiet_on
         refine Stg.readW (by kernel_rfl) (by kernel_rfl) (by kernel_rfl) ?_;intro K hK;go_big_quiet_op;go_big_quiet_on
         refine Stg.readW (by kernel_rfl) (by kernel_rfl) (by kernel_rfl) ?_;intro K hK;go_big_quiet_op;go_big_quiet_on
         clear f0 f1
         refine Stg.nil u9 rfl ?_
         have HBF:=Lib.hid (HFIN.trans (HU9.out.mono HFIN.size))
         go_wp2_with fail
         go_ret
         exact⟨by first|rfl|simp,HBF.out⟩
    · have hlt:=ht rfl
      have HBC:=Lib.hid hbc
      clear ht hf0 hbc
      go_wp2_with fail
      exact⟨⟨k+1,by omega,by first|rfl|go_num,HBC.out⟩,by simp[intOf];omega⟩
end Go.Proofs.YtbeakahjbkdeiaaGreatDoor
