/- The law EqualOrder, by walking its text. -/
import Derived.Test.YtjakbblocbicjaaGreatDoorEqLaw
import Derived.Test.YtjakbblocbicjaaGreatDoorTxSame
import Derived.Test.YtjakbblocbicjaaGreatDoorSlCut
import Derived.Test.YtjakbblocbicjaaGreatDoorStage
import Derived.Test.YtjakbblocbicjaaGreatDoorMdTable
import Derived.BigQuiet
import Derived.Deep.DeepCutAuto
namespace Go.Proofs.YtjakbblocbicjaaGreatDoor
open Go.RowKit
set_option linter.unusedSimpArgs false
set_option linter.unusedVariables false
set_option maxRecDepth 100000 in
set_option maxHeartbeats 4000000 in
theorem Eq.equalOrder_any (w:World) (A XA PA MA:Option Addr) (n c xn xc pn pc mn mc:Nat) (T0:List Rw.Row) (E0 P M:List Int) (hT:Tx.In A XA PA MA n c xn xc pn pc mn mc T0 E0 P M w) (c0 c1:Int) (hc0 : -9223372036854775808≤c0∧c0≤9223372036854775807) (hc1 : -9223372036854775808≤c1∧c1≤9223372036854775807) (hL:Nf.Laid w) :
 Calls Tryz.prog 8 #[.agg #[.slice A n c,.slice XA xn xc,.slice PA pn pc,.slice MA mn mc],.agg #[.int .i64 c0,.int .i64 c1]] w fun e w'=>e=.returned (.bool true)∧Below w.heap.size w w':=by
 have HMADE:=hy' (fun W (hW:Below w.heap.size w W)=>zFx A XA PA MA n c xn xc pn pc mn mc T0 E0 P M 24 W (by decide) (hT.below hW) (Rw.Laid.next hL.1 hW));have HAW:=hy' (fun W (hW:Below w.heap.size w W)=>Eq.awake22 W (hL.next hW));obtain⟨wa,hwa⟩:∃wa,(w.alloc (.cells #[.slice A n c,.slice XA xn xc,.slice PA pn pc,.slice MA mn mc] 27)).alloc (.cells #[.int .i64 c0,.int .i64 c1] 61)=wa:=⟨_,rfl⟩;have hb0:Below (w.alloc (.cells #[.slice A n c,.slice XA xn xc,.slice PA pn pc,.slice MA mn mc] 27)).heap.size (w.alloc (.cells #[.slice A n c,.slice XA xn xc,.slice PA pn pc,.slice MA mn mc] 27)) wa:=by rw[←hwa];exact (Below.refl _ _).alloc (Nat.le_refl _) _
 have hba:Below w.heap.size w wa:=by rw[←hwa];exact ((Below.refl _ _).alloc (Nat.le_refl _) _).alloc (by simp) _
 have hat:Rw.At wa w.heap.size 27 [.slice A n c,.slice XA xn xc,.slice PA pn pc,.slice MA mn mc]:=(Rw.At.new w 27 [.slice A n c,.slice XA xn xc,.slice PA pn pc,.slice MA mn mc]).below hb0
 have hcu:Rw.At wa (w.heap.size+1) 61 [.int .i64 c0,.int .i64 c1]:=by
  have:=Rw.At.new (w.alloc (.cells #[.slice A n c,.slice XA xn xc,.slice PA pn pc,.slice MA mn mc] 27)) 61 [.int .i64 c0,.int .i64 c1];rw[show (w.alloc (.cells #[.slice A n c,.slice XA xn xc,.slice PA pn pc,.slice MA mn mc] 27)).heap.size=w.heap.size+1 by simp]at this;rw[←hwa];exact this
 have HWA:=hy' hwa;have HBA:=hy' hba;have HAT:=hy' hat;have HCU:=hy' hcu;have HH:=hy' hL.2;clear hb0 hwa hba hat hcu hT hL;go_enter Tryz.func8,Tryz.ntmps8;go_upto_region 1 with (fail)
 rw[HWA.o];go_wp2_with fail;refine (HAW.o wa HBA.o).mono ?_;rintro e w1 ⟨rfl,hb1⟩;have hat1:=HAT.o.below hb1;have hcu1:=HCU.o.below hb1;have HB1:=hy' (HBA.o.trans (hb1.mono HBA.o.size));have x0:=hat1.cell 0 rfl;have x1:=hat1.cell 1 rfl;have x2:=hat1.cell 2 rfl;have x3:=hat1.cell 3 rfl;have xl:=hat1.lt;clear hb1 hat1;go_wp2_with fail;refine (HMADE.o w1 HB1.o).mono ?_;rintro e w2 ⟨p,v2,T,E,S,l,Al,cl,rfl,his,hdo,hR,hown,hlc,hll,hap,hb2⟩;obtain⟨pb,rfl,hpbl⟩:=his.form;obtain⟨A2,c2,XA2,xc2,rfl,hdo2⟩:=id hdo;obtain⟨n2,hn2⟩:∃k,T.length=k:=⟨_,rfl⟩;obtain⟨xn2,hxn2⟩:∃k,E.length=k:=⟨_,rfl⟩;obtain⟨ln,hln⟩:∃k,l.length=k:=⟨_,rfl⟩;unfold zAX at hdo hap ⊢;rw[hn2,hxn2]at hdo ⊢;simp only[hn2,hxn2]at hap;rw[hln]at hown hll hap ⊢;obtain⟨w3,hw3⟩:∃w3,w2.alloc (.cells #[.slice A2 n2 c2,.slice XA2 xn2 xc2] 25)=w3:=⟨_,rfl⟩;have hb3:Below w2.heap.size w2 w3:=by rw[←hw3];exact (Below.refl _ _).alloc (Nat.le_refl _) _
 have hat3:Rw.At w3 w2.heap.size 25 [.slice A2 n2 c2,.slice XA2 xn2 xc2]:=by rw[←hw3];exact Rw.At.new w2 25 [.slice A2 n2 c2,.slice XA2 xn2 xc2]
 have HCU3:=hy' ((hcu1.below hb2).below hb3);have HW3:=hy' hw3;have HB3:=hy' (HB1.o.trans ((hb2.trans (hb3.mono hb2.size)).mono HB1.o.size));have HT3:=hy' hat3;have HI3:=hy' (his.below hb3);have HD3:=hy' (hdo.below hb3);have HL3:=hy' (zA4 hown hb3 (Nat.le_refl _));have HR:=hy' hR;have HLC:=hy' hlc;have HLN:=hy' hln;have HN2:=hy' hn2;have HAP:Hy (∀w'',w3.grownBy w'' (Value.slice Al ln cl).ownBlock→Ud.Is w'' (.pointer (some ⟨pb,0,none⟩)) T S∧Md.Doc w'' (.agg #[.slice A2 n2 c2,.slice XA2 xn2 xc2]) T E):=hy' fun w'' hg=>hap w'' (zA0 (by rw[←hw3];exact World.grownBy_alloc _ _ _) hg)
 have HLB:=hy' (fun x (hx:x∈l)=>Tx.isC_i32 (hlc x hx));have z0:=hat3.cell 0 rfl;have z1:=hat3.cell 1 rfl;have zl:=hat3.lt;clear hcu1 x0 x1 x2 x3 xl hap hdo hdo2 his hR hown hlc hln hn2 hxn2 hw3 hb3 hat3 hb2 HMADE HAW HWA HBA HAT HCU;go_upto_region 4 with (fail)
 rw[HW3.o];have hok:=HR.o.ok;have HL33:=hy' (Sl.of_own HL3.o);have HH3:=hy' (HH.o.next HB3.o);obtain⟨u0,hu0⟩:∃z,bits .and .i64 c0 31=z:=⟨_,rfl⟩;obtain⟨u1,hu1⟩:∃z,bits .and .i64 c1 31=z:=⟨_,rfl⟩;obtain⟨i,hi⟩:∃i:Nat,max 0 (min u0 ln)=(i:Int):=⟨(max 0 (min u0 ln)).toNat,by omega⟩;obtain⟨k,hk⟩:∃k:Nat,max (i:Int) (min u1 ln)=(k:Int):=⟨(max (i:Int) (min u1 ln)).toNat,by omega⟩;have hil:i≤ln:=by omega
 have hik:i≤k:=by omega
 have hkl:k≤ln:=by omega
 have hA:(Al=none∧ln=0∧cl=0)∨∃gb,Al=some ⟨gb,0,none⟩∧ln≤cl:=by
  rcases HL3.o.2 with ⟨hv,h0⟩|⟨g',cap',cur,hv,hg,hb,h1,h2,h3,h4⟩
  · cases hv;exact .inl ⟨rfl,rfl,rfl⟩
  cases hv;exact .inr ⟨g',rfl,by omega⟩
 obtain⟨X,hX⟩:∃q,l.take i=q:=⟨_,rfl⟩;obtain⟨Y,hY⟩:∃q,(l.drop i).take (k-i)=q:=⟨_,rfl⟩;obtain⟨Z,hZ⟩:∃q,l.drop k=q:=⟨_,rfl⟩;have hXl:X.length=i:=by rw[←hX,List.length_take,HLN.o];omega
 have hYl:Y.length=k-i:=by rw[←hY,List.length_take,List.length_drop,HLN.o];omega
 have hZl:Z.length=ln-k:=by rw[←hZ,List.length_drop,HLN.o]
 have hXc:∀c∈X,C.isC c=true:=fun c hc=>HLC.o c (List.mem_of_mem_take (hX▸hc))
 have hYc:∀c∈Y,C.isC c=true:=fun c hc=>HLC.o c (List.mem_of_mem_drop (List.mem_of_mem_take (hY▸hc)))
 have hZc:∀c∈Z,C.isC c=true:=fun c hc=>HLC.o c (List.mem_of_mem_drop (hZ▸hc))
 have hXf:=zIc hok (z:=X) (by omega);have hYf:=zIc hok (z:=Y) (by omega);have hZf:=zIc hok (z:=Z) (by omega);obtain⟨sx,hsx⟩:∃q,zAv X=q:=⟨_,rfl⟩;obtain⟨sy,hsy⟩:∃q,zAv Y=q:=⟨_,rfl⟩;obtain⟨sz,hsz⟩:∃q,zAv Z=q:=⟨_,rfl⟩;obtain⟨p,hp⟩:∃q,U.cmpL (Nf.chars T X) (Nf.chars T Y)=q:=⟨_,rfl⟩;obtain⟨q,hq⟩:∃q,U.cmpL (Nf.chars T Y) (Nf.chars T Z)=q:=⟨_,rfl⟩;obtain⟨r,hr⟩:∃q,U.cmpL (Nf.chars T X) (Nf.chars T Z)=q:=⟨_,rfl⟩;have hs:U.cmpL (Nf.chars T Y) (Nf.chars T X) = -p:=by rw[U.cmpL_swap,hp]
 have hpb:=U.cmpL_bd (Nf.chars T X) (Nf.chars T Y);have ht1:=U.cmpL_trans (Nf.chars T X) (Nf.chars T Y) (Nf.chars T Z);have ht2:=U.cmpL_trans (Nf.chars T Z) (Nf.chars T Y) (Nf.chars T X);rw[U.cmpL_swap (Nf.chars T Y) (Nf.chars T Z),U.cmpL_swap (Nf.chars T X) (Nf.chars T Y),U.cmpL_swap (Nf.chars T X) (Nf.chars T Z),hp,hq,hr]at ht2;rw[hp,hq,hr]at ht1;rw[hp]at hpb
 have CXY:Hy (∀W,Below w3.heap.size w3 W→Calls Tryz.prog 34 #[.pointer (some ⟨pb,0,none⟩),.string sx,.string sy] W fun e w'=>e=.returned (.tuple #[.int .i64 p,.int .i64 0])∧Below W.heap.size W w'):=hy' fun W hW=>by
  have:=Eq.compare_chars _ T S X Y W hok (HI3.o.below hW) (HH3.o.next hW) hXc (by omega) hXf hYc (by omega) hYf;rw[hsx,hsy,hp]at this;exact this
 have CYZ:Hy (∀W,Below w3.heap.size w3 W→Calls Tryz.prog 34 #[.pointer (some ⟨pb,0,none⟩),.string sy,.string sz] W fun e w'=>e=.returned (.tuple #[.int .i64 q,.int .i64 0])∧Below W.heap.size W w'):=hy' fun W hW=>by
  have:=Eq.compare_chars _ T S Y Z W hok (HI3.o.below hW) (HH3.o.next hW) hYc (by omega) hYf hZc (by omega) hZf;rw[hsy,hsz,hq]at this;exact this
 have CXZ:Hy (∀W,Below w3.heap.size w3 W→Calls Tryz.prog 34 #[.pointer (some ⟨pb,0,none⟩),.string sx,.string sz] W fun e w'=>e=.returned (.tuple #[.int .i64 r,.int .i64 0])∧Below W.heap.size W w'):=hy' fun W hW=>by
  have:=Eq.compare_chars _ T S X Z W hok (HI3.o.below hW) (HH3.o.next hW) hXc (by omega) hXf hZc (by omega) hZf;rw[hsx,hsz,hr]at this;exact this
 have CYX:Hy (∀W,Below w3.heap.size w3 W→Calls Tryz.prog 34 #[.pointer (some ⟨pb,0,none⟩),.string sy,.string sx] W fun e w'=>e=.returned (.tuple #[.int .i64 (-p),.int .i64 0])∧Below W.heap.size W w'):=hy' fun W hW=>by
  have:=Eq.compare_chars _ T S Y X W hok (HI3.o.below hW) (HH3.o.next hW) hYc (by omega) hYf hXc (by omega) hXf;rw[hsx,hsy,hs]at this;exact this
 have HEN:Hy (∀(A':Option Addr) (m c':Nat) (z:List Int) (sq:ByteArray) (W:World),z.length=m→m≤2000→(∀c∈z,C.isC c=true)→zAv z=sq→Sl W W.heap.size A' (z.map (Value.int .i64))→Calls Tryz.prog 26 #[.slice A' m c'] W fun e w'=>e=.returned (.string sq)∧Below W.heap.size W w'):=hy' fun A' m c' z sq W hz hm hzl hs hA=>by
  have:=zEs A' m c' z W hz (by omega) hA hzl;rw[hs]at this;exact this
 have HX:Hy (∀W,Below w3.heap.size w3 W→Sl W W.heap.size Al (X.map (Value.int .i64))):=hy' fun W hW=>by
  rw[←hX,List.map_take];exact (HL33.o.below hW hW.size).takeN i
 have HY:Hy (∀gb,Al=some ⟨gb,0,none⟩→∀W,Below w3.heap.size w3 W→Sl W W.heap.size (some ⟨gb,i,none⟩) (Y.map (Value.int .i64))):=hy' fun gb hg W hW=>by
  have:=HL33.o;rw[hg]at this;have:=((this.below hW hW.size).dropN i).takeN (k-i);rw[Nat.zero_add]at this;rw[←hY,List.map_take,List.map_drop];exact this
 have HZ:Hy (∀gb,Al=some ⟨gb,0,none⟩→∀W,Below w3.heap.size w3 W→Sl W W.heap.size (some ⟨gb,k,none⟩) (Z.map (Value.int .i64))):=hy' fun gb hg W hW=>by
  have:=HL33.o;rw[hg]at this;have:=(this.below hW hW.size).dropN k;rw[Nat.zero_add]at this;rw[←hZ,List.map_drop];exact this
 have HXL:=hy' hXl;have HYL:=hy' hYl;have HZL:=hy' hZl;have HXC:=hy' hXc;have HYC:=hy' hYc;have HZC:=hy' hZc;have HSX:=hy' hsx;have HSY:=hy' hsy;have HSZ:=hy' hsz;have HALL:=hy' hA;have HT1:=hy' ht1;have HT2:=hy' ht2;have HPB:=hy' hpb;have HIB:=hy' (show i≤24∧k≤24∧ln≤24 by omega);have y0:=HCU3.o.cell 0 rfl;have y1:=HCU3.o.cell 1 rfl;have yl:=HCU3.o.lt;have HQ0:=hy' (Below.refl w3.heap.size w3);have HIK:=hy' (show i≤k∧k≤ln∧i≤ln by omega);have HUI:=hy' hi;have HUK:=hy' hk;clear hok hX hY hZ hXl hYl hZl hXc hYc hZc hXf hYf hZf hsx hsy hsz hp hq hr hs hpb ht1 ht2 HL3 hA z0 z1 zl hil hik hkl hi hk;have hi:=HUI.o;have hk:=HUK.o;go_upto_region 8 with (fail)
 clear hi hk hu0 hu1 y0 y1 yl;go_cut [11,12,13] (fun s1 s2 s3 wx=>s1=.string sx∧s2=.string sy∧s3=.string sz∧Below w3.heap.size w3 wx)
 case rest =>
  obtain⟨rfl,rfl,rfl,hbc⟩:=hcut;obtain⟨q1,rfl⟩:∃w4:World,w4=wc:=⟨_,rfl⟩;have HQ1:=hy' hbc;clear hbc;go_wp2_with fail;refine (CXY.o q1 HQ1.o).mono ?_;rintro e q2 ⟨rfl,hb⟩;have HQ2:=hy' (HQ1.o.trans (hb.mono HQ1.o.size));clear hb;go_wp2_with fail;refine (CYZ.o q2 HQ2.o).mono ?_;rintro e q3 ⟨rfl,hb⟩;have HQ3:=hy' (HQ2.o.trans (hb.mono HQ2.o.size));clear hb;go_wp2_with fail;refine (CXZ.o q3 HQ3.o).mono ?_;rintro e q4 ⟨rfl,hb⟩;have HQ4:=hy' (HQ3.o.trans (hb.mono HQ3.o.size));clear hb;go_wp2_with fail;refine (CYX.o q4 HQ4.o).mono ?_;rintro e q5 ⟨rfl,hb⟩;have HQ5:=hy' (HB3.o.trans ((HQ4.o.trans (hb.mono HQ4.o.size)).mono HB3.o.size));clear hb;obtain⟨g1,g2⟩:=HPB.o;rcases (show p = -1∨p=0∨p=1 by omega) with rfl|rfl|rfl
  · have hne:((- -1:Int) != - -1)=false:=by decide
    by_cases hq:q≤0
    · have hr:¬r > 0:=by have:=HT1.o (by decide) hq;omega
      go_wp2_with fail;go_ret;exact⟨by first|rfl|(simp;done)|(simp;omega),HQ5.o⟩
    go_wp2_with fail;go_ret;exact⟨by first|rfl|(simp;done)|(simp;omega),HQ5.o⟩
  · by_cases hq:q≤0
    · have hr:¬r > 0:=by have:=HT1.o (by decide) hq;omega
      by_cases hq2:q≥0
      · have hr2:¬r<0:=by have:=HT2.o (by omega) (by decide);omega
        go_wp2_with fail;go_ret;exact⟨by first|rfl|(simp;done)|(simp;omega),HQ5.o⟩
      go_wp2_with fail;go_ret;exact⟨by first|rfl|(simp;done)|(simp;omega),HQ5.o⟩
    have hq2:q≥0:=by omega
    have hr2:¬r<0:=by have:=HT2.o (by omega) (by decide);omega
    go_wp2_with fail;go_ret;exact⟨by first|rfl|(simp;done)|(simp;omega),HQ5.o⟩
  by_cases hq2:q≥0
  · have hr2:¬r<0:=by have:=HT2.o (by omega) (by decide);omega
    go_wp2_with fail;go_ret;exact⟨by first|rfl|(simp;done)|(simp;omega),HQ5.o⟩
  go_wp2_with fail;go_ret;exact⟨by first|rfl|(simp;done)|(simp;omega),HQ5.o⟩
 obtain⟨g1,g2,g3⟩:=HIB.o;obtain⟨f1,f2,f3⟩:=HIK.o;have i0:(0:Int)≤i:=by omega
 have k0:(0:Int)≤k:=by omega
 have ik:(i:Int)≤k:=by omega
 have kl:(k:Int)≤ln:=by omega
 have il:(i:Int)≤ln:=by omega
 have HV0:=hy' (Below.refl w3.heap.size w3).drew;rcases HALL.o with ⟨rfl,rfl,rfl⟩|⟨gb,rfl,hcap⟩
 · obtain rfl:k=0:=by omega
   obtain rfl:i=0:=by omega
   have HY0:Hy (∀W:World,Sl W W.heap.size none (Y.map (Value.int .i64))):=hy' fun W=>by
    rw[show Y=[] from List.eq_nil_of_length_eq_zero HYL.o];exact Sl.nil _ _ _
   have HZ0:Hy (∀W:World,Sl W W.heap.size none (Z.map (Value.int .i64))):=hy' fun W=>by
    rw[show Z=[] from List.eq_nil_of_length_eq_zero HZL.o];exact Sl.nil _ _ _
   refine Stg.wp_region (by kernel_rfl) Stg.Ex Stg.Ex.rel ?_;iterate 3 (refine Stg.readW (by kernel_rfl) ?_;intro K hK;go_big_quiet_op;go_big_quiet_on)
   refine Stg.cl 26 _ _ rfl Tryz.func26 [.slice none 0 0] rfl w3.drew _ (HEN.o none 0 0 X sx w3.drew (by rw[HXL.o];try omega) (by omega) HXC.o HSX.o (HX.o w3.drew HV0.o)) (by kernel_rfl) rfl ?_;rintro e v1 ⟨rfl,hb⟩;refine⟨_,rfl,hb,?_⟩;have HV1:=hy' (HV0.o.trans (hb.mono HV0.o.size));clear hb;intro A' hA';simp only[Act.put,List.setIfInBounds_toArray,List.set_cons_succ,List.set_cons_zero]at hA';subst hA'
   iterate 4 (refine Stg.readW (by kernel_rfl) ?_;intro K hK;go_big_quiet_op;go_big_quiet_on)
   refine Stg.cl 26 _ _ rfl Tryz.func26 [.slice none 0 0] rfl v1 _ (HEN.o none 0 0 Y sy v1 (by rw[HYL.o];try omega) (by omega) HYC.o HSY.o (HY0.o v1)) (by kernel_rfl) rfl ?_;rintro e v2 ⟨rfl,hb⟩;refine⟨_,rfl,hb,?_⟩;have HV2:=hy' (HV1.o.trans (hb.mono HV1.o.size));clear hb;intro A' hA';simp only[Act.put,List.setIfInBounds_toArray,List.set_cons_succ,List.set_cons_zero]at hA';subst hA'
   iterate 3 (refine Stg.readW (by kernel_rfl) ?_;intro K hK;go_big_quiet_op;go_big_quiet_on)
   refine Stg.cl 26 _ _ rfl Tryz.func26 [.slice none 0 0] rfl v2 _ (HEN.o none 0 0 Z sz v2 (by rw[HZL.o];try omega) (by omega) HZC.o HSZ.o (HZ0.o v2)) (by kernel_rfl) rfl ?_;rintro e v3 ⟨rfl,hb⟩;refine⟨_,rfl,hb,?_⟩;have HV3:=hy' (HV2.o.trans (hb.mono HV2.o.size));clear hb;intro A' hA';simp only[Act.put,List.setIfInBounds_toArray,List.set_cons_succ,List.set_cons_zero]at hA';subst hA'
   iterate 3 (refine Stg.readW (by kernel_rfl) ?_;intro K hK;go_big_quiet_op;go_big_quiet_on)
   refine Stg.nil v3 rfl ?_;go_wp2_with fail;go_meet;exact⟨rfl,rfl,rfl,HV3.o⟩
 have kc:(k:Int)≤cl:=by omega
 have ic:(i:Int)≤cl:=by omega
 rcases Nat.lt_or_ge i cl with hic|hic
 rotate_left
 · obtain rfl:cl=i:=by omega
   obtain rfl:cl=k:=by omega
   obtain rfl:ln=cl:=by omega
   have HY0:Hy (∀W:World,Sl W W.heap.size (some ⟨gb,0,none⟩) (Y.map (Value.int .i64))):=hy' fun W=>by
    rw[show Y=[] from List.eq_nil_of_length_eq_zero (by rw[HYL.o];omega)];exact Sl.nil _ _ _
   have HZ0:Hy (∀W:World,Sl W W.heap.size (some ⟨gb,0,none⟩) (Z.map (Value.int .i64))):=hy' fun W=>by
    rw[show Z=[] from List.eq_nil_of_length_eq_zero (by rw[HZL.o];omega)];exact Sl.nil _ _ _
   refine Stg.wp_region (by kernel_rfl) Stg.Ex Stg.Ex.rel ?_;iterate 3 (refine Stg.readW (by kernel_rfl) ?_;intro K hK;go_big_quiet_op;go_big_quiet_on)
   refine Stg.cl 26 _ _ rfl Tryz.func26 [.slice (some ⟨gb,0,none⟩) ln ln] rfl w3.drew _ (HEN.o (some ⟨gb,0,none⟩) ln ln X sx w3.drew (by rw[HXL.o];try omega) (by omega) HXC.o HSX.o (HX.o w3.drew HV0.o)) (by kernel_rfl) rfl ?_;rintro e v1 ⟨rfl,hb⟩;refine⟨_,rfl,hb,?_⟩;have HV1:=hy' (HV0.o.trans (hb.mono HV0.o.size));clear hb;intro A' hA';simp only[Act.put,List.setIfInBounds_toArray,List.set_cons_succ,List.set_cons_zero]at hA';subst hA'
   iterate 4 (refine Stg.readW (by kernel_rfl) ?_;intro K hK;go_big_quiet_op;go_big_quiet_on)
   refine Stg.cl 26 _ _ rfl Tryz.func26 [.slice (some ⟨gb,0,none⟩) 0 0] rfl v1 _ (HEN.o (some ⟨gb,0,none⟩) 0 0 Y sy v1 (by rw[HYL.o];try omega) (by omega) HYC.o HSY.o (HY0.o v1)) (by kernel_rfl) rfl ?_;rintro e v2 ⟨rfl,hb⟩;refine⟨_,rfl,hb,?_⟩;have HV2:=hy' (HV1.o.trans (hb.mono HV1.o.size));clear hb;intro A' hA';simp only[Act.put,List.setIfInBounds_toArray,List.set_cons_succ,List.set_cons_zero]at hA';subst hA'
   iterate 3 (refine Stg.readW (by kernel_rfl) ?_;intro K hK;go_big_quiet_op;go_big_quiet_on)
   refine Stg.cl 26 _ _ rfl Tryz.func26 [.slice (some ⟨gb,0,none⟩) 0 0] rfl v2 _ (HEN.o (some ⟨gb,0,none⟩) 0 0 Z sz v2 (by rw[HZL.o];try omega) (by omega) HZC.o HSZ.o (HZ0.o v2)) (by kernel_rfl) rfl ?_;rintro e v3 ⟨rfl,hb⟩;refine⟨_,rfl,hb,?_⟩;have HV3:=hy' (HV2.o.trans (hb.mono HV2.o.size));clear hb;intro A' hA';simp only[Act.put,List.setIfInBounds_toArray,List.set_cons_succ,List.set_cons_zero]at hA';subst hA'
   iterate 3 (refine Stg.readW (by kernel_rfl) ?_;intro K hK;go_big_quiet_op;go_big_quiet_on)
   refine Stg.nil v3 rfl ?_;go_wp2_with fail;go_meet;exact⟨rfl,rfl,rfl,HV3.o⟩
 have ine:¬cl=i:=by omega
 rcases Nat.lt_or_ge k cl with hkc|hkc
 · have kne:¬cl=k:=by omega
   refine Stg.wp_region (by kernel_rfl) Stg.Ex Stg.Ex.rel ?_;iterate 3 (refine Stg.readW (by kernel_rfl) ?_;intro K hK;go_big_quiet_op;go_big_quiet_on)
   refine Stg.cl 26 _ _ rfl Tryz.func26 [.slice (some ⟨gb,0,none⟩) i cl] rfl w3.drew _ (HEN.o (some ⟨gb,0,none⟩) i cl X sx w3.drew (by rw[HXL.o];try omega) (by omega) HXC.o HSX.o (HX.o w3.drew HV0.o)) (by kernel_rfl) rfl ?_;rintro e v1 ⟨rfl,hb⟩;refine⟨_,rfl,hb,?_⟩;have HV1:=hy' (HV0.o.trans (hb.mono HV0.o.size));clear hb;intro A' hA';simp only[Act.put,List.setIfInBounds_toArray,List.set_cons_succ,List.set_cons_zero]at hA';subst hA'
   iterate 4 (refine Stg.readW (by kernel_rfl) ?_;intro K hK;go_big_quiet_op;go_big_quiet_on)
   refine Stg.cl 26 _ _ rfl Tryz.func26 [.slice (some ⟨gb,i,none⟩) (k-i) (cl-i)] rfl v1 _ (HEN.o (some ⟨gb,i,none⟩) (k-i) (cl-i) Y sy v1 (by rw[HYL.o];try omega) (by omega) HYC.o HSY.o (HY.o gb rfl v1 HV1.o)) (by kernel_rfl) rfl ?_;rintro e v2 ⟨rfl,hb⟩;refine⟨_,rfl,hb,?_⟩;have HV2:=hy' (HV1.o.trans (hb.mono HV1.o.size));clear hb;intro A' hA';simp only[Act.put,List.setIfInBounds_toArray,List.set_cons_succ,List.set_cons_zero]at hA';subst hA'
   iterate 3 (refine Stg.readW (by kernel_rfl) ?_;intro K hK;go_big_quiet_op;go_big_quiet_on)
   refine Stg.cl 26 _ _ rfl Tryz.func26 [.slice (some ⟨gb,k,none⟩) (ln-k) (cl-k)] rfl v2 _ (HEN.o (some ⟨gb,k,none⟩) (ln-k) (cl-k) Z sz v2 (by rw[HZL.o];try omega) (by omega) HZC.o HSZ.o (HZ.o gb rfl v2 HV2.o)) (by kernel_rfl) rfl ?_;rintro e v3 ⟨rfl,hb⟩;refine⟨_,rfl,hb,?_⟩;have HV3:=hy' (HV2.o.trans (hb.mono HV2.o.size));clear hb;intro A' hA';simp only[Act.put,List.setIfInBounds_toArray,List.set_cons_succ,List.set_cons_zero]at hA';subst hA'
   iterate 3 (refine Stg.readW (by kernel_rfl) ?_;intro K hK;go_big_quiet_op;go_big_quiet_on)
   refine Stg.nil v3 rfl ?_;go_wp2_with fail;go_meet;exact⟨rfl,rfl,rfl,HV3.o⟩
 obtain rfl:cl=k:=by omega
 obtain rfl:ln=cl:=by omega
 have HZ0:Hy (∀W:World,Sl W W.heap.size (some ⟨gb,0,none⟩) (Z.map (Value.int .i64))):=hy' fun W=>by
  rw[show Z=[] from List.eq_nil_of_length_eq_zero (by rw[HZL.o];omega)];exact Sl.nil _ _ _
 refine Stg.wp_region (by kernel_rfl) Stg.Ex Stg.Ex.rel ?_;iterate 3 (refine Stg.readW (by kernel_rfl) ?_;intro K hK;go_big_quiet_op;go_big_quiet_on)
 refine Stg.cl 26 _ _ rfl Tryz.func26 [.slice (some ⟨gb,0,none⟩) i ln] rfl w3.drew _ (HEN.o (some ⟨gb,0,none⟩) i ln X sx w3.drew (by rw[HXL.o];try omega) (by omega) HXC.o HSX.o (HX.o w3.drew HV0.o)) (by kernel_rfl) rfl ?_;rintro e v1 ⟨rfl,hb⟩;refine⟨_,rfl,hb,?_⟩;have HV1:=hy' (HV0.o.trans (hb.mono HV0.o.size));clear hb;intro A' hA';simp only[Act.put,List.setIfInBounds_toArray,List.set_cons_succ,List.set_cons_zero]at hA';subst hA'
 iterate 4 (refine Stg.readW (by kernel_rfl) ?_;intro K hK;go_big_quiet_op;go_big_quiet_on)
 refine Stg.cl 26 _ _ rfl Tryz.func26 [.slice (some ⟨gb,i,none⟩) (ln-i) (ln-i)] rfl v1 _ (HEN.o (some ⟨gb,i,none⟩) (ln-i) (ln-i) Y sy v1 (by rw[HYL.o];try omega) (by omega) HYC.o HSY.o (HY.o gb rfl v1 HV1.o)) (by kernel_rfl) rfl ?_;rintro e v2 ⟨rfl,hb⟩;refine⟨_,rfl,hb,?_⟩;have HV2:=hy' (HV1.o.trans (hb.mono HV1.o.size));clear hb;intro A' hA';simp only[Act.put,List.setIfInBounds_toArray,List.set_cons_succ,List.set_cons_zero]at hA';subst hA'
 iterate 3 (refine Stg.readW (by kernel_rfl) ?_;intro K hK;go_big_quiet_op;go_big_quiet_on)
 refine Stg.cl 26 _ _ rfl Tryz.func26 [.slice (some ⟨gb,0,none⟩) 0 0] rfl v2 _ (HEN.o (some ⟨gb,0,none⟩) 0 0 Z sz v2 (by rw[HZL.o];try omega) (by omega) HZC.o HSZ.o (HZ0.o v2)) (by kernel_rfl) rfl ?_;rintro e v3 ⟨rfl,hb⟩;refine⟨_,rfl,hb,?_⟩;have HV3:=hy' (HV2.o.trans (hb.mono HV2.o.size));clear hb;intro A' hA';simp only[Act.put,List.setIfInBounds_toArray,List.set_cons_succ,List.set_cons_zero]at hA';subst hA'
 iterate 3 (refine Stg.readW (by kernel_rfl) ?_;intro K hK;go_big_quiet_op;go_big_quiet_on)
 refine Stg.nil v3 rfl ?_;go_wp2_with fail;go_meet;exact⟨rfl,rfl,rfl,HV3.o⟩
end Go.Proofs.YtjakbblocbicjaaGreatDoor
