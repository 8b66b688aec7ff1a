/- cedillalaw22.Turned, by walking its text: what is exchanged stays alike. -/
import Derived.Test.YtjakbblocbicjaaGreatDoorNfLaw
import Derived.Test.YtjakbblocbicjaaGreatDoorUtf
import Derived.Test.YtjakbblocbicjaaGreatDoorSlCut
import Derived.Test.YtjakbblocbicjaaGreatDoorStage
import Derived.Test.YtjakbblocbicjaaGreatDoorMdRef4
import Derived.Test.YtjakbblocbicjaaGreatDoorMdTable
import Derived.Test.YtjakbblocbicjaaGreatDoorSsSymB
import Derived.Test.YtjakbblocbicjaaGreatDoorTxSame
import Derived.BigRegion
import Derived.BigQuiet
import Derived.Deep.DeepCutAuto
namespace Go.Proofs.YtjakbblocbicjaaGreatDoor
open Go.RowKit
set_option linter.unusedSimpArgs false
set_option linter.unusedVariables false
theorem Md.mp_le2 {T:List Rw.Row} {S:List Int} (ok:Ud.Ok T S) (c:Int):(Md.mp T c).length≤2:=by
 unfold Md.mp;split
 · simp
 unfold zAV;cases h:Md.find T c with
 | none=>simp
 | some r=>simpa using (ok.good r (zAq h).1).2.2.2.1
def Eq.RetTurned (T:List Rw.Row) (l:List Int) (w:World) (e:Ending) (w':World):Prop :=
 ∃(Z:List Int) (A:Option Addr) (c:Nat),e=.returned (.slice A Z.length c)∧w'.ownsRow w.heap.size 3 1 (.slice A Z.length c) Z.length (Z.map (Value.int .i64))∧Nf.chars T Z=Nf.chars T l∧(∀c∈Z,C.isC c=true)∧Below w.heap.size w w'
set_option maxRecDepth 100000 in
set_option maxHeartbeats 80000000 in
theorem Eq.turned_any (v:Value) (T:List Rw.Row) (E S:List Int) (Al PA:Option Addr) (ln cl pn pc:Nat) (l P:List Int) (w:World) (ok:Ud.Ok T S) (hTn:T.length≤100000) (hml:∀r∈T,r.2.2.length≤1000) (hd:Md.Doc w v T E) (hl:l.length=ln) (hln:ln≤30) (hlc:∀c∈l,C.isC c=true) (hA:Sl w w.heap.size Al (l.map (Value.int .i64))) (hp:P.length=pn) (hpn:pn≤maxLen) (hP:Sl w w.heap.size PA (P.map (Value.int .i64))) :
 Calls Tryz.prog 28 #[v,.slice Al ln cl,.slice PA pn pc] w (Eq.RetTurned T l w):=by
 obtain⟨i0,hi0,iz0,iz1,iz2⟩:=info_parts zDT;obtain⟨A2,c2,XA2,xc2,rfl,_⟩:=id hd;obtain⟨n2,hn2⟩:∃k,T.length=k:=⟨_,rfl⟩;obtain⟨xn2,hxn2⟩:∃k,E.length=k:=⟨_,rfl⟩;unfold zAX at hd ⊢;rw[hn2,hxn2]at hd ⊢;obtain⟨wa,hwa⟩:∃wa,w.alloc (.cells #[.slice A2 n2 c2,.slice XA2 xn2 xc2] 25)=wa:=⟨_,rfl⟩;have hba:Below w.heap.size w wa:=by rw[←hwa];exact (Below.refl _ _).alloc (Nat.le_refl _) _
 have hat:Rw.At wa w.heap.size 25 [.slice A2 n2 c2,.slice XA2 xn2 xc2]:=by rw[←hwa];exact Rw.At.new w 25 [.slice A2 n2 c2,.slice XA2 xn2 xc2]
 obtain⟨wb,hwb⟩:∃wb,wa.alloc (.cells #[] 3)=wb:=⟨_,rfl⟩;have hbw:Below wa.heap.size wa wb:=by rw[←hwb];exact (Below.refl _ _).alloc (Nat.le_refl _) _
 have how:wb.ownsRow wa.heap.size 3 1 (.slice (some ⟨wa.heap.size,0,none⟩) 0 0) 0 []:=by
  rw[←hwb];exact zDk wa 3 (by decide)
 have hda:=hd.below hba;have hlb:=(hA.below hba hba.size).below hbw hbw.size;have HPS:=hy' (hP.below hba hba.size);obtain⟨ZZ,hZZ⟩:∃z,Nf.chars T l=z:=⟨_,rfl⟩;have hzz:ZZ.length≤1024:=by rw[←hZZ,Nf.chars_len];exact zIc ok (by omega)
 have HRC:Hy (∀(A':Option Addr) (m c':Nat) (z:List Int) (W:World),Below wa.heap.size wa W→z.length=m→m≤1024→(∀c∈z,C.isC c=true)→Sl W W.heap.size A' (z.map (Value.int .i64))→Calls Tryz.prog 16 #[.agg #[.slice A2 n2 c2,.slice XA2 xn2 xc2],.slice A' m c'] W fun e w'=>∃A'' c'',e=.returned (.slice A'' (Nf.chars T z).length c'')∧w'.ownsRow W.heap.size 3 1 (.slice A'' (Nf.chars T z).length c'') (Nf.chars T z).length ((Nf.chars T z).map (Value.int .i64))∧Below W.heap.size W w'):=hy' fun A' m c' z W hW hz hm hc hs =>
  Nf.rchars_any _ T E A' m c' z W hTn ok.bd hml (fun c=>zAS ok c) (hda.below hW) hz (by omega) (fun x hx=>Nf.isC_i32 (hc x hx)) hs
 have HMP:Hy (∀(x:Int) (mp:List Int) (mn:Nat) W,Below wa.heap.size wa W→C.isC x=true→Md.mp T x=mp→mp.length=mn→Calls Tryz.prog 57 #[.agg #[.slice A2 n2 c2,.slice XA2 xn2 xc2],.int .i64 x] W fun e w'=>∃A' c',e=.returned (.slice A' mn c')∧Sl w' w'.heap.size A' (mp.map (Value.int .i64))∧Below W.heap.size W w'):=hy' fun x mp mn W hW hx h1 h2=>by
  have:=zIN _ T E x W (by omega) (hda.below hW) (Nf.isC_i32 hx).1 (Nf.isC_i32 hx).2;unfold RetInts at this;rw[h1,h2]at this;exact this
 have HCL:Hy (∀(x a:Int) W,Below wa.heap.size wa W→Md.cls T x=a→Calls Tryz.prog 21 #[.agg #[.slice A2 n2 c2,.slice XA2 xn2 xc2],.int .i64 x] W fun e w'=>e=.returned (.int .i64 a)∧Below W.heap.size W w'):=hy' fun x a W hW h1=>by
  have:=zFW _ T E x W (by omega) (hda.below hW);rw[h1]at this;exact this
 have HML:=hy' (zMf hml);have HWA:=hy' hwa;have HBA:=hy' hba;have HWB:=hy' hwb;have HOW:=hy' how;have HSL:=hy' hlb;have HAT:=hy' hat;have HPN:=hy' hp;have HOK:=hy' ok;have HZZ:=hy' hZZ;have HZL:=hy' hzz;have HLC:=hy' hlc;have HLN:=hy' hl;have HB0:=hy' hbw;have HLM:=hy' (show (l.map (Value.int .i64)).length=ln*1 by rw[List.length_map,hl];omega);have H1C:=hy' (zF8 .i64 l);have hzb:=hbw.size;have hpm:pn≤maxLen:=hpn;simp only[maxLen]at hpm;clear ok hTn hml hd hl hlc hA hp hpn hP hn2 hxn2 hwa hba hat hwb hbw how hda hlb hZZ hzz;go_enter Tryz.func28,Tryz.ntmps28;go_upto_region 1 with (fail)
 rw[HWA.o];go_upto_region 2 with (first|(at_builtin;(rw[HWB.o]);refine zAe _ rfl _ _ _ rfl wa.heap.size 3 i0 _ 1 8 Tryz.underlying23 hi0 iz0 iz1 iz2 rfl (by omega) _ 0 _ rfl HOW.o _ Al ln cl (l.map (Value.int .i64)) rfl HLM.o HSL.o H1C.o (by simp only[maxLen];omega) (by omega) hzb ?_;intro v2 q1 hown hb2 hg2)|fail)
 rw[List.nil_append,Nat.zero_add]at hown;obtain⟨A8,c8,rfl⟩:=zA3 hown;have HO8:=hy' hown;have HB8:=hy' (HB0.o.trans hb2);clear hown hb2 hg2;go_wp2_with fail;go_loopw [7,8] (fun vo vi wr=>∃(k zn:Nat) (Z:List Int) (A:Option Addr) (c:Nat),k≤pn∧k≤20∧vi=.int .i64 k∧vo=.slice A zn c∧Z.length=zn∧wr.ownsRow wa.heap.size 3 1 (.slice A zn c) zn (Z.map (Value.int .i64))∧Nf.chars T Z=ZZ∧(∀c∈Z,C.isC c=true)∧Below wa.heap.size wa wr) (fun _ vi _=>20-(intOf vi).toNat)
 case atStart=>exact⟨0,ln,l,A8,c8,Nat.zero_le _,Nat.zero_le _,rfl,rfl,HLN.o,HO8.o,HZZ.o,HLC.o,HB8.o⟩
 obtain⟨k,zn,Z,A,cp,hk1,hk2,rfl,rfl,hzn,hown,hch,hzc,hbr⟩:=hrel;obtain⟨q0,rfl⟩:∃q:World,q=wr:=⟨_,rfl⟩
 have hzl:zn≤1024:=by
  rw[←hzn];refine Nat.le_trans (zLu HOK.o Z) ?_;rw[←Nf.chars_len,hch];exact HZL.o
 have HZN:=hy' hzn;have HOWN:=hy' hown;have HCH:=hy' hch;have HZC:=hy' hzc;have HBR:=hy' hbr;have HUP:Hy (∀W,Below q0.heap.size q0 W→Below wa.heap.size wa W):=hy' fun W hW=>hbr.trans (hW.mono hbr.size)
 by_cases hgo:k<pn∧k<20∧0<zn
 rotate_left
 · have hcase:¬k<pn∨(k<pn∧¬k<20)∨(k<pn∧k<20∧¬0<zn):=by omega
   have HRET:Hy (Eq.RetTurned T l w (.returned (.slice A zn cp)) q0):=hy' ⟨Z,A,cp,by rw[hzn],by rw[hzn];exact zAR hown HBA.o.size,by rw[hch,HZZ.o],hzc,HBA.o.trans (hbr.mono HBA.o.size)⟩;clear hgo hzn hown hch hzc hbr;rcases hcase with g1|⟨g1,g2⟩|⟨g1,g2,g3⟩
   · go_wp2_with fail;go_ret;exact HRET.o
   · go_wp2_with fail;go_ret;exact HRET.o
   go_wp2_with fail;go_ret;exact HRET.o
 obtain⟨hkp,h20,h0z⟩:=hgo;obtain⟨z,hz⟩:∃z,P[k]?=some z:=⟨_,List.getElem?_eq_getElem (by rw[HPN.o];exact hkp)⟩;obtain⟨qb,qo,rfl,hqb,hqc⟩:=HPS.o (by rw[List.length_map,HPN.o];omega);have hc:=hqc k (by rw[List.length_map,HPN.o];exact hkp);rw[List.getElem?_map,hz,Option.map_some,←(zAQ hbr).1 _ _ hqb]at hc;have hqbr:=Nat.lt_of_lt_of_le hqb hbr.size;obtain⟨gb,go',rfl,hgb,hgc⟩:=(Sl.of_own hown) (by rw[List.length_map,hzn];omega);obtain⟨rfl,hg1,hg2,hg3⟩:=zFh hown;obtain⟨_,_,hcap,hcm⟩:=Nf.At.of_own hzn hown;have kQ:(k:Int)<pn:=by omega
 have k2:(k:Int)<20:=by omega
 have k0:(0:Int)≤k:=by omega
 have z1:(zn:Int) > 0:=by omega
 have HPICK:Hy (∀y:Int,∃j:Nat,j<zn∧Value.int .i64 ((wrap64 (y.tmod zn+zn)).tmod zn)=.int .i64 j):=hy' fun y=>by
  obtain⟨j,h1,h2⟩:=Tx.pick y h0z (show zn≤1000000 by omega);exact⟨j,h1,by rw[h2]⟩
 have HGC:=hy' hgc;have HHG:=hy' (And.intro hgb hg1);clear hz hqc hqb hzn hown hch hzc hbr hgc hg3 hg2 hg1;go_upto_region 5 with (fail)
 go_cut [9] (fun s wx=>(∃j:Nat,j<zn∧s=.int .i64 j)∧q0=wx)
 case first =>
  have m0:(zn:Int)≠0:=by omega
  go_wp2_with fail;go_meet;exact⟨HPICK.o _,rfl⟩
 case rest =>
 obtain⟨⟨j,hj,rfl⟩,rfl⟩:=hcut;obtain⟨x,hx⟩:∃x,Z[j]?=some x:=⟨_,List.getElem?_eq_getElem (by rw[HZN.o];exact hj)⟩;have hxc:=HZC.o x (List.mem_of_getElem? hx);have hcx:=HGC.o j (by rw[List.length_map,HZN.o];exact hj);rw[List.getElem?_map,hx,Option.map_some,Nat.zero_add]at hcx;obtain⟨ka,hka⟩:∃z,Z.take j=z:=⟨_,rfl⟩;obtain⟨kb,hkb⟩:∃z,Z.drop (j+1)=z:=⟨_,rfl⟩
 have hdj:Z.drop j=x::kb:=by
  obtain⟨h1,h2⟩:=List.getElem?_eq_some_iff.1 hx;rw[List.drop_eq_getElem_cons h1,h2,hkb]
 have hsp:Z=ka++x::kb:=by rw[←hdj,←hka,List.take_append_drop]
 have hkal:ka.length=j:=by rw[←hka,List.length_take,HZN.o];omega
 have hkbl:kb.length=zn-(j+1):=by rw[←hkb,List.length_drop,HZN.o]
 have hkac:∀c∈ka,C.isC c=true:=fun c hc=>HZC.o c (List.mem_of_mem_take (hka▸hc))
 have hkbc:∀c∈kb,C.isC c=true:=fun c hc=>HZC.o c (List.mem_of_mem_drop (hkb▸hc))
 have hsl:=HOWN.o
 have HSA:Hy (∀W,Below q0.heap.size q0 W→Sl W W.heap.size (some ⟨gb,0,none⟩) (ka.map (Value.int .i64))):=hy' fun W hW=>by
  rw[←hka,List.map_take];exact ((Sl.of_own hsl).below hW hW.size).takeN j
 have HSB:Hy (∀W,Below q0.heap.size q0 W→Sl W W.heap.size (some ⟨gb,j+1,none⟩) (kb.map (Value.int .i64))):=hy' fun W hW=>by
  have:=((Sl.of_own hsl).below hW hW.size).dropN (j+1);rw[Nat.zero_add]at this;rw[←hkb,List.map_drop];exact this
 have HSX:Hy (∀W,Below q0.heap.size q0 W→Sl W W.heap.size (some ⟨gb,j,none⟩) ((x::kb).map (Value.int .i64))):=hy' fun W hW=>by
  have:=((Sl.of_own hsl).below hW hW.size).dropN j;rw[Nat.zero_add]at this;rw[←hdj,List.map_drop];exact this
 have HT0:=hy' (HAT.o.below HBR.o)
 have HCF:Hy (∀W,Below q0.heap.size q0 W→(∀x:Stg.Later Stg.Ex W,x.val.cell? ⟨w.heap.size,0,none⟩=some (.slice A2 n2 c2))∧(∀x:Stg.Later Stg.Ex W,x.val.cell? ⟨w.heap.size,1,none⟩=some (.slice XA2 xn2 xc2))∧(∀u:Stg.Later Stg.Ex W,u.val.cell? ⟨gb,j,none⟩=some (.int .i64 x))):=hy' fun W hW =>
  have hT:=HT0.o.below hW
  ⟨Stg.cells (hT.cell 0 rfl) hT.lt,Stg.cells (hT.cell 1 rfl) hT.lt,Stg.cells (((zAQ hW).1 _ _ hgb).trans hcx) (Nat.lt_of_lt_of_le hgb hW.size)⟩
 have HX:=hy' hx;have HXC:=hy' hxc;have HSP:=hy' hsp;have HKA:=hy' hkal;have HKB:=hy' hkbl;have HKAC:=hy' hkac;have HKBC:=hy' hkbc;have HCX:=hy' hcx;have jI:(j:Int)<zn:=by omega
 have j0:(0:Int)≤j:=by omega
 have jc:(j:Int)≤cp:=by omega
 have jl:(j:Int)≤zn:=by omega
 obtain⟨md,hmd⟩:∃q,bits .and .i64 z 3=q:=⟨_,rfl⟩;clear hx hxc hcx hka hkb hdj hsp hkal hkbl hkac hkbc hsl
 by_cases hm0:md=0
 · subst hm0;obtain⟨mp,hmp⟩:∃q,Md.mp T x=q:=⟨_,rfl⟩;obtain⟨mn,hmn⟩:∃q,mp.length=q:=⟨_,rfl⟩;have hmnl:mn≤1000:=by rw[←hmn,←hmp];exact HML.o x
   have HMPE:=hy' hmp;have HMN:=hy' hmn;have HV0:=hy' (Below.refl q0.heap.size q0).drew;clear hmp hmn;go_upto_region 12 with (fail)
   clear hmd hc hqbr;refine Stg.wp_region (by kernel_rfl) Stg.Ex Stg.Ex.rel ?_;obtain⟨f0,f1,e0⟩:=HCF.o q0.drew HV0.o;refine Stg.read 0 (by kernel_rfl) q0.drew rfl ?_;intro K hK;go_big_quiet_op;go_big_quiet_on;iterate 3 (refine Stg.readW (by kernel_rfl) ?_;intro K hK;go_big_quiet_op;go_big_quiet_on)
   refine Stg.read 0 (by kernel_rfl) q0.drew rfl ?_;intro K hK;go_big_quiet_op;go_big_quiet_on;refine Stg.cl 57 _ _ rfl Tryz.func57 [.agg #[.slice A2 n2 c2,.slice XA2 xn2 xc2],.int .i64 x] rfl q0.drew _ (HMP.o x mp mn q0.drew (HUP.o _ HV0.o) HXC.o HMPE.o HMN.o) (by kernel_rfl) rfl ?_;rintro e v1 ⟨A9,c9,rfl,hs9,hb⟩;refine⟨_,rfl,hb,?_⟩;have HV1:=hy' (HV0.o.trans (hb.mono HV0.o.size));have HS9:=hy' hs9;clear hs9;clear hb;intro A' hA';simp only[Act.put,List.setIfInBounds_toArray,List.set_cons_succ,List.set_cons_zero]at hA';subst hA'
   refine Stg.readW (by kernel_rfl) ?_;intro K hK;go_big_quiet_op;go_big_quiet_on;clear f0 f1 e0;refine Stg.nil v1 rfl ?_;rcases Nat.eq_zero_or_pos mn with hm|hm
   · have nI:¬((mn:Int) > 0):=by omega
     have HO1:=hy' (zA4 HOWN.o HV1.o (Nat.le_refl _));go_wp2_with fail;go_roundw
     case rel=>exact⟨k+1,zn,Z,_,cp,by omega,by omega,by first|rfl|go_num,rfl,HZN.o,HO1.o,HCH.o,HZC.o,HUP.o _ HV1.o⟩
     simp[intOf];omega
   have nI:(mn:Int) > 0:=by omega
   have hmne:Md.mp T x≠[]:=fun e=>by
    have h1:=HMN.o;rw[←HMPE.o,e]at h1;simp at h1;omega
   have hch2:Nf.chars T (ka++(mp++kb))=ZZ:=by
    rw[←HMPE.o,zRR HOK.o ka kb hmne,←HSP.o];exact HCH.o
   have hlen:(ka++(mp++kb)).length=j+mn+(zn-(j+1)):=by
    rw[List.length_append,List.length_append,HKA.o,HMN.o,HKB.o];omega
   have hcc:∀c∈ka++(mp++kb),C.isC c=true:=fun c hc=>by
    rcases List.mem_append.1 hc with h|h
    · exact HKAC.o c h
    rcases List.mem_append.1 h with h|h
    · rw[←HMPE.o]at h;exact zSS HOK.o h
    exact HKBC.o c h
   have HC2:=hy' hch2;have HLEN:=hy' hlen;have HCC:=hy' hcc;have HLA:=hy' (show (ka.map (Value.int .i64)).length=j*1 by rw[List.length_map,HKA.o];omega);have H1A:=hy' (zF8 .i64 ka);have HLQ:=hy' (show (mp.map (Value.int .i64)).length=mn*1 by rw[List.length_map,HMN.o];omega);have H1Q:=hy' (zF8 .i64 mp);have H1B:=hy' (zF8 .i64 kb);have jc1:(j:Int)+1≤cp:=by omega
   have jl1:(j:Int)+1≤zn:=by omega
   have HX0:=hy' (Below.refl v1.heap.size v1).drew;have HUV:Hy (∀W,Below v1.heap.size v1 W→Below q0.heap.size q0 W):=hy' fun W hW=>HV1.o.trans (hW.mono HV1.o.size)
   clear hmne hch2 hlen hcc;rcases Nat.lt_or_ge (j+1) cp with hkc|hkc
   · have kne:¬cp=j+1:=by omega
     have HLB4:=hy' (show (kb.map (Value.int .i64)).length=(zn-(j+1))*1 by rw[List.length_map,HKB.o];omega);go_upto_region 14 with (fail)
     refine Stg.wp_region (by kernel_rfl) (Stg.Keep fun b=>b<v1.heap.size) (Stg.Keep.rel _) ?_;refine Stg.stepW (by kernel_rfl) v1.drew rfl ?_;intro K hK;go_simp;obtain⟨x1,hwd⟩:∃wd,(v1.alloc (.cells #[] 3)).drew=wd:=⟨_,rfl⟩;have hbd:Below v1.heap.size v1 x1:=by rw[←hwd];exact ((Below.refl _ _).alloc (Nat.le_refl _) _).drew
     have HOD:Hy (x1.ownsRow v1.heap.size 3 1 (.slice (some ⟨v1.heap.size,0,none⟩) 0 0) 0 []):=hy' (by rw[←hwd];exact zA4 (zDk v1 3 (by decide)) (Below.refl _ _).drew (Nat.le_refl _));have HX1:=hy' hbd;refine hK _ _ (fun q hq=>by rw[hwd];exact hbd.block q hq) ?_;rw[hwd];clear hbd hwd;intro A' hA';try simp only[Act.put,List.setIfInBounds_toArray,List.set_cons_succ,List.set_cons_zero]at hA'
     subst hA';iterate 3 (refine Stg.readW (by kernel_rfl) ?_;intro K hK;go_big_quiet_op;go_big_quiet_on)
     refine Stg.stepW (by kernel_rfl) x1 rfl ?_;intro K hK;have hsw:=hy' (HSA.o x1 (HUV.o _ HX1.o));refine zFM x1 _ _ _ rfl v1.heap.size 3 i0 _ 1 8 Tryz.underlying23 hi0 iz0 iz1 iz2 rfl (by omega) _ 0 _ rfl HOD.o _ (some ⟨gb,0,none⟩) j cp (ka.map (Value.int .i64)) rfl HLA.o hsw.o H1A.o (by simp only[maxLen];omega) (by omega) HX1.o.size ?_;intro v7 x2 hown hb hg;have HX2:=hy' (HX1.o.trans hb);refine hK _ _ (Stg.Keep.of_below hb (fun q hq=>hq)) ?_;rw[List.nil_append,Nat.zero_add]at hown;obtain⟨A_HOA,c_HOA,rfl⟩:=zA3 hown;have HOA:=hy' hown;clear hown hb hg hsw;intro A' hA';simp only[Act.put,List.setIfInBounds_toArray,List.set_cons_succ,List.set_cons_zero]at hA';subst hA';refine Stg.readW (by kernel_rfl) ?_;intro K hK;go_big_quiet_op;go_big_quiet_on;refine Stg.stepW (by kernel_rfl) x2 rfl ?_;intro K hK;have hsw:=hy' (HS9.o.below HX2.o HX2.o.size);refine zFM x2 _ _ _ rfl v1.heap.size 3 i0 _ 1 8 Tryz.underlying23 hi0 iz0 iz1 iz2 rfl (by omega) _ j _ rfl HOA.o _ A9 mn c9 (mp.map (Value.int .i64)) rfl HLQ.o hsw.o H1Q.o (by simp only[maxLen];omega) (by omega) HX2.o.size ?_;intro v7 x3 hown hb hg;have HX3:=hy' (HX2.o.trans hb);refine hK _ _ (Stg.Keep.of_below hb (fun q hq=>hq)) ?_;rw[←List.map_append]at hown;obtain⟨A_HOB,c_HOB,rfl⟩:=zA3 hown;have HOB:=hy' hown;clear hown hb hg hsw;intro A' hA';simp only[Act.put,List.setIfInBounds_toArray,List.set_cons_succ,List.set_cons_zero]at hA';subst hA';iterate 4 (refine Stg.readW (by kernel_rfl) ?_;intro K hK;go_big_quiet_op;go_big_quiet_on)
     refine Stg.stepW (by kernel_rfl) x3 rfl ?_;intro K hK;have hsw:=hy' (HSB.o x3 (HUV.o _ HX3.o));refine zFM x3 _ _ _ rfl v1.heap.size 3 i0 _ 1 8 Tryz.underlying23 hi0 iz0 iz1 iz2 rfl (by omega) _ (j+mn) _ rfl HOB.o _ (some ⟨gb,j+1,none⟩) (zn-(j+1)) (cp-(j+1)) (kb.map (Value.int .i64)) rfl HLB4.o hsw.o H1B.o (by simp only[maxLen];omega) (by omega) HX3.o.size ?_;intro v7 x4 hown hb hg;have HX4:=hy' (HX3.o.trans hb);refine hK _ _ (Stg.Keep.of_below hb (fun q hq=>hq)) ?_;rw[←List.map_append]at hown;obtain⟨A_HOC,c_HOC,rfl⟩:=zA3 hown;have HOC:=hy' hown;clear hown hb hg hsw;intro A' hA';simp only[Act.put,List.setIfInBounds_toArray,List.set_cons_succ,List.set_cons_zero]at hA';subst hA';refine Stg.readW (by kernel_rfl) ?_;intro K hK;go_big_quiet_op;go_big_quiet_on;refine Stg.nil x4 rfl ?_;have hfin:=zAR HOC.o (show wa.heap.size≤v1.heap.size from (HUP.o _ HV1.o).size);have HFIN:=hy' hfin;clear hfin;go_wp2_with fail;go_roundw
     case rel=>exact⟨k+1,_,ka++(mp++kb),_,_,by omega,by omega,by first|rfl|go_num,rfl,HLEN.o,by rw[←List.append_assoc];exact HFIN.o,HC2.o,HCC.o,HUP.o _ (HUV.o _ HX4.o)⟩
     simp[intOf];omega
   obtain rfl:cp=j+1:=by omega
   obtain rfl:zn=j+1:=by omega
   have hk0:kb=[]:=List.eq_nil_of_length_eq_zero (by rw[HKB.o];omega);have HSB4:Hy (∀W:World,Sl W W.heap.size (some ⟨gb,0,none⟩) (kb.map (Value.int .i64))):=hy' fun W=>by rw[hk0];exact Sl.nil _ _ _
   have HLB4:=hy' (show (kb.map (Value.int .i64)).length=0*1 by rw[hk0];rfl);clear hk0;go_upto_region 14 with (fail)
   refine Stg.wp_region (by kernel_rfl) (Stg.Keep fun b=>b<v1.heap.size) (Stg.Keep.rel _) ?_;refine Stg.stepW (by kernel_rfl) v1.drew rfl ?_;intro K hK;go_simp;obtain⟨x1,hwd⟩:∃wd,(v1.alloc (.cells #[] 3)).drew=wd:=⟨_,rfl⟩;have hbd:Below v1.heap.size v1 x1:=by rw[←hwd];exact ((Below.refl _ _).alloc (Nat.le_refl _) _).drew
   have HOD:Hy (x1.ownsRow v1.heap.size 3 1 (.slice (some ⟨v1.heap.size,0,none⟩) 0 0) 0 []):=hy' (by rw[←hwd];exact zA4 (zDk v1 3 (by decide)) (Below.refl _ _).drew (Nat.le_refl _));have HX1:=hy' hbd;refine hK _ _ (fun q hq=>by rw[hwd];exact hbd.block q hq) ?_;rw[hwd];clear hbd hwd;intro A' hA';try simp only[Act.put,List.setIfInBounds_toArray,List.set_cons_succ,List.set_cons_zero]at hA'
   subst hA';iterate 3 (refine Stg.readW (by kernel_rfl) ?_;intro K hK;go_big_quiet_op;go_big_quiet_on)
   refine Stg.stepW (by kernel_rfl) x1 rfl ?_;intro K hK;have hsw:=hy' (HSA.o x1 (HUV.o _ HX1.o));refine zFM x1 _ _ _ rfl v1.heap.size 3 i0 _ 1 8 Tryz.underlying23 hi0 iz0 iz1 iz2 rfl (by omega) _ 0 _ rfl HOD.o _ (some ⟨gb,0,none⟩) j (j+1) (ka.map (Value.int .i64)) rfl HLA.o hsw.o H1A.o (by simp only[maxLen];omega) (by omega) HX1.o.size ?_;intro v7 x2 hown hb hg;have HX2:=hy' (HX1.o.trans hb);refine hK _ _ (Stg.Keep.of_below hb (fun q hq=>hq)) ?_;rw[List.nil_append,Nat.zero_add]at hown;obtain⟨A_HOA,c_HOA,rfl⟩:=zA3 hown;have HOA:=hy' hown;clear hown hb hg hsw;intro A' hA';simp only[Act.put,List.setIfInBounds_toArray,List.set_cons_succ,List.set_cons_zero]at hA';subst hA';refine Stg.readW (by kernel_rfl) ?_;intro K hK;go_big_quiet_op;go_big_quiet_on;refine Stg.stepW (by kernel_rfl) x2 rfl ?_;intro K hK;have hsw:=hy' (HS9.o.below HX2.o HX2.o.size);refine zFM x2 _ _ _ rfl v1.heap.size 3 i0 _ 1 8 Tryz.underlying23 hi0 iz0 iz1 iz2 rfl (by omega) _ j _ rfl HOA.o _ A9 mn c9 (mp.map (Value.int .i64)) rfl HLQ.o hsw.o H1Q.o (by simp only[maxLen];omega) (by omega) HX2.o.size ?_;intro v7 x3 hown hb hg;have HX3:=hy' (HX2.o.trans hb);refine hK _ _ (Stg.Keep.of_below hb (fun q hq=>hq)) ?_;rw[←List.map_append]at hown;obtain⟨A_HOB,c_HOB,rfl⟩:=zA3 hown;have HOB:=hy' hown;clear hown hb hg hsw;intro A' hA';simp only[Act.put,List.setIfInBounds_toArray,List.set_cons_succ,List.set_cons_zero]at hA';subst hA';iterate 4 (refine Stg.readW (by kernel_rfl) ?_;intro K hK;go_big_quiet_op;go_big_quiet_on)
   refine Stg.stepW (by kernel_rfl) x3 rfl ?_;intro K hK;have hsw:=hy' (HSB4.o x3);refine zFM x3 _ _ _ rfl v1.heap.size 3 i0 _ 1 8 Tryz.underlying23 hi0 iz0 iz1 iz2 rfl (by omega) _ (j+mn) _ rfl HOB.o _ (some ⟨gb,0,none⟩) 0 0 (kb.map (Value.int .i64)) rfl HLB4.o hsw.o H1B.o (by simp only[maxLen];omega) (by omega) HX3.o.size ?_;intro v7 x4 hown hb hg;have HX4:=hy' (HX3.o.trans hb);refine hK _ _ (Stg.Keep.of_below hb (fun q hq=>hq)) ?_;rw[←List.map_append]at hown;obtain⟨A_HOC,c_HOC,rfl⟩:=zA3 hown;have HOC:=hy' hown;clear hown hb hg hsw;intro A' hA';simp only[Act.put,List.setIfInBounds_toArray,List.set_cons_succ,List.set_cons_zero]at hA';subst hA';refine Stg.readW (by kernel_rfl) ?_;intro K hK;go_big_quiet_op;go_big_quiet_on;refine Stg.nil x4 rfl ?_;have hfin:=zAR HOC.o (show wa.heap.size≤v1.heap.size from (HUP.o _ HV1.o).size);have HFIN:=hy' hfin;clear hfin;go_wp2_with fail;go_roundw
   case rel=>exact⟨k+1,_,ka++(mp++kb),_,_,by omega,by omega,by first|rfl|go_num,rfl,by rw[HLEN.o,Nat.sub_self],by rw[←List.append_assoc];exact HFIN.o,HC2.o,HCC.o,HUP.o _ (HUV.o _ HX4.o)⟩
   simp[intOf];omega
 have m0b:(md == 0)=false:=by simpa using hm0
 by_cases hm1:md=1
 · subst hm1;obtain⟨R,hR⟩:∃q,Nf.chars T ka=q:=⟨_,rfl⟩;obtain⟨rn,hrn⟩:∃q,R.length=q:=⟨_,rfl⟩;have hch2:Nf.chars T (R++(x::kb))=ZZ:=by rw[←hR,zJC HOK.o,←HSP.o];exact HCH.o
   have hlen:(R++(x::kb)).length=rn+(zn-j):=by
    rw[List.length_append,List.length_cons,hrn,HKB.o];omega
   have hbl:rn+(zn-j)≤1024:=by
    rw[←hlen];refine Nat.le_trans (zLu HOK.o _) ?_;rw[←Nf.chars_len,hch2];exact HZL.o
   have hcc:∀c∈R++(x::kb),C.isC c=true:=fun c hc=>by
    rcases List.mem_append.1 hc with h|h
    · rw[←hR]at h;exact Nf.chars_isC HOK.o HKAC.o c h
    exact HZC.o c (by rw[HSP.o];exact List.mem_append_right _ h)
   have HC2:=hy' hch2;have HLEN:=hy' hlen;have HCC:=hy' hcc;have hrc:=HRC.o (some ⟨gb,0,none⟩) j cp ka;rw[hR,hrn]at hrc;have HRCA:=hy' (fun W (hW:Below q0.heap.size q0 W)=>hrc W (HUP.o W hW) HKA.o (by omega) HKAC.o (HSA.o W hW))
   have HCK:Hy (∀W,Below q0.heap.size q0 W→(∀x:Stg.Later (Stg.Keep fun b=>b<q0.heap.size) W,x.val.cell? ⟨w.heap.size,0,none⟩=some (.slice A2 n2 c2))∧(∀x:Stg.Later (Stg.Keep fun b=>b<q0.heap.size) W,x.val.cell? ⟨w.heap.size,1,none⟩=some (.slice XA2 xn2 xc2))):=hy' fun W hW =>
    have hT:=HT0.o.below hW
    ⟨Stg.Keep.cells (hT.cell 0 rfl) HT0.o.lt,Stg.Keep.cells (hT.cell 1 rfl) HT0.o.lt⟩
   have HX0:=hy' (Below.refl q0.heap.size q0).drew;have HLX:=hy' (show ((x::kb).map (Value.int .i64)).length=(zn-j)*1 by rw[List.length_map,List.length_cons,HKB.o];omega);have H1X:=hy' (zF8 .i64 (x::kb));have kne:¬cp=j:=by omega
   clear hR hrn hch2 hlen hcc hrc m0b hm0;go_upto_region 16 with (fail)
   clear hmd hc hqbr;refine Stg.wp_region (by kernel_rfl) (Stg.Keep fun b=>b<q0.heap.size) (Stg.Keep.rel _) ?_;obtain⟨f0,f1⟩:=HCK.o q0.drew HX0.o;refine Stg.read 0 (by kernel_rfl) q0.drew rfl ?_;intro K hK;go_big_quiet_op;go_big_quiet_on;iterate 3 (refine Stg.readW (by kernel_rfl) ?_;intro K hK;go_big_quiet_op;go_big_quiet_on)
   refine Stg.cl 16 _ _ rfl Tryz.func16 [.agg #[.slice A2 n2 c2,.slice XA2 xn2 xc2],.slice (some ⟨gb,0,none⟩) j cp] rfl q0.drew _ (HRCA.o q0.drew HX0.o) (by kernel_rfl) rfl ?_;rintro e x1 ⟨A6,c6,rfl,ho6,hb⟩;refine⟨_,rfl,(Stg.Keep.of_below hb (fun q hq=>Nat.lt_of_lt_of_le hq HX0.o.size)),?_⟩;have HX1:=hy' (HX0.o.trans (hb.mono HX0.o.size));have HO6:=hy' (zAR ho6 HX0.o.size);clear ho6;clear hb;intro A' hA';simp only[Act.put,List.setIfInBounds_toArray,List.set_cons_succ,List.set_cons_zero]at hA';subst hA'
   iterate 3 (refine Stg.readW (by kernel_rfl) ?_;intro K hK;go_big_quiet_op;go_big_quiet_on)
   refine Stg.stepW (by kernel_rfl) x1 rfl ?_;intro K hK;have HSXW:=hy' (HSX.o x1 HX1.o);refine zFM x1 _ _ _ rfl q0.heap.size 3 i0 _ 1 8 Tryz.underlying23 hi0 iz0 iz1 iz2 rfl (by omega) _ rn _ rfl HO6.o _ (some ⟨gb,j,none⟩) (zn-j) (cp-j) ((x::kb).map (Value.int .i64)) rfl HLX.o HSXW.o H1X.o (by simp only[maxLen];omega) (by omega) HX1.o.size ?_;intro v7 x2 hown hb hg;have HX2:=hy' (HX1.o.trans hb);refine hK _ _ (Stg.Keep.of_below hb (fun q hq=>hq)) ?_;rw[←List.map_append]at hown;obtain⟨A7',c7',rfl⟩:=zA3 hown;have HO7:=hy' hown;clear hown hb hg;intro A' hA';simp only[Act.put,List.setIfInBounds_toArray,List.set_cons_succ,List.set_cons_zero]at hA';subst hA';refine Stg.readW (by kernel_rfl) ?_;intro K hK;go_big_quiet_op;go_big_quiet_on;clear f0 f1;refine Stg.nil x2 rfl ?_;have HFIN:=hy' (zAR HO7.o (show wa.heap.size≤q0.heap.size from HBR.o.size));go_wp2_with fail;go_roundw
   case rel=>exact⟨k+1,_,R++(x::kb),_,_,by omega,by omega,by first|rfl|go_num,rfl,HLEN.o,HFIN.o,HC2.o,HCC.o,HUP.o _ HX2.o⟩
   simp[intOf];omega
 have m1b:(md == 1)=false:=by simpa using hm1
 by_cases hj1:j+1<zn
 rotate_left
 · have jge:(j:Int)+1≥zn:=by omega
   clear hm0 hm1;go_wp2_with fail;go_roundw
   case rel=>exact⟨k+1,zn,Z,_,cp,by omega,by omega,by first|rfl|go_num,rfl,HZN.o,HOWN.o,HCH.o,HZC.o,HBR.o⟩
   simp[intOf];omega
 obtain⟨y,hy⟩:∃y,Z[j+1]?=some y:=⟨_,List.getElem?_eq_getElem (by rw[HZN.o];exact hj1)⟩;have hyc:=HZC.o y (List.mem_of_getElem? hy);have hcy:=HGC.o (j+1) (by rw[List.length_map,HZN.o];exact hj1);rw[List.getElem?_map,hy,Option.map_some,Nat.zero_add]at hcy
 obtain⟨kc,hkc⟩:∃q,kb=y::q:=by
  obtain⟨h3,h4⟩:=List.getElem?_eq_some_iff.1 hy;have h5:=congrArg (List.drop (j+1)) HSP.o;rw[List.drop_eq_getElem_cons h3,h4]at h5
  have h6:(ka++x::kb).drop (j+1)=kb:=by
   rw[List.drop_append,HKA.o,List.drop_eq_nil_of_le (by rw[HKA.o];omega),show j+1-j=1 by omega];rfl
  rw[h6]at h5;exact⟨_,h5.symm⟩
 have HCG:Hy (∀W,Below q0.heap.size q0 W→(∀x:Stg.Later Stg.Ex W,x.val.cell? ⟨w.heap.size,0,none⟩=some (.slice A2 n2 c2))∧(∀x:Stg.Later Stg.Ex W,x.val.cell? ⟨w.heap.size,1,none⟩=some (.slice XA2 xn2 xc2))∧(∀u:Stg.Later Stg.Ex W,u.val.cell? ⟨gb,j,none⟩=some (.int .i64 x))∧(∀u:Stg.Later Stg.Ex W,u.val.cell? ⟨gb,j+1,none⟩=some (.int .i64 y))):=hy' fun W hW =>
  have hT:=HCF.o W hW
  ⟨hT.1,hT.2.1,hT.2.2,Stg.cells (((zAQ hW).1 _ _ hgb).trans hcy) (Nat.lt_of_lt_of_le hgb hW.size)⟩
 obtain⟨a,ha⟩:∃a,Md.cls T x=a:=⟨_,rfl⟩;obtain⟨b,hb⟩:∃b,Md.cls T y=b:=⟨_,rfl⟩;have HAE:=hy' ha;have HBE:=hy' hb;have HYC:=hy' hyc;have HCY:=hy' hcy;have HKC:=hy' hkc;have jI1:(j:Int)+1<zn:=by omega
 have jge:¬((j:Int)+1≥zn):=by omega
 have HV0:=hy' (Below.refl q0.heap.size q0).drew;clear hy hyc hcy hkc ha hb hm0 hm1;go_upto_region 8 with (fail)
 clear hmd hc hqbr m0b m1b;refine Stg.wp_region (by kernel_rfl) Stg.Ex Stg.Ex.rel ?_;obtain⟨f0,f1,e0,e1⟩:=HCG.o q0.drew HV0.o;refine Stg.read 0 (by kernel_rfl) q0.drew rfl ?_;intro K hK;go_big_quiet_op;go_big_quiet_on;iterate 3 (refine Stg.readW (by kernel_rfl) ?_;intro K hK;go_big_quiet_op;go_big_quiet_on)
 refine Stg.read 0 (by kernel_rfl) q0.drew rfl ?_;intro K hK;go_big_quiet_op;go_big_quiet_on;refine Stg.cl 21 _ _ rfl Tryz.func21 [.agg #[.slice A2 n2 c2,.slice XA2 xn2 xc2],.int .i64 x] rfl q0.drew _ (HCL.o x a q0.drew (HUP.o _ HV0.o) HAE.o) (by kernel_rfl) rfl ?_;rintro e v1 ⟨rfl,hb⟩;refine⟨_,rfl,hb,?_⟩;have HV1:=hy' (HV0.o.trans (hb.mono HV0.o.size));clear hb;intro A' hA';simp only[Act.put,List.setIfInBounds_toArray,List.set_cons_succ,List.set_cons_zero]at hA';subst hA'
 refine Stg.read 1 (by kernel_rfl) q0.drew rfl ?_;intro K hK;go_big_quiet_op;go_big_quiet_on;iterate 4 (refine Stg.readW (by kernel_rfl) ?_;intro K hK;go_big_quiet_op;go_big_quiet_on)
 refine Stg.read 1 (by kernel_rfl) q0.drew rfl ?_;intro K hK;go_big_quiet_op;go_big_quiet_on;refine Stg.cl 21 _ _ rfl Tryz.func21 [.agg #[.slice A2 n2 c2,.slice XA2 xn2 xc2],.int .i64 y] rfl v1 _ (HCL.o y b v1 (HUP.o _ HV1.o) HBE.o) (by kernel_rfl) rfl ?_;rintro e v2 ⟨rfl,hb⟩;refine⟨_,rfl,hb,?_⟩;have HV2:=hy' (HV1.o.trans (hb.mono HV1.o.size));clear hb;intro A' hA';simp only[Act.put,List.setIfInBounds_toArray,List.set_cons_succ,List.set_cons_zero]at hA';subst hA'
 iterate 2 (refine Stg.readW (by kernel_rfl) ?_;intro K hK;go_big_quiet_op;go_big_quiet_on)
 clear f0 f1 e0 e1;refine Stg.nil v2 rfl ?_;have HW2:=hy' HV2.o;clear HV2;go_upto_region 9 with (fail)
 go_cut [99] (fun s wx=>∃bb,s=.bool bb∧(bb=true→0<a∧0<b∧a≠b∧Md.mp T x=[]∧Md.mp T y=[])∧Below q0.heap.size q0 wx)
 case rest =>
  obtain⟨bb,rfl,hbt,hbc⟩:=hcut;obtain⟨q3,rfl⟩:∃q:World,q=wc:=⟨_,rfl⟩;have HQ3:=hy' hbc;have HO3:=hy' (zA4 HOWN.o hbc (Nat.le_refl _));rcases bb with _|_
  · clear hbt hbc;go_wp2_with fail;go_roundw
    case rel=>exact⟨k+1,zn,Z,_,cp,by omega,by omega,by first|rfl|go_num,rfl,HZN.o,HO3.o,HCH.o,HZC.o,HUP.o _ HQ3.o⟩
    simp[intOf];omega
  obtain⟨g1,g2,g3,g4,g5⟩:=hbt rfl;have hcx:=((zAQ hbc).1 _ j hgb).trans HCX.o;have hcy:=((zAQ hbc).1 _ (j+1) hgb).trans HCY.o;have hgq:=Nat.lt_of_lt_of_le hgb hbc.size;have fz:q3.frozen? ⟨gb,j,none⟩=false:=(zFh HO3.o).2.2.2 j;have fz1:q3.frozen? ⟨gb,j+1,none⟩=false:=(zFh HO3.o).2.2.2 (j+1);have hzs:Z=ka++x::y::kc:=by rw[HSP.o,HKC.o]
  have hch2:Nf.chars T (ka++y::x::kc)=ZZ:=by
   rw[zRL HOK.o ka kc (by rw[HAE.o];exact g1) (by rw[HBE.o];exact g2) (by rw[HAE.o,HBE.o];exact g3) g4 g5,←hzs];exact HCH.o
  have hlen:(ka++y::x::kc).length=zn:=by
   have:=HZN.o;rw[hzs]at this;simpa using this
  have hcc:∀c∈ka++y::x::kc,C.isC c=true:=fun c hc=>by
   refine HZC.o c ?_;rw[hzs];simp only[List.mem_append,List.mem_cons]at hc ⊢;rcases hc with h|h|h|h
   · exact .inl h
   · exact .inr (.inr (.inl h))
   · exact .inr (.inl h)
   exact .inr (.inr (.inr h))
  have HZS:=hy' hzs;have HC2:=hy' hch2;have HLEN:=hy' hlen;have HCC:=hy' hcc;clear hbt hbc g1 g2 g3 g4 g5 hzs hch2 hlen hcc;go_upto_region 10 with (fail)
  go_region;go_wp2_with fail;obtain⟨hN,hN2,hN3,hN4⟩:=Nf.At.of_own (l:=Z) HZN.o HO3.o;rw[HZS.o]at hN;have hS:=hN.swap;rw[HKA.o]at hS;have hO:=hS.own HLEN.o hN2 hN3 hN4;go_roundw
  case rel=>exact⟨k+1,zn,ka++y::x::kc,_,cp,by omega,by omega,by first|rfl|go_num,rfl,HLEN.o,hO,HC2.o,HCC.o,(((HUP.o _ HQ3.o).setCell (p:=⟨gb,j,none⟩) HHG.o.2 _).setCell (p:=⟨gb,j+1,none⟩) HHG.o.2 _).drew⟩
  simp[intOf];omega
 obtain⟨mp,hmp⟩:∃q,Md.mp T x=q:=⟨_,rfl⟩;obtain⟨mn,hmn⟩:∃q,mp.length=q:=⟨_,rfl⟩;obtain⟨mq,hmq⟩:∃q,Md.mp T y=q:=⟨_,rfl⟩;obtain⟨mk,hmk⟩:∃q,mq.length=q:=⟨_,rfl⟩;have hmnl:mn≤1000:=by rw[←hmn,←hmp];exact HML.o x
 have hmkl:mk≤1000:=by rw[←hmk,←hmq];exact HML.o y
 have HMPE:=hy' hmp;have HMN:=hy' hmn;have HMQE:=hy' hmq;have HMK:=hy' hmk;clear hmp hmn hmq hmk
 by_cases g1:0<a
 case neg =>
  go_quiet (fail)
  try go_wp2_with fail
  go_meet;exact⟨false,by first|rfl|simp,fun e=>absurd e (by decide),by first|exact below_drewN HW2.o _|exact HW2.o.drew|exact HW2.o⟩
 by_cases g2:0<b
 case neg =>
  go_quiet (fail)
  try go_wp2_with fail
  go_meet;exact⟨false,by first|rfl|simp,fun e=>absurd e (by decide),by first|exact below_drewN HW2.o _|exact HW2.o.drew|exact HW2.o⟩
 by_cases h3:a=b
 case pos =>
  have h4:(a != b)=false:=by simp[h3]
  clear h3;go_quiet (fail)
  try go_wp2_with fail
  go_meet;exact⟨false,by first|rfl|simp,fun e=>absurd e (by decide),by first|exact below_drewN HW2.o _|exact HW2.o.drew|exact HW2.o⟩
 have h4:(a != b)=true:=by simpa using h3
 have H3:=hy' h3;clear h3;have HU0:=hy' HW2.o.drew;rcases Nat.eq_zero_or_pos mn with hm|hm
 · subst hm;refine Stg.wp_region (by kernel_rfl) Stg.Ex Stg.Ex.rel ?_;iterate 12 (refine Stg.readW (by kernel_rfl) ?_;intro K hK;go_big_quiet_op;go_big_quiet_on)
   obtain⟨f0,f1,e0,e1⟩:=HCG.o v2.drew HU0.o;refine Stg.read 0 (by kernel_rfl) v2.drew rfl ?_;intro K hK;go_big_quiet_op;go_big_quiet_on;iterate 3 (refine Stg.readW (by kernel_rfl) ?_;intro K hK;go_big_quiet_op;go_big_quiet_on)
   refine Stg.read 0 (by kernel_rfl) v2.drew rfl ?_;intro K hK;go_big_quiet_op;go_big_quiet_on;refine Stg.cl 57 _ _ rfl Tryz.func57 [.agg #[.slice A2 n2 c2,.slice XA2 xn2 xc2],.int .i64 x] rfl v2.drew _ (HMP.o x mp 0 v2.drew (HUP.o _ HU0.o) HXC.o HMPE.o HMN.o) (by kernel_rfl) rfl ?_;rintro e u1 ⟨A9,c9,rfl,hs9,hb⟩;refine⟨_,rfl,hb,?_⟩;have HU1:=hy' (HU0.o.trans (hb.mono HU0.o.size));clear hs9;clear hb;intro A' hA';simp only[Act.put,List.setIfInBounds_toArray,List.set_cons_succ,List.set_cons_zero]at hA';subst hA'
   iterate 4 (refine Stg.readW (by kernel_rfl) ?_;intro K hK;go_big_quiet_op;go_big_quiet_on)
   clear f0 f1 e0 e1;obtain⟨f0,f1,e0,e1⟩:=HCG.o u1 HU1.o;refine Stg.read 0 (by kernel_rfl) u1 rfl ?_;intro K hK;go_big_quiet_op;go_big_quiet_on;iterate 4 (refine Stg.readW (by kernel_rfl) ?_;intro K hK;go_big_quiet_op;go_big_quiet_on)
   refine Stg.read 0 (by kernel_rfl) u1 rfl ?_;intro K hK;go_big_quiet_op;go_big_quiet_on;refine Stg.cl 57 _ _ rfl Tryz.func57 [.agg #[.slice A2 n2 c2,.slice XA2 xn2 xc2],.int .i64 y] rfl u1 _ (HMP.o y mq mk u1 (HUP.o _ HU1.o) HYC.o HMQE.o HMK.o) (by kernel_rfl) rfl ?_;rintro e u2 ⟨A10,c10,rfl,hs10,hb⟩;refine⟨_,rfl,hb,?_⟩;have HU2:=hy' (HU1.o.trans (hb.mono HU1.o.size));clear hs10;clear hb;intro A' hA';simp only[Act.put,List.setIfInBounds_toArray,List.set_cons_succ,List.set_cons_zero]at hA';subst hA'
   iterate 3 (refine Stg.readW (by kernel_rfl) ?_;intro K hK;go_big_quiet_op;go_big_quiet_on)
   clear f0 f1 e0 e1;refine Stg.nil u2 rfl ?_
   try go_wp2_with fail
   go_meet;refine⟨((mk:Int) == 0),by first|rfl|simp,fun e=>⟨g1,g2,H3.o,by rw[HMPE.o];exact List.eq_nil_of_length_eq_zero HMN.o,by rw[HMQE.o];refine List.eq_nil_of_length_eq_zero ?_;rw[HMK.o];have:=beq_iff_eq.1 e;omega⟩,HU2.o⟩
 have hm2:mn=1∨mn=2:=by
  have h1:=Md.mp_le2 HOK.o x;rw[HMPE.o,HMN.o]at h1;omega
 rcases hm2 with rfl|rfl
 · skip
   refine Stg.wp_region (by kernel_rfl) Stg.Ex Stg.Ex.rel ?_;iterate 12 (refine Stg.readW (by kernel_rfl) ?_;intro K hK;go_big_quiet_op;go_big_quiet_on)
   obtain⟨f0,f1,e0,e1⟩:=HCG.o v2.drew HU0.o;refine Stg.read 0 (by kernel_rfl) v2.drew rfl ?_;intro K hK;go_big_quiet_op;go_big_quiet_on;iterate 3 (refine Stg.readW (by kernel_rfl) ?_;intro K hK;go_big_quiet_op;go_big_quiet_on)
   refine Stg.read 0 (by kernel_rfl) v2.drew rfl ?_;intro K hK;go_big_quiet_op;go_big_quiet_on;refine Stg.cl 57 _ _ rfl Tryz.func57 [.agg #[.slice A2 n2 c2,.slice XA2 xn2 xc2],.int .i64 x] rfl v2.drew _ (HMP.o x mp 1 v2.drew (HUP.o _ HU0.o) HXC.o HMPE.o HMN.o) (by kernel_rfl) rfl ?_;rintro e u1 ⟨A9,c9,rfl,hs9,hb⟩;refine⟨_,rfl,hb,?_⟩;have HU1:=hy' (HU0.o.trans (hb.mono HU0.o.size));clear hs9;clear hb;intro A' hA';simp only[Act.put,List.setIfInBounds_toArray,List.set_cons_succ,List.set_cons_zero]at hA';subst hA'
   iterate 4 (refine Stg.readW (by kernel_rfl) ?_;intro K hK;go_big_quiet_op;go_big_quiet_on)
   have hkk:(0:Nat)=0:=rfl;clear hkk;refine Stg.skip ?_ ?_;kernel_rfl;intro A' hA';simp only[Act.put,List.setIfInBounds_toArray,List.set_cons_succ,List.set_cons_zero]at hA';subst hA';have hkk:(0:Nat)=0:=rfl;clear hkk;refine Stg.skip ?_ ?_;kernel_rfl;intro A' hA';simp only[Act.put,List.setIfInBounds_toArray,List.set_cons_succ,List.set_cons_zero]at hA';subst hA';have hkk:(0:Nat)=0:=rfl;clear hkk;refine Stg.skip ?_ ?_;kernel_rfl;intro A' hA';simp only[Act.put,List.setIfInBounds_toArray,List.set_cons_succ,List.set_cons_zero]at hA';subst hA';have hkk:(0:Nat)=0:=rfl;clear hkk;refine Stg.skip ?_ ?_;kernel_rfl;intro A' hA';simp only[Act.put,List.setIfInBounds_toArray,List.set_cons_succ,List.set_cons_zero]at hA';subst hA';have hkk:(0:Nat)=0:=rfl;clear hkk;refine Stg.skip ?_ ?_;kernel_rfl;intro A' hA';simp only[Act.put,List.setIfInBounds_toArray,List.set_cons_succ,List.set_cons_zero]at hA';subst hA';have hkk:(0:Nat)=0:=rfl;clear hkk;refine Stg.skip ?_ ?_;kernel_rfl;intro A' hA';simp only[Act.put,List.setIfInBounds_toArray,List.set_cons_succ,List.set_cons_zero]at hA';subst hA';have hkk:(0:Nat)=0:=rfl;clear hkk;refine Stg.skipStep ?_ u1 rfl ?_;kernel_rfl;intro A' hA';simp only[Act.put,List.setIfInBounds_toArray,List.set_cons_succ,List.set_cons_zero]at hA';subst hA';have hkk:(0:Nat)=0:=rfl;clear hkk;refine Stg.skip ?_ ?_;kernel_rfl;intro A' hA';simp only[Act.put,List.setIfInBounds_toArray,List.set_cons_succ,List.set_cons_zero]at hA';subst hA';have hkk:(0:Nat)=0:=rfl;clear hkk;refine Stg.skip ?_ ?_;kernel_rfl;intro A' hA';simp only[Act.put,List.setIfInBounds_toArray,List.set_cons_succ,List.set_cons_zero]at hA';subst hA';refine Stg.readW (by kernel_rfl) ?_;intro K hK;go_big_quiet_op;go_big_quiet_on;clear f0 f1 e0 e1;refine Stg.nil u1 rfl ?_
   try go_wp2_with fail
   go_meet;exact⟨false,by first|rfl|simp,fun e=>absurd e (by decide),HU1.o⟩
 skip
 refine Stg.wp_region (by kernel_rfl) Stg.Ex Stg.Ex.rel ?_;iterate 12 (refine Stg.readW (by kernel_rfl) ?_;intro K hK;go_big_quiet_op;go_big_quiet_on)
 obtain⟨f0,f1,e0,e1⟩:=HCG.o v2.drew HU0.o;refine Stg.read 0 (by kernel_rfl) v2.drew rfl ?_;intro K hK;go_big_quiet_op;go_big_quiet_on;iterate 3 (refine Stg.readW (by kernel_rfl) ?_;intro K hK;go_big_quiet_op;go_big_quiet_on)
 refine Stg.read 0 (by kernel_rfl) v2.drew rfl ?_;intro K hK;go_big_quiet_op;go_big_quiet_on;refine Stg.cl 57 _ _ rfl Tryz.func57 [.agg #[.slice A2 n2 c2,.slice XA2 xn2 xc2],.int .i64 x] rfl v2.drew _ (HMP.o x mp 2 v2.drew (HUP.o _ HU0.o) HXC.o HMPE.o HMN.o) (by kernel_rfl) rfl ?_;rintro e u1 ⟨A9,c9,rfl,hs9,hb⟩;refine⟨_,rfl,hb,?_⟩;have HU1:=hy' (HU0.o.trans (hb.mono HU0.o.size));clear hs9;clear hb;intro A' hA';simp only[Act.put,List.setIfInBounds_toArray,List.set_cons_succ,List.set_cons_zero]at hA';subst hA'
 iterate 4 (refine Stg.readW (by kernel_rfl) ?_;intro K hK;go_big_quiet_op;go_big_quiet_on)
 have hkk:(0:Nat)=0:=rfl;clear hkk;refine Stg.skip ?_ ?_;kernel_rfl;intro A' hA';simp only[Act.put,List.setIfInBounds_toArray,List.set_cons_succ,List.set_cons_zero]at hA';subst hA';have hkk:(0:Nat)=0:=rfl;clear hkk;refine Stg.skip ?_ ?_;kernel_rfl;intro A' hA';simp only[Act.put,List.setIfInBounds_toArray,List.set_cons_succ,List.set_cons_zero]at hA';subst hA';have hkk:(0:Nat)=0:=rfl;clear hkk;refine Stg.skip ?_ ?_;kernel_rfl;intro A' hA';simp only[Act.put,List.setIfInBounds_toArray,List.set_cons_succ,List.set_cons_zero]at hA';subst hA';have hkk:(0:Nat)=0:=rfl;clear hkk;refine Stg.skip ?_ ?_;kernel_rfl;intro A' hA';simp only[Act.put,List.setIfInBounds_toArray,List.set_cons_succ,List.set_cons_zero]at hA';subst hA';have hkk:(0:Nat)=0:=rfl;clear hkk;refine Stg.skip ?_ ?_;kernel_rfl;intro A' hA';simp only[Act.put,List.setIfInBounds_toArray,List.set_cons_succ,List.set_cons_zero]at hA';subst hA';have hkk:(0:Nat)=0:=rfl;clear hkk;refine Stg.skip ?_ ?_;kernel_rfl;intro A' hA';simp only[Act.put,List.setIfInBounds_toArray,List.set_cons_succ,List.set_cons_zero]at hA';subst hA';have hkk:(0:Nat)=0:=rfl;clear hkk;refine Stg.skipStep ?_ u1 rfl ?_;kernel_rfl;intro A' hA';simp only[Act.put,List.setIfInBounds_toArray,List.set_cons_succ,List.set_cons_zero]at hA';subst hA';have hkk:(0:Nat)=0:=rfl;clear hkk;refine Stg.skip ?_ ?_;kernel_rfl;intro A' hA';simp only[Act.put,List.setIfInBounds_toArray,List.set_cons_succ,List.set_cons_zero]at hA';subst hA';have hkk:(0:Nat)=0:=rfl;clear hkk;refine Stg.skip ?_ ?_;kernel_rfl;intro A' hA';simp only[Act.put,List.setIfInBounds_toArray,List.set_cons_succ,List.set_cons_zero]at hA';subst hA';refine Stg.readW (by kernel_rfl) ?_;intro K hK;go_big_quiet_op;go_big_quiet_on;clear f0 f1 e0 e1;refine Stg.nil u1 rfl ?_
 try go_wp2_with fail
 go_meet;exact⟨false,by first|rfl|simp,fun e=>absurd e (by decide),HU1.o⟩
end Go.Proofs.YtjakbblocbicjaaGreatDoor
