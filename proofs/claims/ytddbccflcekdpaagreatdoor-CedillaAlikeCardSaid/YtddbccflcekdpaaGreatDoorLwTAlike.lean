/- The law CedillaAlike, by walking its text. -/
import Derived.Test.YtddbccflcekdpaaGreatDoorEqIndex
import Derived.Test.YtddbccflcekdpaaGreatDoorEqTurn
import Derived.Test.YtddbccflcekdpaaGreatDoorFiBits
import Derived.Test.YtddbccflcekdpaaGreatDoorNfLaid
import Derived.Test.YtddbccflcekdpaaGreatDoorSlCut
import Derived.Test.YtddbccflcekdpaaGreatDoorMdTable
import Derived.BigQuiet
import Derived.Deep.DeepCutAuto
namespace Go.Proofs.YtddbccflcekdpaaGreatDoor
open Go.RowKit
set_option linter.unusedSimpArgs false
set_option linter.unusedVariables false
theorem Eq.letter:zA6 [19968]=⟨#[228,184,128]⟩:=by decide +kernel
theorem Eq.found {p:Int→Bool} {F:List Int→List Int} {a:Int} {l:List Int} {x:Int} {r:List Int} (hl:l=x::r) (hx:p x=true) (ha:p a=true) (hF:F l=(Sp.cut p l).flatMap F):¬Eq.no F (Sp.cut p ([a]++(l++[a]))) (F l) 1:=by
 subst hl;rw[Sp.cut_between hx ha];intro h
 have hne:0<(Sp.cut p (x::r)).length:=by
  rcases Nat.eq_zero_or_pos (Sp.cut p (x::r)).length with h0|h0
  · have:=Sp.cut_flat p (x::r);rw[List.eq_nil_of_length_eq_zero h0]at this;cases this
  exact h0
 refine h (Sp.cut p (x::r)).length hne (by simp;omega) ?_;unfold Eq.mid;rw[show ([[a]]++(Sp.cut p (x::r)++[[a]])).drop 1=Sp.cut p (x::r)++[[a]] from rfl,List.take_left,←hF]
set_option maxRecDepth 100000 in
set_option maxHeartbeats 4000000 in
theorem Tp.cedillaAlike_any (w:World) (A XA PA MA:Option Addr) (n c xn xc pn pc mn mc:Nat) (T0:List Rw.Row) (E0 P M:List Int) (hT:Tx.In A XA PA MA n c xn xc pn pc mn mc T0 E0 P M w) (QA:Option Addr) (qn qc:Nat) (qs:List Int) (hq:IsRow .i64 w QA qn qc qs) (hqb:∀x∈qs,-9223372036854775808≤x∧x≤9223372036854775807) (hL:Nf.Laid w) :
 Calls Tryz.prog 10 #[.agg #[.slice A n c,.slice XA xn xc,.slice PA pn pc,.slice MA mn mc],.slice QA qn qc] w fun e w'=>e=.returned (.bool true)∧Below w.heap.size w w':=by
 have HMADE:=hy' (fun W (hW:Below w.heap.size w W)=>zHl A XA PA MA n c xn xc pn pc mn mc T0 E0 P M 12 W (by decide) (hT.below hW) (Rw.Laid.next hL.1 hW));obtain⟨wa,hwa⟩:∃wa,w.alloc (.cells #[.slice A n c,.slice XA xn xc,.slice PA pn pc,.slice MA mn mc] 27)=wa:=⟨_,rfl⟩;have hba:Below w.heap.size w wa:=by rw[←hwa];exact (Below.refl _ _).alloc (Nat.le_refl _) _
 have hat:Rw.At wa w.heap.size 27 [.slice A n c,.slice XA xn xc,.slice PA pn pc,.slice MA mn mc]:=by rw[←hwa];exact Rw.At.new w 27 [.slice A n c,.slice XA xn xc,.slice PA pn pc,.slice MA mn mc]
 have HWA:=hy' hwa;have HBA:=hy' hba;have HAT:=hy' hat;obtain⟨hq1,hq2,hq3⟩:=hq.len_le;have HQS:=hy' ((hq.sl qn (Nat.le_refl _)).below hba hba.size);have HQN:Hy ((qs.take qn).length=qn):=hy' (by rw[List.length_take];omega);have HQM:Hy (qn≤maxLen):=hy' (by omega);have HH:=hy' hL.2;clear hwa hba hat hT hL hq hqb hq1 hq2 hq3;go_enter Tryz.func10,Tryz.ntmps10;go_upto_region 1 with (fail)
 rw[HWA.o];obtain⟨w1,hw1⟩:∃w1,wa=w1:=⟨_,rfl⟩;have hat1:=HAT.o;rw[hw1]at hat1;have HB1:=hy' (show Below w.heap.size w w1 by rw[←hw1];exact HBA.o);rw[hw1];have x0:=hat1.cell 0 rfl;have x1:=hat1.cell 1 rfl;have x2:=hat1.cell 2 rfl;have x3:=hat1.cell 3 rfl;have xl:=hat1.lt;clear hat1;go_wp2_with fail;refine (HMADE.o w1 HB1.o).mono ?_;rintro e w2 ⟨p,v2,T,E,S,l,Al,cl,rfl,his,hdo,hR,hown,hlc,hll,hap,hb2⟩;obtain⟨pb,rfl,hpbl⟩:=his.form;obtain⟨A2,c2,XA2,xc2,rfl,hdo2⟩:=id hdo;obtain⟨n2,hn2⟩:∃k,T.length=k:=⟨_,rfl⟩;obtain⟨xn2,hxn2⟩:∃k,E.length=k:=⟨_,rfl⟩;obtain⟨ln,hln⟩:∃k,l.length=k:=⟨_,rfl⟩;unfold zBs at hdo hap ⊢;rw[hn2,hxn2]at hdo ⊢;simp only[hn2,hxn2]at hap;rw[hln]at hown hll hap ⊢;obtain⟨w3,hw3⟩:∃w3,w2.alloc (.cells #[.slice A2 n2 c2,.slice XA2 xn2 xc2] 25)=w3:=⟨_,rfl⟩;have hb3:Below w2.heap.size w2 w3:=by rw[←hw3];exact (Below.refl _ _).alloc (Nat.le_refl _) _
 have hat3:Rw.At w3 w2.heap.size 25 [.slice A2 n2 c2,.slice XA2 xn2 xc2]:=by rw[←hw3];exact Rw.At.new w2 25 [.slice A2 n2 c2,.slice XA2 xn2 xc2]
 have HW3:=hy' hw3;have HB3:=hy' (HB1.o.trans ((hb2.trans (hb3.mono hb2.size)).mono HB1.o.size));have HT3:=hy' hat3;have HBA3:=hy' (show Below wa.heap.size wa w3 by rw[hw1];exact hb2.trans (hb3.mono hb2.size));have HI3:=hy' (his.below hb3);have HD3:=hy' (hdo.below hb3);have HL3:=hy' (zA4 hown hb3 (Nat.le_refl _));have HR:=hy' hR;have HLC:=hy' hlc;have HLN:=hy' hln;have HN2:=hy' hn2;have HAP:Hy (∀w'',w3.grownBy w'' (Value.slice Al ln cl).ownBlock→Ud.Is w'' (.pointer (some ⟨pb,0,none⟩)) T S∧Md.Doc w'' (.agg #[.slice A2 n2 c2,.slice XA2 xn2 xc2]) T E):=hy' fun w'' hg=>hap w'' (zA0 (by rw[←hw3];exact World.grownBy_alloc _ _ _) hg)
 have HLB:=hy' (fun x (hx:x∈l)=>Tx.isC_i32 (hlc x hx));have z0:=hat3.cell 0 rfl;have z1:=hat3.cell 1 rfl;have zl:=hat3.lt;clear x0 x1 x2 x3 xl hap hdo hdo2 his hR hown hlc hln hn2 hxn2 hw3 hb3 hat3 hb2 hw1 HMADE HWA HBA HAT;go_upto_region 2 with (fail)
 rw[HW3.o];have hok:=HR.o.ok;have HL33:=hy' (Sl.of_own HL3.o);have HH3:=hy' (HH.o.next HB3.o);have HQ0:=hy' (Below.refl w3.heap.size w3)
 have HEN:Hy (∀(A':Option Addr) (m c':Nat) (z:List Int) (sq:ByteArray) (W:World),z.length=m→m≤2000→(∀c∈z,C.isC c=true)→zA6 z=sq→Sl W W.heap.size A' (z.map (Value.int .i64))→Calls Tryz.prog 13 #[.slice A' m c'] W fun e w'=>e=.returned (.string sq)∧Below W.heap.size W w'):=hy' fun A' m c' z sq W hz hm hzl hs hA=>by
  have:=zG1 A' m c' z W hz (by omega) hA hzl;rw[hs]at this;exact this
 have HOD:Hy (∀(z:List Int) (s r:ByteArray) (W:World),Below w3.heap.size w3 W→(∀c∈z,C.isC c=true)→(Nf.fl T z).length≤1024→zA6 z=s→zA6 (Nf.chars T z)=r→Calls Tryz.prog 14 #[.pointer (some ⟨pb,0,none⟩),.string s] W fun e w'=>e=.returned (.tuple #[.string r,.int .i64 0])∧Below W.heap.size W w'):=hy' fun z s r W hW hz hf hs hr=>by
  have:=Nf.of_chars _ T S z W hok (HI3.o.below hW) (HH3.o.next hW) hz (by have:=zBE hok z;omega) hf;rw[hs,hr]at this;exact this
 have HOC:Hy (∀(z:List Int) (s r:ByteArray) (W:World),Below w3.heap.size w3 W→(∀c∈z,C.isC c=true)→(Nf.fl T z).length≤1024→zA6 z=s→zA6 (Nc.chars T S z)=r→Calls Tryz.prog 31 #[.pointer (some ⟨pb,0,none⟩),.string s] W fun e w'=>e=.returned (.tuple #[.string r,.int .i64 0])∧Below W.heap.size W w'):=hy' fun z s r W hW hz hf hs hr=>by
  have:=Nc.of_chars _ T S z W hok (HI3.o.below hW) (HH3.o.next hW) hz (by have:=zBE hok z;omega) hf;rw[hs,hr]at this;exact this
 have hTn:T.length≤100000:=by have:=HR.o.tl;omega
 have hml:∀r∈T,r.2.2.length≤1000:=fun r hr=>by have:=(HR.o.rok r hr).2.2.1;omega
 have hflen:(Nf.fl T l).length≤1024:=zFs hok (by rw[HLN.o];omega);obtain⟨sa,hsa⟩:∃q,zA6 l=q:=⟨_,rfl⟩
 have HTU:Hy (∀W,Below w3.heap.size w3 W→Calls Tryz.prog 33 #[.agg #[.slice A2 n2 c2,.slice XA2 xn2 xc2],.slice Al ln cl,.slice QA qn qc] W fun e w'=>∃(Z:List Int) (m:Nat) (sb:ByteArray) (A':Option Addr) (c':Nat),e=.returned (.slice A' m c')∧Z.length=m∧m≤1024∧zA6 Z=sb∧(∀c∈Z,C.isC c=true)∧(Nf.fl T Z).length≤1024∧Nf.chars T Z=Nf.chars T l∧Sl w' w'.heap.size A' (Z.map (Value.int .i64))∧Below W.heap.size W w'):=hy' fun W hW=>by
  refine (Eq.turned_any _ T E S Al QA ln cl qn qc l (qs.take qn) W hok hTn hml (HD3.o.below hW) HLN.o (by omega) HLC.o (HL33.o.below hW hW.size) HQN.o HQM.o (HQS.o.below (HBA3.o.trans (hW.mono HBA3.o.size)) (HBA3.o.trans (hW.mono HBA3.o.size)).size)).mono ?_;rintro e w' ⟨Z,A',c',rfl,ho,hch,hc,hb⟩;have hf:(Nf.fl T Z).length≤1024:=by rw[←Nf.chars_len,hch,Nf.chars_len];exact hflen
  have hm:=Nat.le_trans (zBE hok Z) hf;exact⟨Z,_,_,A',c',rfl,rfl,hm,rfl,hc,hf,hch,Sl.of_own ho,hb⟩
 have HAL:Hy (∀(X Y:List Int) (sx sy:ByteArray) W,Below w3.heap.size w3 W→zA6 X=sx→zA6 Y=sy→(∀c∈X,C.isC c=true)→(∀c∈Y,C.isC c=true)→(Nf.fl T X).length≤1024→(Nf.fl T Y).length≤1024→Nf.chars T X=Nf.chars T Y→Calls Tryz.prog 34 #[.pointer (some ⟨pb,0,none⟩),.string sx,.string sy] W fun e w'=>e=.returned (.tuple #[.bool true,.int .i64 0])∧Below W.heap.size W w'):=hy' fun X Y sx sy W hW h1 h2 h3 h4 h5 h6 h7=>by
  have:=Eq.alike_chars _ T S X Y W hok (HI3.o.below hW) (HH3.o.next hW) h3 (by have:=zBE hok X;omega) h5 h4 (by have:=zBE hok Y;omega) h6;rw[h1,h2,decide_eq_true h7]at this;exact this
 have HIX:Hy (∀(Z:List Int) (sy:ByteArray) W,Below w3.heap.size w3 W→zA6 Z=sy→(∀c∈Z,C.isC c=true)→(Nf.fl T Z).length≤1024→Calls Tryz.prog 38 #[.pointer (some ⟨pb,0,none⟩),.string (zA6 ([19968]++(l++[19968]))),.string sy] W (Eq.RetIndex (Nf.chars T) (Sp.cut (zEr T S) ([19968]++(l++[19968]))) (Nf.chars T Z) (Eq.hd (zEr T S) Z) W)):=hy' fun Z sy W hW hs hz hf=>by
  have:=Eq.index_any _ T S ([19968]++(l++[19968])) Z W hok (HI3.o.below hW) (HH3.o.next hW) (fun c hc=>by
   simp only[List.mem_append,List.mem_singleton]at hc;rcases hc with h|h|h
   · rw[h];rfl
   · exact HLC.o c h
   rw[h];rfl) (by simp;have:=HLN.o;omega) hz hf
  rw[hs]at this;exact this
 have HSF:Hy (∀c W,Below w3.heap.size w3 W→Calls Tryz.prog 35 #[.pointer (some ⟨pb,0,none⟩),.int .i32 c] W fun e w'=>e=.returned (.bool (zEr T S c))∧Below W.heap.size W w'):=hy' fun c W hW=>Sp.safe_any _ T S c W hok (HI3.o.below hW)
 have HPL:Hy (∀W,Below w3.heap.size w3 W→Calls Tryz.prog 36 #[.pointer (some ⟨pb,0,none⟩),.int .i32 19968] W fun e w'=>∃b:Bool,e=.returned (.bool b)∧Below W.heap.size W w'):=hy' fun W hW=>by
  refine (Ud.plain_any _ T S 19968 W hok (HI3.o.below hW) (by decide) (by decide)).mono ?_;rintro e w' ⟨rfl,hb⟩;exact⟨_,rfl,hb⟩
 have HCL:Hy (∀W,Below w3.heap.size w3 W→Calls Tryz.prog 37 #[.pointer (some ⟨pb,0,none⟩),.int .i32 19968] W fun e w'=>∃c:Int,e=.returned (.int .i64 c)∧Below W.heap.size W w'):=hy' fun W hW=>by
  refine (Ud.class_any _ T S 19968 W hok (HI3.o.below hW)).mono ?_;rintro e w' ⟨rfl,hb⟩;exact⟨_,rfl,hb⟩
 have HTXT:Hy (zA6 ([19968]++(l++[19968]))=⟨#[228,184,128]⟩++sa++⟨#[228,184,128]⟩∧sa.size≤1000):=hy' (by
  have hc1:∀c∈([19968]:List Int),C.isC c=true:=by decide
  refine⟨?_,by rw[←hsa];have:=zCp HLC.o;rw[HLN.o]at this;omega⟩;rw[←U.encS_app2 hc1 (fun c hc=>(List.mem_append.1 hc).elim (HLC.o c) (hc1 c)),←U.encS_app2 HLC.o hc1,hsa,Eq.letter];apply ByteArray.ext
  simp[ByteArray.data_append])
 have HCM:Hy (∀(l':List Int),l'.length≤32→(∀c∈l',C.isC c=true)→Nf.chars T l'=(Sp.cut (zEr T S) l').flatMap (Nf.chars T)):=hy' fun l' _ _ =>
  Sp.cut_map _ rfl (fun a c b hc=>Nf.chars_cut hok (by unfold zEr at hc;simp only[Bool.and_eq_true]at hc;exact hc.2.1) a b) l'
 have HMF:Hy (∀(L:List (List Int)) (i n:Nat),(∀j u,0<j→L[j]?=some u→∃c t,u=c::t∧zEr T S c=true)→Nf.chars T (Eq.mid L i n).flatten=(Eq.mid L i n).flatMap (Nf.chars T)):=hy' fun L i n hL=>by
  have h:∀M:List (List Int),(∀j u,0<j→M[j]?=some u→∃c t,u=c::t∧zEr T S c=true)→Nf.chars T M.flatten=M.flatMap (Nf.chars T):=by
   intro M
   induction M with
   | nil=>intro _;rfl
   | cons u M ih =>
     intro hM;have h1:=ih fun i v hi hv=>hM (i+1) v (by omega) (by simpa using hv)
     rw[List.flatten_cons,List.flatMap_cons,←h1];cases M with
     | nil=>rw[List.flatten_nil,List.append_nil,show Nf.chars T []=[] from rfl,List.append_nil]
     | cons v M =>
       obtain⟨c,t,rfl,hp⟩:=hM 1 v (by omega) rfl;rw[List.flatten_cons,List.cons_append];exact Nf.chars_cut hok (by unfold zEr at hp;simp only[Bool.and_eq_true]at hp;exact hp.2.1) u _
  refine h _ fun j u hj hu=>?_
  unfold Eq.mid at hu;rw[List.getElem?_take]at hu;split at hu
  · rw[List.getElem?_drop]at hu;exact hL (i+j) u (by omega) hu
  cases hu
 have HRB:=hy' (fun z (hz:(Nf.fl T z).length≤1024)=>And.intro (Nf.fl_ch hok hz) (Nc.fl_ch (S:=S) hok hz));have HRC:=hy' (fun z (hz:∀c∈z,C.isC c=true)=>And.intro (Nf.chars_isC hok hz) (Nc.chars_isC (S:=S) hok hz));have HRD:=hy' (fun z=>And.intro (Nf.chars_chars hok z) (zJb hok z));have H30:=hy' (fun (z:List Int) (hz:z.length≤32)=>zFs hok hz);have HSA:=hy' hsa;have HFL:=hy' hflen;clear hok hTn hml hsa hflen HL3;go_wp2_with fail;refine (HEN.o Al ln cl l sa w3 HLN.o (by omega) HLC.o HSA.o HL33.o).mono ?_;rintro e q1 ⟨rfl,hb⟩;have HQ1:=hy' (HQ0.o.trans (hb.mono HQ0.o.size));clear hb z0 z1 zl;have ht1:=HT3.o.below HQ1.o;have z0:=ht1.cell 0 rfl;have z1:=ht1.cell 1 rfl;have zl:=ht1.lt;clear ht1;go_wp2_with fail;refine (HTU.o q1 HQ1.o).mono ?_;rintro e q2 ⟨Z,m,sy,A5,c5,rfl,hzm,hm,hsy,hzc,hzf,hch,hs5,hb⟩;have HQ2:=hy' (HQ1.o.trans (hb.mono HQ1.o.size));have HZM:=hy' hzm;have HSY:=hy' hsy;have HZC:=hy' hzc;have HZF:=hy' hzf;have HCH:=hy' hch;have HS5:=hy' hs5;obtain⟨sd,hsd⟩:∃q,zA6 (Nf.chars T l)=q:=⟨_,rfl⟩;obtain⟨sc,hsc⟩:∃q,zA6 (Nc.chars T S Z)=q:=⟨_,rfl⟩;have HSD:=hy' hsd;have HSC:=hy' hsc;clear hb z0 z1 zl hzm hsy hzc hzf hch hs5 hsd hsc;go_wp2_with fail;refine (HEN.o A5 m c5 Z sy q2 HZM.o (by omega) HZC.o HSY.o HS5.o).mono ?_;rintro e q3 ⟨rfl,hb⟩;have HQ3:=hy' (HQ2.o.trans (hb.mono HQ2.o.size));clear hb;go_wp2_with fail;refine (HOD.o l sa sd q3 HQ3.o HLC.o HFL.o HSA.o HSD.o).mono ?_;rintro e q4 ⟨rfl,hb⟩;have HQ4:=hy' (HQ3.o.trans (hb.mono HQ3.o.size));clear hb;go_wp2_with fail;refine (HOC.o Z sy sc q4 HQ4.o HZC.o HZF.o HSY.o HSC.o).mono ?_;rintro e q5 ⟨rfl,hb⟩;have HQ5:=hy' (HQ4.o.trans (hb.mono HQ4.o.size));clear hb;go_wp2_with fail;refine (HAL.o (Nf.chars T l) Z sd sy q5 HQ5.o HSD.o HSY.o (HRC.o l HLC.o).1 HZC.o (HRB.o l HFL.o).1 HZF.o (by rw[(HRD.o l).1,HCH.o])).mono ?_;rintro e q6 ⟨rfl,hb⟩;have HQ6:=hy' (HQ5.o.trans (hb.mono HQ5.o.size));clear hb;go_wp2_with fail;refine (HAL.o l (Nc.chars T S Z) sa sc q6 HQ6.o HSA.o HSC.o HLC.o (HRC.o Z HZC.o).2 HFL.o (HRB.o Z HZF.o).2 (by rw[(HRD.o Z).2,HCH.o])).mono ?_;rintro e q7 ⟨rfl,hb⟩;have HQ7:=hy' (HQ6.o.trans (hb.mono HQ6.o.size));clear hb
 by_cases hn:0<ln
 case neg =>
  obtain rfl:ln=0:=by omega
  have HF:=hy' (HB3.o.trans (HQ7.o.mono HB3.o.size));go_wp2_with fail;go_ret;exact⟨rfl,HF.o⟩
 have nB:((ln:Int) == 0)=false:=by simp;omega
 obtain⟨x,hx⟩:∃x,l[0]?=some x:=⟨_,List.getElem?_eq_getElem (by rw[HLN.o];exact hn)⟩
 have hlx:∃r,l=x::r:=by
  match l,hx with
  | y::r,h=>exact⟨r,by simp at h;rw[h]⟩
 obtain⟨r,hlr⟩:=hlx;obtain⟨hx1,hx2⟩:=HLB.o x (List.mem_of_getElem? hx);obtain⟨ab,ao,rfl,hab,hac⟩:=HL33.o (by rw[List.length_map,HLN.o];omega);have hc:=hac 0 (by rw[List.length_map,HLN.o];exact hn);rw[List.getElem?_map,hx,Option.map_some,Nat.add_zero,←(zAI HQ7.o).1 _ _ hab]at hc;have hab2:=Nat.lt_of_lt_of_le hab HQ7.o.size;have hw0:IntKind.i32.wrap x=x:=by rw[IntKind.wrap_i32];omega
 have kI:(0:Int)<ln:=by omega
 have HLR:=hy' hlr;clear hx hx1 hx2 hac hab hlr;go_wp2_with fail;refine (HSF.o x q7 HQ7.o).mono ?_;obtain⟨px,hpx⟩:∃q,zEr T S x=q:=⟨_,rfl⟩;rw[hpx];rintro e q8 ⟨rfl,hb⟩;have HQ8:=hy' (HQ7.o.trans (hb.mono HQ7.o.size));have HPX:=hy' hpx;clear hb hc hab2 hpx;cases px
 · have HF:=hy' (HB3.o.trans (HQ8.o.mono HB3.o.size));go_wp2_with fail;go_ret;exact⟨rfl,HF.o⟩
 go_wp2_with fail;refine (HPL.o q8 HQ8.o).mono ?_;rintro e q9 ⟨b1,rfl,hb⟩;have HQ9:=hy' (HQ8.o.trans (hb.mono HQ8.o.size));clear hb;cases b1
 · have HF:=hy' (HB3.o.trans (HQ9.o.mono HB3.o.size));go_wp2_with fail;go_ret;exact⟨rfl,HF.o⟩
 go_wp2_with fail;refine (HSF.o 19968 q9 HQ9.o).mono ?_;obtain⟨pl,hpl⟩:∃q,zEr T S 19968=q:=⟨_,rfl⟩;rw[hpl];rintro e q10 ⟨rfl,hb⟩;have HQ10:=hy' (HQ9.o.trans (hb.mono HQ9.o.size));have HPL2:=hy' hpl;clear hb hpl;cases pl
 · have HF:=hy' (HB3.o.trans (HQ10.o.mono HB3.o.size));go_wp2_with fail;go_ret;exact⟨rfl,HF.o⟩
 go_wp2_with fail;refine (HCL.o q10 HQ10.o).mono ?_;rintro e q11 ⟨cc,rfl,hb⟩;have HQ11:=hy' (HQ10.o.trans (hb.mono HQ10.o.size));clear hb;rcases hcc:(cc != 0) with _|_
 case true =>
  have HF:=hy' (HB3.o.trans (HQ11.o.mono HB3.o.size));go_wp2_with fail;go_ret;exact⟨rfl,HF.o⟩
 obtain⟨htx,hsl⟩:=HTXT.o;obtain⟨stx,hstx⟩:∃q,⟨#[228,184,128]⟩++sa++⟨#[228,184,128]⟩=q:=⟨_,rfl⟩;have hix:=HIX.o Z sy q11 HQ11.o HSY.o HZC.o HZF.o;rw[htx,hstx]at hix;have hts:stx.size=3+sa.size+3:=by rw[←hstx];simp[ByteArray.size_append];rfl
 have htl:stx.data.toList=zA5 ([19968]++(l++[19968])):=by
  rw[←hstx,←htx,zCe];intro c hc;simp only[List.mem_append,List.mem_singleton]at hc;rcases hc with h|h|h
  · rw[h];rfl
  · exact HLC.o c h
  rw[h];rfl
 have n1:¬9223372036854775807<(⟨#[228,184,128]⟩:ByteArray).size+sa.size:=by show ¬_<3+sa.size;omega
 have n1':¬9223372036854775807<3+sa.size:=by omega
 have n2:¬9223372036854775807<(⟨#[228,184,128]⟩++sa:ByteArray).size+(⟨#[228,184,128]⟩:ByteArray).size:=by rw[ByteArray.size_append];show ¬_<3+sa.size+3;omega
 have n2':¬9223372036854775807<(⟨#[228,184,128]⟩++sa:ByteArray).size+3:=by rw[ByteArray.size_append];show ¬_<3+sa.size+3;omega
 have n3:¬9223372036854775807<3+sa.size+3:=by omega
 have HIXX:=hy' hix;have HTS:=hy' hts;have HTL:=hy' htl;have HSTX:=hy' hstx;have HTX:=hy' htx;clear hix hts htl hstx htx nB kI;go_wp2_with fail;rw[HSTX.o];refine HIXX.o.mono ?_;obtain⟨L,hL⟩:∃L,Sp.cut (zEr T S) ([19968]++(l++[19968]))=L:=⟨_,rfl⟩;rw[hL];have HL:=hy' hL;rintro e q12 ⟨hb,hcase⟩;have HQ12:=hy' (HQ11.o.trans (hb.mono HQ11.o.size));have HF12:=hy' (HB3.o.trans (HQ12.o.mono HB3.o.size));have hfnd:=Eq.found HLR.o HPX.o HPL2.o (HCM.o l (by rw[HLN.o];omega) HLC.o);rw[hL]at hfnd;rcases hcase with ⟨hbf,rfl⟩|⟨hbt,⟨i,nn,h0,hin,hmid,hno,rfl⟩|⟨hno,rfl⟩⟩
 · clear hb hL hfnd hbf;go_wp2_with fail;go_ret;exact⟨rfl,HF12.o⟩
 rotate_left
 · exfalso;refine hfnd ?_;have:=hno 1 (by rw[←hL,HLR.o,Sp.cut_between HPX.o HPL2.o];simp);rw[HCH.o]at this;exact this
 have hi1:i≤1:=by
  rcases Nat.lt_or_ge 1 i with h|h
  · have:=hno 1 h;rw[HCH.o]at this;exact absurd this hfnd
  exact h
 have hLe:L=[[19968]]++(Sp.cut (zEr T S) l++[[19968]]):=by rw[←hL,HLR.o];exact Sp.cut_between HPX.o HPL2.o
 have hflat:L.flatten=[19968]++(l++[19968]):=by rw[←hL];exact Sp.cut_flat _ _
 have hcL:∀c∈L.flatten,C.isC c=true:=fun c hc=>by
  rw[hflat]at hc;simp only[List.mem_append,List.mem_singleton]at hc;rcases hc with h|h|h
  · rw[h];rfl
  · exact HLC.o c h
  rw[h];rfl
 have hsplit:=Eq.mid_split L i nn;have hct:∀c∈(L.take i).flatten,C.isC c=true:=fun c hc=>hcL c (by rw[hsplit];exact List.mem_append_left _ hc)
 have hcm:∀c∈(Eq.mid L i nn).flatten,C.isC c=true:=fun c hc=>hcL c (by rw[hsplit];exact List.mem_append_right _ (List.mem_append_left _ hc))
 have hml:(Eq.mid L i nn).flatten.length≤32:=by
  have h1:=congrArg List.length hsplit;rw[hflat]at h1;simp only[List.length_append,List.length_singleton]at h1;have:=HLN.o;omega
 obtain⟨fr,hfr⟩:∃f,(zA6 (L.take i).flatten).size=f:=⟨_,rfl⟩;have hfr2:(zA5 (L.take i).flatten).length=fr:=by rw[←hfr,zCe hct];rfl
 have hfr3:fr≤3:=by
  rw[←hfr];have h2:i=0∨i=1:=by omega
  rcases h2 with rfl|rfl
  · rw[List.take_zero,show ([]:List (List Int)).flatten=[] from rfl];decide
  rw[hLe];show (zA6 [19968]).size≤3;rw[Eq.letter];decide
 obtain⟨sm,hsm⟩:∃q,zA6 (Eq.mid L i nn).flatten=q:=⟨_,rfl⟩;have hsm2:(zA5 (Eq.mid L i nn).flatten).length=sm.size:=by rw[←hsm,zCe hcm];rfl
 have hex:stx.extract fr (fr+sm.size)=sm:=by
  have:=Eq.mid_str (s:=stx) (L:=L) (by rw[HTL.o,hflat]) i nn;rw[hfr2,hsm2]at this;rw[this,←hsm,zCe hcm]
 have hle:fr+sm.size≤stx.size:=by
  have h1:stx.data.toList.length=stx.size:=by simp
  rw[HTL.o,←hflat,hsplit,zAV,zAV,List.length_append,List.length_append,hfr2,hsm2]at h1;omega
 have hal:=HAL.o (Eq.mid L i nn).flatten Z sm sy q12 HQ12.o hsm HSY.o hcm HZC.o (H30.o _ hml) HZF.o (by rw[HMF.o L i nn (fun j u hj hu=>Sp.cut_hd (zEr T S) _ j u hj (by rw[hL];exact hu)),hmid]);rw[hfr,hsm];have HALX:=hy' hal;have HEX:=hy' hex;have hs0:stx.size≤2000:=by have:=HTS.o;have:=HTXT.o.2;omega
 have m1:max (fr:Int) 0=fr:=by omega
 have m2:max ((fr:Int)+(sm.size:Int)) 0=(fr:Int)+(sm.size:Int):=by omega
 have l1:(0:Int)≤fr:=by omega
 have l2:(fr:Int)≤(fr:Int)+(sm.size:Int):=by omega
 have l3:(fr:Int)+(sm.size:Int)≤(stx.size:Int):=by omega
 have l4:(fr:Int)≤3:=by omega
 have l6:(0:Int)≤(fr:Int)+(sm.size:Int):=by omega
 have l7:(fr:Int)+(sm.size:Int)≤3+(sa.size:Int)+3:=by have:=HTS.o;omega
 have l5:(fr:Int)≥0:=by omega
 clear hb hL hfnd hbt h0 hin hmid hno hLe hflat hcL hsplit hct hcm hml hfr hfr2 hsm hsm2 hex hal;go_upto_region 20 with (fail)
 rw[HSTX.o,HEX.o];clear n1 n1' n2 n2' n3 hs0 m1 m2 l1 l2 l3 l6 l7;go_wp2_with fail;refine HALX.o.mono ?_;rintro e q13 ⟨rfl,hb⟩;have HF:=hy' (HB3.o.trans ((HQ12.o.trans (hb.mono HQ12.o.size)).mono HB3.o.size));clear hb;go_wp2_with fail;go_ret;exact⟨by first|rfl|(simp;done),HF.o⟩
end Go.Proofs.YtddbccflcekdpaaGreatDoor
