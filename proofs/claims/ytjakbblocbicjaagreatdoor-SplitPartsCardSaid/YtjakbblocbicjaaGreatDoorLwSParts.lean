/- The law SplitParts, by walking its text. -/
import Derived.Test.YtjakbblocbicjaaGreatDoorSpAwake
import Derived.Test.YtjakbblocbicjaaGreatDoorNcLaw
import Derived.Test.YtjakbblocbicjaaGreatDoorTxSame
import Derived.Test.YtjakbblocbicjaaGreatDoorMdTable
import Derived.BigQuiet
import Derived.Deep.DeepCutAuto
import Derived.Deep.CutBlock
namespace Go.Proofs.YtjakbblocbicjaaGreatDoor
open Go.RowKit
set_option linter.unusedSimpArgs false
set_option linter.unusedVariables false
theorem U.encS_app {x y:List Int} (hx:∀c∈x,U.isC c=true) (hy:∀c∈y,U.isC c=true):zAv x++zAv y=zAv (x++y):=by
 rw[zIT hx,zIT hy,zIT (fun c hc=>(List.mem_append.1 hc).elim (hx c) (hy c)),Sp.encs_app];apply ByteArray.ext
 simp
theorem Sp.fm_le {F:List Int→List Int} (L:List (List Int)) (k:Nat):((L.take k).flatMap F).length≤(L.flatMap F).length:=by
 conv=>rhs;rw[←List.take_append_drop k L,List.flatMap_append,List.length_append]
 exact Nat.le_add_right _ _
theorem Sp.fm_succ {F:List Int→List Int} {L:List (List Int)} {k:Nat} {u:List Int} (h:L[k]?=some u):(L.take (k+1)).flatMap F=(L.take k).flatMap F++F u:=by
 rw[List.take_add_one,h,Option.toList_some,List.flatMap_append,List.flatMap_cons,List.flatMap_nil,List.append_nil]
theorem Sp.mem_len {L:List (List Int)} {u:List Int} (h:u∈L):u.length≤L.flatten.length:=by
 induction L with
 | nil=>cases h
 | cons v L ih =>
   rw[List.flatten_cons,List.length_append];rcases List.mem_cons.1 h with rfl|h
   · omega
   have:=ih h;omega
theorem Sp.parts_bad (v:Value) (s:ByteArray) (w:World) (hH:Heads w) (hs:s.size≤maxLen) (cs:List Int) (a:UInt8) (r:List UInt8) (hd:zH1 s.data.toList cs (a::r)) (hv:∃b,v=.pointer (some ⟨b,0,none⟩)) :
 Calls Tryz.prog 25 #[v,.string s] w fun e w'=>e=.returned (.tuple #[.slice none 0 0,.int .i64 6])∧Below w.heap.size w w':=by
 have hV:=zS1 s w hs hH cs (a::r) hd;have hvb:U.vB (a::r)=false:=rfl;rw[hvb]at hV;obtain⟨b,rfl⟩:=hv;clear hd hH hs hvb;go_enter Tryz.func25,Tryz.ntmps25;go_wp2_with fail;refine hV.mono ?_;rintro e w1 ⟨rfl,hb1⟩;have HB1:=hy' hb1;clear hV hb1;go_wp2_with fail;go_ret2;exact⟨rfl,HB1.o⟩
set_option maxRecDepth 100000 in
set_option maxHeartbeats 4000000 in
theorem Sp.splitParts_any (w:World) (A XA PA MA:Option Addr) (n c xn xc pn pc mn mc:Nat) (T0:List Rw.Row) (E0 P M:List Int) (hT:Tx.In A XA PA MA n c xn xc pn pc mn mc T0 E0 P M w) (s0:ByteArray) (hs0:s0.size≤maxLen) (hL:Nf.Laid w) :
 Calls Tryz.prog 13 #[.agg #[.slice A n c,.slice XA xn xc,.slice PA pn pc,.slice MA mn mc],.string s0] w fun e w'=>e=.returned (.bool true)∧Below w.heap.size w w':=by
 have HMADE:=hy' (fun W (hW:Below w.heap.size w W)=>zFx A XA PA MA n c xn xc pn pc mn mc T0 E0 P M 30 W (by decide) (hT.below hW) (Rw.Laid.next hL.1 hW));have HAW:=hy' (fun W (hW:Below w.heap.size w W)=>Sp.awake20 W (hL.next hW));obtain⟨wa,hwa⟩:∃wa,w.alloc (.cells #[.slice A n c,.slice XA xn xc,.slice PA pn pc,.slice MA mn mc] 27)=wa:=⟨_,rfl⟩;have hba:Below w.heap.size w wa:=by rw[←hwa];exact (Below.refl _ _).alloc (Nat.le_refl _) _
 have hat:Rw.At wa w.heap.size 27 [.slice A n c,.slice XA xn xc,.slice PA pn pc,.slice MA mn mc]:=by rw[←hwa];exact Rw.At.new w 27 [.slice A n c,.slice XA xn xc,.slice PA pn pc,.slice MA mn mc]
 have HWA:=hy' hwa;have HBA:=hy' hba;have HAT:=hy' hat;have HH:=hy' hL.2;have HCU:=hy' (fun W=>U.cut_any s0 100 W hs0);have HC2:=hy' (zQz s0 100);clear hwa hba hat hT hL hs0;go_enter Tryz.func13,Tryz.ntmps13;go_upto_region 1 with (fail)
 rw[HWA.o];go_wp2_with fail;refine (HAW.o wa HBA.o).mono ?_;rintro e w1 ⟨rfl,hb1⟩;have hat1:=HAT.o.below hb1;have HB1:=hy' (HBA.o.trans (hb1.mono HBA.o.size));have x0:=hat1.cell 0 rfl;have x1:=hat1.cell 1 rfl;have x2:=hat1.cell 2 rfl;have x3:=hat1.cell 3 rfl;have xl:=hat1.lt;clear hb1 hat1;go_wp2_with fail;refine (HMADE.o w1 HB1.o).mono ?_;rintro e w2 ⟨p,v2,T,E,S,l,Al,cl,rfl,his,hdo,hR,hown,hlc,hll,hap,hb2⟩;obtain⟨pb,rfl,hpbl⟩:=his.form;obtain⟨A2,c2,XA2,xc2,rfl,hdo2⟩:=id hdo;obtain⟨n2,hn2⟩:∃k,T.length=k:=⟨_,rfl⟩;obtain⟨xn2,hxn2⟩:∃k,E.length=k:=⟨_,rfl⟩;obtain⟨ln,hln⟩:∃k,l.length=k:=⟨_,rfl⟩;unfold zAX at hdo hap ⊢;rw[hn2,hxn2]at hdo ⊢;simp only[hn2,hxn2]at hap;rw[hln]at hown hll hap ⊢;obtain⟨w3,hw3⟩:∃w3,w2.alloc (.cells #[.slice A2 n2 c2,.slice XA2 xn2 xc2] 25)=w3:=⟨_,rfl⟩;have hb3:Below w2.heap.size w2 w3:=by rw[←hw3];exact (Below.refl _ _).alloc (Nat.le_refl _) _
 have hat3:Rw.At w3 w2.heap.size 25 [.slice A2 n2 c2,.slice XA2 xn2 xc2]:=by rw[←hw3];exact Rw.At.new w2 25 [.slice A2 n2 c2,.slice XA2 xn2 xc2]
 have HW3:=hy' hw3;have HB3:=hy' (HB1.o.trans ((hb2.trans (hb3.mono hb2.size)).mono HB1.o.size));have HT3:=hy' hat3;have HI3:=hy' (his.below hb3);have HD3:=hy' (hdo.below hb3);have HL3:=hy' (zA4 hown hb3 (Nat.le_refl _));have HR:=hy' hR;have HLC:=hy' hlc;have HLN:=hy' hln;have HN2:=hy' hn2;have HAP:Hy (∀w'',w3.grownBy w'' (Value.slice Al ln cl).ownBlock→Ud.Is w'' (.pointer (some ⟨pb,0,none⟩)) T S∧Md.Doc w'' (.agg #[.slice A2 n2 c2,.slice XA2 xn2 xc2]) T E):=hy' fun w'' hg=>hap w'' (zA0 (by rw[←hw3];exact World.grownBy_alloc _ _ _) hg)
 have HLB:=hy' (fun x (hx:x∈l)=>Tx.isC_i32 (hlc x hx));have z0:=hat3.cell 0 rfl;have z1:=hat3.cell 1 rfl;have zl:=hat3.lt;clear x0 x1 x2 x3 xl hap hdo hdo2 his hR hown hlc hln hn2 hxn2 hw3 hb3 hat3 hb2 HMADE HAW HWA HBA HAT;go_upto_region 4 with (fail)
 rw[HW3.o];have hok:=HR.o.ok;have HL33:=hy' (Sl.of_own HL3.o);have HH3:=hy' (HH.o.next HB3.o);obtain⟨y0,hy0⟩:∃y,zRo s0 100=y:=⟨_,rfl⟩;obtain⟨cs,r,hd⟩:=zMi y0.data.toList
 have HCU3:Hy (∀W,Calls Tryz.prog 32 #[.string s0,.int .i64 100] W fun e w'=>e=.returned (.string y0)∧W=w'):=hy' fun W=>by
  have:=HCU.o W;rw[hy0]at this;exact this
 have hyl:y0.size≤100:=by have:=HC2.o;rw[hy0]at this;exact this
 obtain⟨p,hp⟩:∃p,zLv T S=p:=⟨_,rfl⟩;obtain⟨L,hL⟩:∃q,Sp.cut p l=q:=⟨_,rfl⟩;obtain⟨pn,hpn⟩:∃q,L.length=q:=⟨_,rfl⟩;obtain⟨F,hF⟩:∃q,Nf.chars T=q:=⟨_,rfl⟩;obtain⟨G,hG⟩:∃q,Nc.chars T S=q:=⟨_,rfl⟩
 have hsp:∀c,p c=true→Sp.start T c=true:=fun c hc=>by
  rw[←hp]at hc;unfold zLv at hc;simp only[Bool.and_eq_true]at hc;exact hc.2.1
 have hFl:F l=L.flatMap F:=by
  rw[←hL,←hF];exact Sp.cut_map _ rfl (fun a c b hc=>Nf.chars_cut hok (hsp c hc) a b) l
 have hGl:G l=L.flatMap G:=by
  rw[←hL,←hG];exact Sp.cut_map _ rfl (fun a c b hc=>Nc.chars_cut hok (by rw[hp];exact hc) a b) l
 have hLf:L.flatten=l:=by rw[←hL];exact Sp.cut_flat p l
 have hLne:∀u∈L,u≠[]:=by rw[←hL];exact Sp.cut_ne p l
 have hLm:∀u∈L,∀c∈u,C.isC c=true:=fun u hu c hc=>HLC.o c (by rw[←hLf];exact List.mem_flatten.2 ⟨u,hu,hc⟩)
 have hLu:∀u∈L,u.length≤30:=fun u hu=>by
  have:=Sp.mem_len hu;rw[hLf,HLN.o]at this;omega
 have hfl:(Nf.fl T l).length≤1024:=zIc hok (by rw[HLN.o];omega);have hFn:(F l).length≤1024:=by rw[←hF,Nf.chars_len];exact hfl
 have hGn:(G l).length≤1024:=by rw[←hG];exact Nat.le_trans (Nc.chars_le hok l) hfl
 have hFc:∀z:List Int,(∀c∈z,C.isC c=true)→∀c∈F z,C.isC c=true:=fun z hz=>by rw[←hF];exact Nf.chars_isC hok hz
 have hGc:∀z:List Int,(∀c∈z,C.isC c=true)→∀c∈G z,C.isC c=true:=fun z hz=>by rw[←hG];exact Nc.chars_isC hok hz
 have hpl:pn≤30:=by
  have:=Sp.cut_le p l;rw[hL,hpn,HLN.o]at this;omega
 obtain⟨t,ht⟩:∃q,zAv l=q:=⟨_,rfl⟩
 have HSF:Hy (∀(x:Int) W,Below w3.heap.size w3 W→Calls Tryz.prog 22 #[.pointer (some ⟨pb,0,none⟩),.int .i32 x] W fun e w'=>e=.returned (.bool (p x))∧Below W.heap.size W w'):=hy' fun x W hW=>by
  rw[←hp];exact Sp.safe_any _ T S x W hok (HI3.o.below hW)
 have HPA:Hy (∀W,Below w3.heap.size w3 W→Calls Tryz.prog 25 #[.pointer (some ⟨pb,0,none⟩),.string t] W fun e w'=>∃A c,e=.returned (.tuple #[.slice A pn c,.int .i64 0])∧Sl w' w'.heap.size A (Sp.vs L)∧Below W.heap.size W w'):=hy' fun W hW=>by
  have:=Sp.parts_any _ T S t l W hok (HI3.o.below hW) (HH3.o.next hW) (by rw[←ht,zIT HLC.o]) HLC.o (by rw[HLN.o];omega);unfold Sp.RetParts at this;rw[hp,hL,hpn]at this;refine this.mono ?_;rintro e w' ⟨A,c,rfl,ho,hb⟩;exact⟨A,c,rfl,Sl.of_own ho,hb⟩
 have HEN:Hy (∀W,Below w3.heap.size w3 W→Calls Tryz.prog 26 #[.slice Al ln cl] W fun e w'=>e=.returned (.string t)∧Below W.heap.size W w'):=hy' fun W hW=>by
  have:=zEs Al ln cl l W HLN.o (by omega) (HL33.o.below hW hW.size) HLC.o;rw[ht]at this;exact this
 have HOD:Hy (∀(z:List Int) W,Below w3.heap.size w3 W→(∀c∈z,C.isC c=true)→z.length≤30→Calls Tryz.prog 37 #[.pointer (some ⟨pb,0,none⟩),.string (zAv z)] W fun e w'=>e=.returned (.tuple #[.string (zAv (F z)),.int .i64 0])∧Below W.heap.size W w'):=hy' fun z W hW hz hl=>by
  rw[←hF];exact Nf.of_chars _ T S z W hok (HI3.o.below hW) (HH3.o.next hW) hz (by omega) (zIc hok (by omega))
 have HOC:Hy (∀(z:List Int) W,Below w3.heap.size w3 W→(∀c∈z,C.isC c=true)→z.length≤30→Calls Tryz.prog 36 #[.pointer (some ⟨pb,0,none⟩),.string (zAv z)] W fun e w'=>e=.returned (.tuple #[.string (zAv (G z)),.int .i64 0])∧Below W.heap.size W w'):=hy' fun z W hW hz hl=>by
  rw[←hG];exact Nc.of_chars _ T S z W hok (HI3.o.below hW) (HH3.o.next hW) hz (by omega) (zIc hok (by omega))
 have HDE:Hy (∀W,Calls Tryz.prog 45 #[.string y0] W fun e w'=>∃A n c,e=.returned (.tuple #[.slice A n c,.int .i64 (zPr cs r)])∧Below W.heap.size W w'):=hy' fun W=>by
  refine (zKW y0 W (by omega) cs r hd).mono ?_;rintro e w' ⟨A,c,rfl,_,hb⟩;exact⟨A,_,c,rfl,hb⟩
 have HBAD:Hy (∀a q W,r=a::q→Below w3.heap.size w3 W→Calls Tryz.prog 25 #[.pointer (some ⟨pb,0,none⟩),.string y0] W fun e w'=>e=.returned (.tuple #[.slice none 0 0,.int .i64 6])∧Below W.heap.size W w'):=hy' fun a q W hr hW=>by
  rw[hr]at hd;exact Sp.parts_bad _ y0 W (HH3.o.next hW) (by simp only[maxLen];omega) cs a q hd ⟨pb,rfl⟩
 have HLP:=hy' hL;have HPN:=hy' hpn;have HFL:=hy' hFl;have HGL:=hy' hGl;have HLF:=hy' hLf;have HNE:=hy' hLne;have HLM:=hy' hLm;have HLU:=hy' hLu;have HFN:=hy' hFn;have HGN:=hy' hGn;have HFC:=hy' hFc;have HGC:=hy' hGc;have HT:=hy' ht;have HQ0:=hy' (Below.refl w3.heap.size w3);clear hok hy0 hd hyl hp hL hpn hF hG hsp hFl hGl hLf hLne hLm hLu hfl hFn hGn hFc hGc ht HL3 z0 z1 zl;go_wp2_with fail;refine (HCU3.o w3).mono ?_;rintro e w' ⟨rfl,rfl⟩;go_wp2_with fail;refine (HDE.o w3).mono ?_;rintro e q1 ⟨A4,n4,c4,rfl,hb⟩;have HQ1:=hy' hb;clear hb;obtain⟨at1,hat1⟩:∃q,zPr cs r=q:=⟨_,rfl⟩;rw[hat1];have HAT1:=hy' hat1;clear hat1;go_upto_if 51 with (fail)
 go_cut [] (fun wx=>Below w3.heap.size w3 wx)
 case first =>
  have hat1:=HAT1.o;rcases hr:r with _|⟨a,q⟩
  · rw[hr]at hat1;have:zPr cs [] = -1:=rfl;rw[this]at hat1;subst hat1;clear hr this;go_wp2_with fail;go_meet;exact HQ1.o
  rw[hr,zKb]at hat1;have ha:at1≥0:=by omega
  have HR2:=hy' hr;clear hr hat1;go_wp2_with fail;refine (HBAD.o a q q1 HR2.o HQ1.o).mono ?_;rintro e q2 ⟨rfl,hb⟩;have HQ2:=hy' (HQ1.o.trans (hb.mono HQ1.o.size));clear hb;go_wp2_with fail;go_meet;exact HQ2.o
 obtain⟨q2,rfl⟩:∃q:World,q=wc:=⟨_,rfl⟩;have HQ2:=hy' hcut;clear hcut;go_wp2_with fail;refine (HEN.o q2 HQ2.o).mono ?_;rintro e q3 ⟨rfl,hb⟩;have HQ3:=hy' (HQ2.o.trans (hb.mono HQ2.o.size));clear hb;go_wp2_with fail;refine (HPA.o q3 HQ3.o).mono ?_;rintro e q4 ⟨A5,c5,rfl,hs5,hb⟩;have HQ4:=hy' (HQ3.o.trans (hb.mono HQ3.o.size));have HS5:=hy' hs5;clear hb hs5;go_upto_block 0 with (fail)
 go_cut [16,17,18] (fun s1 s2 s3 wx=>s1=.string t∧s2=.string (zAv (F l))∧s3=.string (zAv (G l))∧Below w3.heap.size w3 wx)
 case rest =>
  obtain⟨rfl,rfl,rfl,hbc⟩:=hcut;obtain⟨q5,rfl⟩:∃q:World,q=wc:=⟨_,rfl⟩;have HQ5:=hy' hbc;have hd1:=HOD.o l;have hd2:=HOC.o l;rw[HT.o]at hd1 hd2;obtain⟨sd,hsd⟩:∃q,zAv (F l)=q:=⟨_,rfl⟩;obtain⟨sc,hsc⟩:∃q,zAv (G l)=q:=⟨_,rfl⟩;rw[hsd]at hd1;rw[hsc]at hd2;rw[hsd,hsc];have HD1:=hy' (fun W hW=>hd1 W hW HLC.o (by rw[HLN.o];omega));have HD2:=hy' (fun W hW=>hd2 W hW HLC.o (by rw[HLN.o];omega));clear hbc hd1 hd2 hsd hsc;go_wp2_with fail;refine (HD1.o q5 HQ5.o).mono ?_;rintro e q6 ⟨rfl,hb⟩;have HQ6:=hy' (HQ5.o.trans (hb.mono HQ5.o.size));clear hb;go_wp2_with fail;refine (HD2.o q6 HQ6.o).mono ?_;rintro e q7 ⟨rfl,hb⟩;have HQ7:=hy' (HQ6.o.trans (hb.mono HQ6.o.size));clear hb;go_wp2_with fail;go_loopw [29,127] (fun vn vi wr=>∃k:Nat,k≤ln∧vi=.int .i64 k∧(∃q:Nat,(Sp.cut p (l.take k)).length=q∧vn=.int .i64 q)∧Below w3.heap.size w3 wr) (fun _ vi _=>ln-(intOf vi).toNat)
  case atStart=>exact⟨0,Nat.zero_le _,rfl,⟨0,rfl,rfl⟩,HQ7.o⟩
  obtain⟨k,hk,rfl,⟨nq,hnq,rfl⟩,hbr⟩:=hrel;obtain⟨q8,rfl⟩:∃q:World,q=wr:=⟨_,rfl⟩;have HR0:=hy' hbr
  have hnl:nq≤30:=by
   have:=Sp.cut_le p (l.take k);rw[hnq,List.length_take]at this;omega
  by_cases hlt:k<ln
  rotate_left
  · obtain rfl:k=ln:=by omega
    have htk:l.take k=l:=List.take_of_length_le (by rw[HLN.o];exact Nat.le_refl _);rw[htk,HLP.o,HPN.o]at hnq;subst hnq;have kI:¬(k:Int)<k:=by omega
    have e1:(t.toList == t.toList)=true:=by rw[zG9,decide_eq_true rfl]
    have e2:(sd.toList == sd.toList)=true:=by rw[zG9,decide_eq_true rfl]
    have e3:(sc.toList == sc.toList)=true:=by rw[zG9,decide_eq_true rfl]
    have e4:((pn:Int) == pn)=true:=by simp
    have HB:=hy' (HB3.o.trans (HR0.o.mono HB3.o.size));clear htk hbr;go_wp2_with fail;go_ret;exact⟨by first|rfl|(simp;done),HB.o⟩
  obtain⟨x,hx⟩:∃x,l[k]?=some x:=⟨_,List.getElem?_eq_getElem (by rw[HLN.o];exact hlt)⟩;obtain⟨hx1,hx2⟩:=HLB.o x (List.mem_of_getElem? hx);obtain⟨ab,ao,rfl,hab,hac⟩:=HL33.o (by rw[List.length_map,HLN.o];omega);have hc:=hac k (by rw[List.length_map,HLN.o];exact hlt);rw[List.getElem?_map,hx,Option.map_some,←(zAQ hbr).1 _ _ hab]at hc;have hab2:=Nat.lt_of_lt_of_le hab hbr.size;have htk:l.take (k+1)=l.take k++[x]:=by rw[List.take_add_one,hx];rfl
  have hcl:=Sp.cut_len p (l.take k) x;rw[←htk,hnq]at hcl
  have hnil:l.take k=[]↔k=0:=by
   rw[←List.length_eq_zero_iff,List.length_take,HLN.o];omega
  have HNIL:=hy' hnil;have hw0:IntKind.i32.wrap x=x:=by rw[IntKind.wrap_i32];omega
  have kI:(k:Int)<ln:=by omega
  have k0:(0:Int)≤k:=by omega
  have HCL:=hy' hcl;clear hx hx1 hx2 hac htk hnil hcl hbr hnq;rcases Nat.eq_zero_or_pos k with hk0|hk0
  · subst hk0;have h1:=HCL.o;rw[if_pos (.inl (HNIL.o.2 rfl))]at h1;have HC1:=hy' h1;rw[Nat.add_zero]at hc;clear h1;go_wp2_with fail;go_roundw
    case rel=>exact⟨0+1,by omega,by first|rfl|go_num,⟨nq+1,HC1.o,by first|rfl|go_num⟩,HR0.o⟩
    simp[intOf];omega
  have kz:((k:Int) == 0)=false:=by simp;omega
  rcases hpx:p x with _|_
  · have h1:=HCL.o;rw[if_neg (fun hh=>hh.elim (fun h=>absurd (HNIL.o.1 h) (by omega)) (fun h=>by rw[hpx]at h;cases h))]at h1;have HC1:=hy' h1;have HPX:=hy' hpx;clear h1 hpx;go_wp2_with fail;refine (HSF.o x q8 HR0.o).mono ?_;rw[HPX.o];rintro e q9 ⟨rfl,hb⟩;have HR1:=hy' (HR0.o.trans (hb.mono HR0.o.size));clear hb hc hab2;go_wp2_with fail;go_roundw
    case rel=>exact⟨k+1,by omega,by first|rfl|go_num,⟨nq,by rw[HC1.o];rfl,rfl⟩,HR1.o⟩
    simp[intOf];omega
  have h1:=HCL.o;rw[if_pos (.inr hpx)]at h1;have HC1:=hy' h1;have HPX:=hy' hpx;clear h1 hpx;go_wp2_with fail;refine (HSF.o x q8 HR0.o).mono ?_;rw[HPX.o];rintro e q9 ⟨rfl,hb⟩;have HR1:=hy' (HR0.o.trans (hb.mono HR0.o.size));clear hb hc hab2;go_wp2_with fail;go_roundw
  case rel=>exact⟨k+1,by omega,by first|rfl|go_num,⟨nq+1,HC1.o,by first|rfl|go_num⟩,HR1.o⟩
  simp[intOf];omega
 go_wp2_with fail;go_loopw [16,17,18,77] (fun v1 v2 v3 vi wr=>∃k:Nat,k≤pn∧vi=.int .i64 k∧v1=.string (zAv ((L.take k).flatMap id))∧v2=.string (zAv ((L.take k).flatMap F))∧v3=.string (zAv ((L.take k).flatMap G))∧Below q4.heap.size q4 wr) (fun _ _ _ vi _=>pn-(intOf vi).toNat)
 case atStart=>exact⟨0,Nat.zero_le _,rfl,by rw[List.take_zero];rfl,by rw[List.take_zero];rfl,by rw[List.take_zero];rfl,Below.refl _ _⟩
 obtain⟨k,hk,rfl,rfl,rfl,rfl,hbr⟩:=hrel;obtain⟨q5,rfl⟩:∃q:World,q=wr:=⟨_,rfl⟩;have HR0:=hy' (HQ4.o.trans (hbr.mono HQ4.o.size));have HRR:=hy' hbr
 by_cases hlt:k<pn
 rotate_left
 · obtain rfl:k=pn:=by omega
   have kI:¬(k:Int)<k:=by omega
   have htk:L.take k=L:=List.take_of_length_le (by rw[HPN.o];exact Nat.le_refl _);have HTK:=hy' htk;clear htk hbr;go_wp2_with fail;go_meet;rw[HTK.o];exact⟨by first|rw[List.flatMap_id,HLF.o,HT.o]|rw[HLF.o,HT.o],by rw[HFL.o],by rw[HGL.o],HR0.o⟩
 obtain⟨u,hu⟩:∃u,L[k]?=some u:=⟨_,List.getElem?_eq_getElem (by rw[HPN.o];exact hlt)⟩;have hum:=List.mem_of_getElem? hu;have huc:=HLM.o u hum;have hul:=HLU.o u hum;have hune:=HNE.o u hum;obtain⟨b5,o5,rfl,hb5,hc5⟩:=HS5.o (by unfold Sp.vs;rw[List.length_map,HPN.o];omega);have hc:=hc5 k (by unfold Sp.vs;rw[List.length_map,HPN.o];exact hlt);have hvk:(Sp.vs L)[k]?=some (.string (zAv u)):=by unfold Sp.vs;rw[List.getElem?_map,hu];rfl
 rw[hvk,←(zAQ hbr).1 _ _ hb5]at hc;have hg5:=Nat.lt_of_lt_of_le hb5 hbr.size;have hX0:(L.flatMap id)=l:=by rw[List.flatMap_id,HLF.o]
 have hXc:∀c∈(L.take k).flatMap id,C.isC c=true:=fun c hc=>by
  obtain⟨v,hv,hcv⟩:=List.mem_flatMap.1 hc;exact HLM.o v (List.mem_of_mem_take hv) c hcv
 have hFc2:∀c∈(L.take k).flatMap F,C.isC c=true:=fun c hc=>by
  obtain⟨v,hv,hcv⟩:=List.mem_flatMap.1 hc;exact HFC.o v (HLM.o v (List.mem_of_mem_take hv)) c hcv
 have hGc2:∀c∈(L.take k).flatMap G,C.isC c=true:=fun c hc=>by
  obtain⟨v,hv,hcv⟩:=List.mem_flatMap.1 hc;exact HGC.o v (HLM.o v (List.mem_of_mem_take hv)) c hcv
 have e1:=U.encS_app hXc huc;have e2:=U.encS_app hFc2 (HFC.o u huc);have e3:=U.encS_app hGc2 (HGC.o u huc);rw[show (L.take k).flatMap id++u=(L.take (k+1)).flatMap id by rw[Sp.fm_succ hu];rfl]at e1;rw[←Sp.fm_succ hu]at e2 e3;have l1:=Nat.le_trans (zEr hXc) (Nat.mul_le_mul_left 4 (Sp.fm_le (F:=id) L k));have l2:=Nat.le_trans (zEr hFc2) (Nat.mul_le_mul_left 4 (Sp.fm_le (F:=F) L k));have l3:=Nat.le_trans (zEr hGc2) (Nat.mul_le_mul_left 4 (Sp.fm_le (F:=G) L k));have l4:=zEr huc;have l5:=zEr (HFC.o u huc);have l6:=zEr (HGC.o u huc)
 have l7:(F u).length≤2000:=by
  have h1:=Sp.fm_le (F:=F) L (k+1);rw[Sp.fm_succ hu,←HFL.o,List.length_append]at h1;have:=HFN.o;omega
 have l8:(G u).length≤2000:=by
  have h1:=Sp.fm_le (F:=G) L (k+1);rw[Sp.fm_succ hu,←HGL.o,List.length_append]at h1;have:=HGN.o;omega
 rw[hX0,HLN.o]at l1;rw[←HFL.o]at l2;rw[←HGL.o]at l3;have hFN:=HFN.o;have hGN:=HGN.o;obtain⟨su,hsu⟩:∃q,zAv u=q:=⟨_,rfl⟩;obtain⟨sx,hsx⟩:∃q,zAv ((L.take k).flatMap id)=q:=⟨_,rfl⟩;obtain⟨sf,hsf⟩:∃q,zAv ((L.take k).flatMap F)=q:=⟨_,rfl⟩;obtain⟨sg,hsg⟩:∃q,zAv ((L.take k).flatMap G)=q:=⟨_,rfl⟩;obtain⟨fu,hfu⟩:∃q,zAv (F u)=q:=⟨_,rfl⟩;obtain⟨gu,hgu⟩:∃q,zAv (G u)=q:=⟨_,rfl⟩;have hd1:=HOD.o u;have hd2:=HOC.o u;rw[hsu,hfu]at hd1;rw[hsu,hgu]at hd2;rw[hsu,hsx]at e1;rw[hsf,hfu]at e2;rw[hsg,hgu]at e3;rw[hsx]at l1;rw[hsf]at l2;rw[hsg]at l3;rw[hsu]at l4 hc;rw[hfu]at l5;rw[hgu]at l6;rw[hsx,hsf,hsg]
 have hne:su≠⟨#[]⟩:=fun e=>by
  cases hu1:u with
  | nil=>exact hune hu1
  | cons c q =>
    rw[←hsu,zIT huc,hu1,zAu]at e;have h1:(zAn c++zAd q).toArray = #[]:=congrArg ByteArray.data e;have h2:=Sp.enc_pos c;have h3:=congrArg Array.size h1;rw[List.size_toArray,List.length_append]at h3;have h4:(#[]:Array UInt8).size=0:=rfl;omega
 have hq1:¬su.toList=[]:=fun e=>by
  have h1:=zG9 su ⟨#[]⟩;rw[decide_eq_false hne,e]at h1;simp at h1
 have k1:¬9223372036854775807<sx.size+su.size:=by omega
 have k2:¬9223372036854775807<sf.size+fu.size:=by omega
 have k3:¬9223372036854775807<sg.size+gu.size:=by omega
 have kI:(k:Int)<pn:=by omega
 have k0:(0:Int)≤k:=by omega
 have HE1:=hy' e1;have HE2:=hy' e2;have HE3:=hy' e3;have HD1:=hy' (fun W hW=>hd1 W hW huc hul);have HD2:=hy' (fun W hW=>hd2 W hW huc hul);have HQE:=hy' (show su.toList.isEmpty=false by simpa using hq1);clear e1 e2 e3 l1 l2 l3 l4 l5 l6 l7 l8 hd1 hd2 hsu hsx hsf hsg hfu hgu hne hq1 hXc hFc2 hGc2 hX0 hvk hc5 hb5 hum huc hul hune hu hFN hGN hbr;go_wp2_with fail;refine (HD1.o q5 HR0.o).mono ?_;rintro e q6 ⟨rfl,hb⟩;have HR1:=hy' (HR0.o.trans (hb.mono HR0.o.size));have HRR1:=hy' (HRR.o.trans (hb.mono HRR.o.size));clear hb hc hg5;go_wp2_with fail;refine (HD2.o q6 HR1.o).mono ?_;rintro e q7 ⟨rfl,hb⟩;have HRR2:=hy' (HRR1.o.trans (hb.mono HRR1.o.size));have hq1:=HQE.o;clear hb;go_wp2_with fail;exact⟨⟨k+1,by omega,by first|rfl|go_num,by rw[←HE1.o],by rw[←HE2.o],by rw[←HE3.o],HRR2.o⟩,by simp[intOf];omega⟩
end Go.Proofs.YtjakbblocbicjaaGreatDoor
