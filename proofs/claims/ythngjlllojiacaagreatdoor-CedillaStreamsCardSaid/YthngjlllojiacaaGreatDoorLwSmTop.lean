/- The law CedillaStreams, by walking its text. -/
import Derived.Test.YthngjlllojiacaaGreatDoorSmFlow
import Derived.Test.YthngjlllojiacaaGreatDoorNfLaid
import Derived.Test.YthngjlllojiacaaGreatDoorNcTwo
import Derived.Test.YthngjlllojiacaaGreatDoorUtfF
import Derived.Test.YthngjlllojiacaaGreatDoorUtfJ
import Derived.Test.YthngjlllojiacaaGreatDoorMdRef4
import Derived.Test.YthngjlllojiacaaGreatDoorStage
import Derived.Test.YthngjlllojiacaaGreatDoorMdTable
import Derived.BigRegion
import Derived.BigQuiet
import Derived.Deep.DeepCutAuto
import Derived.Deep.CutBlock
set_option linter.unusedSectionVars false
namespace Go.Proofs.YthngjlllojiacaaGreatDoor
open Go.RowKit
set_option linter.unusedSimpArgs false
set_option linter.unusedVariables false
theorem U.encS_cat {x y:List Int} (hx:∀c∈x,C.isC c=true) (hy:∀c∈y,C.isC c=true):zBc x++zBc y=zBc (x++y):=by
 rw[zIB hx,zIB hy,zIB (fun c hc=>(List.mem_append.1 hc).elim (hx c) (hy c)),zDT];apply ByteArray.ext
 simp
theorem Sm.and3 (n:Int):∃c:Nat,bits .and .i64 n 7=(c:Int)∧c<8:=by
 have hm:(BitVec.ofInt 64 7).toNat=2 ^ 3-1:=by decide
 have key:(BitVec.ofInt 64 n &&& BitVec.ofInt 64 7).toNat=(n%((2 ^ 64:Nat):Int)).toNat%2 ^ 3:=by
  rw[BitVec.toNat_and,BitVec.toNat_ofInt,hm,Nat.and_two_pow_sub_one_eq_mod]
 refine⟨(n%((2 ^ 64:Nat):Int)).toNat%2 ^ 3,?_,?_⟩
 · show IntKind.i64.wrap ((BitVec.ofInt 64 n &&& BitVec.ofInt 64 7).toNat:Nat)=_;rw[key,IntKind.wrap_i64];omega
 have:(2:Nat) ^ 3=8:=by decide
 omega
def Sm.strN:Value→Nat
 | .string s=>s.size
 | _=>0
theorem Sm.ext2 {l:List UInt8} {s:ByteArray} (hs:s=⟨l.toArray⟩) (n:Nat):s.extract 0 n=⟨(l.take n).toArray⟩∧(n≤l.length→s.extract n s.size=⟨(l.drop n).toArray⟩):=by
 subst hs;constructor
 · apply ByteArray.ext
   apply Array.toList_inj.1
   rw[Lib.extract_data,Nat.sub_zero,List.drop_zero]
 intro h;apply ByteArray.ext
 apply Array.toList_inj.1
 rw[Lib.extract_data];show (l.drop n).take (l.length-n)=l.drop n;exact List.take_of_length_le (by rw[List.length_drop];exact Nat.le_refl _)
theorem Sm.F_F {T:List Rw.Row} {S:List Int} (ok:Ud.Ok T S) (b:Bool) (l:List Int):Sm.F T S b (Sm.F T S (!b) l)=Sm.F T S b l:=by
 cases b
 · exact zOd ok l
 exact zRk ok l
theorem Sm.F_fl {T:List Rw.Row} {S:List Int} (ok:Ud.Ok T S) (b:Bool) {l:List Int} (h:(Nf.fl T l).length≤1024):(Nf.fl T (Sm.F T S b l)).length≤1024:=by
 cases b
 · exact Nf.fl_ch ok h
 exact Nc.fl_ch ok h
set_option maxRecDepth 100000 in
set_option maxHeartbeats 4000000 in
theorem Tp.cedillaStreams_any (w:World) (A XA PA MA:Option Addr) (n c xn xc pn pc mn mc:Nat) (T0:List Rw.Row) (E0 P M:List Int) (hT:Tx.In A XA PA MA n c xn xc pn pc mn mc T0 E0 P M w) (QA:Option Addr) (qn qc:Nat) (qs:List Int) (hq:IsRow .i64 w QA qn qc qs) (hqb:∀x∈qs,-9223372036854775808≤x∧x≤9223372036854775807) (sw:Bool) (hL:Nf.Laid w) :
 Calls Tryz.prog 8 #[.agg #[.slice A n c,.slice XA xn xc,.slice PA pn pc,.slice MA mn mc],.slice QA qn qc,.bool sw] w fun e w'=>e=.returned (.bool true)∧Below w.heap.size w w':=by
 have HMADE:=hy' (fun W (hW:Below w.heap.size w W)=>zRX A XA PA MA n c xn xc pn pc mn mc T0 E0 P M 24 W (by decide) (hT.below hW) (Rw.Laid.next hL.1 hW));obtain⟨wa,hwa⟩:∃wa,w.alloc (.cells #[.slice A n c,.slice XA xn xc,.slice PA pn pc,.slice MA mn mc] 40)=wa:=⟨_,rfl⟩;have hba:Below w.heap.size w wa:=by rw[←hwa];exact (Below.refl _ _).alloc (Nat.le_refl _) _
 have hat:Rw.At wa w.heap.size 40 [.slice A n c,.slice XA xn xc,.slice PA pn pc,.slice MA mn mc]:=by rw[←hwa];exact Rw.At.new w 40 [.slice A n c,.slice XA xn xc,.slice PA pn pc,.slice MA mn mc]
 have HWA:=hy' hwa;have HBA:=hy' hba;have HAT:=hy' hat;obtain⟨hq1,hq2,hq3⟩:=hq.len_le;have HQS:=hy' ((hq.sl qn (Nat.le_refl _)).below hba hba.size);have HQN:Hy ((qs.take qn).length=qn):=hy' (by rw[List.length_take];omega);have HQM:Hy (qn≤maxLen):=hy' (by omega);have HH:=hy' hL.2;clear hwa hba hat hT hL hq hqb hq1 hq2 hq3;go_enter Tryz.func8,Tryz.ntmps8;go_upto_region 1 with (fail)
 rw[HWA.o];obtain⟨w1,hw1⟩:∃w1,wa=w1:=⟨_,rfl⟩;have hat1:=HAT.o;rw[hw1]at hat1;have HB1:=hy' (show Below w.heap.size w w1 by rw[←hw1];exact HBA.o);rw[hw1];have x0:=hat1.cell 0 rfl;have x1:=hat1.cell 1 rfl;have x2:=hat1.cell 2 rfl;have x3:=hat1.cell 3 rfl;have xl:=hat1.lt;clear hat1;go_wp2_with fail;refine (HMADE.o w1 HB1.o).mono ?_;rintro e w2 ⟨p,v2,T,E,S,l,Al,cl,rfl,his,hdo,hR,hown,hlc,hll,hap,hb2⟩;obtain⟨pb,rfl,hpbl⟩:=his.form;obtain⟨A2,c2,XA2,xc2,rfl,hdo2⟩:=id hdo;obtain⟨n2,hn2⟩:∃k,T.length=k:=⟨_,rfl⟩;obtain⟨xn2,hxn2⟩:∃k,E.length=k:=⟨_,rfl⟩;obtain⟨ln,hln⟩:∃k,l.length=k:=⟨_,rfl⟩;unfold zBd at hdo hap ⊢;rw[hn2,hxn2]at hdo ⊢;simp only[hn2,hxn2]at hap;rw[hln]at hown hll hap ⊢;obtain⟨w3,hw3⟩:∃w3,w2.alloc (.cells #[.slice A2 n2 c2,.slice XA2 xn2 xc2] 38)=w3:=⟨_,rfl⟩;have hb3:Below w2.heap.size w2 w3:=by rw[←hw3];exact (Below.refl _ _).alloc (Nat.le_refl _) _
 have hat3:Rw.At w3 w2.heap.size 38 [.slice A2 n2 c2,.slice XA2 xn2 xc2]:=by rw[←hw3];exact Rw.At.new w2 38 [.slice A2 n2 c2,.slice XA2 xn2 xc2]
 have HW3:=hy' hw3;have HB3:=hy' (HB1.o.trans ((hb2.trans (hb3.mono hb2.size)).mono HB1.o.size));have HT3:=hy' hat3;have HBA3:=hy' (show Below wa.heap.size wa w3 by rw[hw1];exact hb2.trans (hb3.mono hb2.size));have HI3:=hy' (his.below hb3);have HD3:=hy' (hdo.below hb3);have HL3:=hy' (zA4 hown hb3 (Nat.le_refl _));have HR:=hy' hR;have HLC:=hy' hlc;have HLN:=hy' hln;have HN2:=hy' hn2;have HAP:Hy (∀w'',w3.grownBy w'' (Value.slice Al ln cl).ownBlock→Ud.Is w'' (.pointer (some ⟨pb,0,none⟩)) T S∧Md.Doc w'' (.agg #[.slice A2 n2 c2,.slice XA2 xn2 xc2]) T E):=hy' fun w'' hg=>hap w'' (zA0 (by rw[←hw3];exact World.grownBy_alloc _ _ _) hg)
 have HLB:=hy' (fun x (hx:x∈l)=>Tx.isC_i32 (hlc x hx));have z0:=hat3.cell 0 rfl;have z1:=hat3.cell 1 rfl;have zl:=hat3.lt;clear x0 x1 x2 x3 xl hap hdo hdo2 his hR hown hlc hln hn2 hxn2 hw3 hb3 hat3 hb2 hw1 HMADE HWA HBA HAT;go_upto_region 2 with (fail)
 rw[HW3.o];have hok:=HR.o.ok;have HL33:=hy' (Sl.of_own HL3.o);have HH3:=hy' (HH.o.next HB3.o);have HQ0:=hy' (Below.refl w3.heap.size w3)
 have HEN:Hy (∀(A':Option Addr) (m c':Nat) (z:List Int) (sq:ByteArray) (W:World),z.length=m→m≤2000→(∀c∈z,C.isC c=true)→zBc z=sq→Sl W W.heap.size A' (z.map (Value.int .i64))→Calls Tryz.prog 18 #[.slice A' m c'] W fun e w'=>e=.returned (.string sq)∧Below W.heap.size W w'):=hy' fun A' m c' z sq W hz hm hzl hs hA=>by
  have:=zRG A' m c' z W hz (by omega) hA hzl;rw[hs]at this;exact this
 have HOD:Hy (∀(z:List Int) (s r:ByteArray) (W:World),Below w3.heap.size w3 W→(∀c∈z,C.isC c=true)→(Nf.fl T z).length≤1024→zBc z=s→zBc (Nf.chars T z)=r→Calls Tryz.prog 24 #[.pointer (some ⟨pb,0,none⟩),.string s] W fun e w'=>e=.returned (.tuple #[.string r,.int .i64 0])∧Below W.heap.size W w'):=hy' fun z s r W hW hz hf hs hr=>by
  have:=Nf.of_chars _ T S z W hok (HI3.o.below hW) (HH3.o.next hW) hz (by have:=zOc hok z;omega) hf;rw[hs,hr]at this;exact this
 have HOC:Hy (∀(z:List Int) (s r:ByteArray) (W:World),Below w3.heap.size w3 W→(∀c∈z,C.isC c=true)→(Nf.fl T z).length≤1024→zBc z=s→zBc (Nc.chars T S z)=r→Calls Tryz.prog 25 #[.pointer (some ⟨pb,0,none⟩),.string s] W fun e w'=>e=.returned (.tuple #[.string r,.int .i64 0])∧Below W.heap.size W w'):=hy' fun z s r W hW hz hf hs hr=>by
  have:=Nc.of_chars _ T S z W hok (HI3.o.below hW) (HH3.o.next hW) hz (by have:=zOc hok z;omega) hf;rw[hs,hr]at this;exact this
 have hfl:(Nf.fl T l).length≤1024:=Nf.fl_30 hok (by rw[HLN.o];omega);have HOK:=hy' hok;have HFL:=hy' hfl;obtain⟨f1,hf1⟩:∃fm:Int,(if (!sw)=true then 2 else 1)=fm:=⟨_,rfl⟩;obtain⟨f2,hf2⟩:∃fm:Int,(if sw=true then 2 else 1)=fm:=⟨_,rfl⟩
 have HNEW:Hy (∀W,Calls Tryz.prog 11 #[.pointer (some ⟨pb,0,none⟩),.int .i64 f1] W fun e w'=>e=.returned (.tuple #[.pointer (some ⟨W.heap.size,0,none⟩),.int .i64 0])∧Below W.heap.size W w'∧Sm.At w' W.heap.size (Sm.v pb) (Sm.fv (!sw)) (Sm.bad 0)):=hy' fun W=>by
  have:=Sm.new_any pb (!sw) W;rw[hf1]at this;exact this
 have HNEW2:Hy (∀W,Calls Tryz.prog 11 #[.pointer (some ⟨pb,0,none⟩),.int .i64 f2] W fun e w'=>e=.returned (.tuple #[.pointer (some ⟨W.heap.size,0,none⟩),.int .i64 0])∧Below W.heap.size W w'∧Sm.At w' W.heap.size (Sm.v pb) (Sm.fv sw) (Sm.bad 0)):=hy' fun W=>by
  have:=Sm.new_any pb sw W;rw[hf2]at this;exact this
 have HFM:Hy (f1=(if (!sw)=true then 2 else 1)∧f2=if sw=true then 2 else 1):=hy' ⟨hf1.symm,hf2.symm⟩;obtain⟨sl,hsl⟩:∃q,zBc l=q:=⟨_,rfl⟩;obtain⟨bs,hbs⟩:∃q,zAx l=q:=⟨_,rfl⟩;have hsd:sl=⟨bs.toArray⟩:=by rw[←hsl,zIB HLC.o,hbs]
 obtain⟨bn,hbl⟩:∃q,bs.length=q:=⟨_,rfl⟩
 have hpe:bn≤10000:=by
  have h1:(zAx l).length≤4*l.length:=zIA l;have h2:=HLN.o;rw[hbs]at h1;omega
 have hnl:(Nf.fl T l).length≤1024:=hfl;have HD1:=hy' (HOD.o l sl);have HC1:=hy' (HOC.o l sl);have HSL:=hy' hsl;have HBS:=hy' hbs;have HSD:=hy' hsd;have HBL:=hy' hbl;have HBM:=hy' hpe;have H1C:Hy (∀c∈Sm.F T S (!sw) l,C.isC c=true):=hy' (Sm.F_isC hok _ HLC.o);have H1F:Hy ((Nf.fl T (Sm.F T S (!sw) l)).length≤1024):=hy' (Sm.F_fl hok _ hfl)
 have H2S:Hy ((zBc (Sm.F T S sw l)).size≤5000):=hy' (by
  have h1:=zFQ (z:=Sm.F T S sw l) (Sm.F_isC hok _ HLC.o);have h2:=Sm.F_le hok sw l;omega)
 clear hfl hok hsl hsd hbs hpe hbl HL3 hf1 hf2 hnl HOD HOC;go_upto_if 43 with (fail)
 go_cut [11,12] (fun s1 s2 wx=>s1=.int .i64 f1∧s2=.int .i64 f2∧w3=wx)
 case first =>
  cases sw
  · obtain⟨h1,h2⟩:=HFM.o;simp only[Bool.not_false,Bool.false_eq_true,if_true,if_false]at h1 h2;subst h1 h2;go_wp2_with fail;go_meet;exact⟨by first|rfl|trivial,by first|rfl|trivial,by first|rfl|trivial⟩
  obtain⟨h1,h2⟩:=HFM.o;simp only[Bool.not_true,Bool.false_eq_true,if_true,if_false]at h1 h2;subst h1 h2;go_wp2_with fail;go_meet;exact⟨by first|rfl|trivial,by first|rfl|trivial,by first|rfl|trivial⟩
 obtain⟨rfl,rfl,rfl⟩:=hcut;go_wp2_with fail;refine (HNEW.o _).mono ?_;rintro e q5 ⟨rfl,hb,hat⟩;obtain⟨g,hg⟩:∃g,w3.heap.size=g:=⟨_,rfl⟩;have HG:Hy (w3.heap.size≤g):=hy' (Nat.le_of_eq hg);have HB5:=hy' hb;rw[hg]at hat;have HA5:=hy' hat;rw[hg];clear hb hat hg z0 z1 zl;go_wp2_with fail;refine (HNEW2.o _).mono ?_;rintro e q6 ⟨rfl,hb,hat⟩;have hgg:g<q5.heap.size:=Rw.At.lt HA5.o;obtain⟨g2,hg2⟩:∃g,q5.heap.size=g:=⟨_,rfl⟩;rw[hg2]at hgg hat;have HG2:Hy (w3.heap.size≤g2):=hy' (by rw[←hg2];exact HB5.o.size);have HNE:Hy (g≠g2):=hy' (by omega);have HB6:=hy' (HB5.o.trans (hb.mono HB5.o.size));have HA6:=hy' (Rw.At.below HA5.o hb);have HC6:=hy' hat;rw[hg2];clear hb hat hg2 hgg HNEW HNEW2;go_wp2_with fail;have HE1:=HEN.o Al ln cl l sl q6 HLN.o (by omega) HLC.o HSL.o (HL33.o.below HB6.o HB6.o.size);refine HE1.mono ?_;rintro e r1 ⟨rfl,hb⟩;have HR1:=hy' (HB6.o.trans (hb.mono HB6.o.size));have HA1:=hy' (Rw.At.below HA6.o hb);have HC1':=hy' (Rw.At.below HC6.o hb);clear hb HE1;go_wp2_with fail;go_loopw [18,19,20,21,22,23,24,25] (fun vr va vi _ _ _ _ _ wr=>∃(k i:Nat) (a r:List Int) (h:List UInt8) (sr:ByteArray),k≤bn∧i≤k∧vr=.string sr∧sr=⟨(bs.drop k).toArray⟩∧va=.string (zBc (Sm.F T S sw (Sm.cutAt T S (Sm.F T S (!sw) (Sm.cutAt T S a)))))∧vi=.int .i64 i∧l=a++r∧Sm.fits r h∧zAx r=h++bs.drop k∧Sm.At wr g (Sm.v pb) (Sm.fv (!sw)) (Sm.can' T S a h)∧Sm.At wr g2 (Sm.v pb) (Sm.fv sw) (Sm.can' T S (Sm.F T S (!sw) (Sm.cutAt T S a)) [])∧Below w3.heap.size w3 wr) (fun vr _ _ _ _ _ _ _ _=>Sm.strN vr)
 case atStart=>exact⟨0,0,[],l,[],sl,Nat.zero_le _,Nat.zero_le _,rfl,by rw[List.drop_zero];exact HSD.o,by rw[show Sm.cutAt T S []=[] from rfl,Sm.F_nil,show Sm.cutAt T S []=[] from rfl,Sm.F_nil];rfl,rfl,rfl,.inl rfl,by rw[List.drop_zero,HBS.o];rfl,HA1.o,by rw[show Sm.cutAt T S []=[] from rfl,Sm.F_nil];exact HC1'.o,HR1.o⟩
 obtain⟨k,i,a,r,h,sr,hk,hik,rfl,hsr,rfl,rfl,hl,hfit,hen,hat,hct,hbr⟩:=hrel;obtain⟨x0,rfl⟩:∃q:World,q=wr:=⟨_,rfl⟩;have HL:=hy' hl;have HFIT:=hy' hfit;have HENR:=hy' hen;have HAX:=hy' hat;have HCX:=hy' hct;have HBX:=hy' hbr;have HSR:=hy' hsr;have HAC:Hy (∀c∈a++r,C.isC c=true):=hy' (by rw[←HL.o];exact HLC.o);have HAF:Hy ((Nf.fl T (a++r)).length≤1024):=hy' (by rw[←HL.o];exact HFL.o);obtain⟨a1,ha1⟩:∃q,Sm.F T S (!sw) (Sm.cutAt T S a)=q:=⟨_,rfl⟩
 have hX:∀c∈Sm.F T S sw (Sm.cutAt T S a1),C.isC c=true:=by
  rw[←ha1];exact Sm.F_isC HOK.o _ fun c hc=>Sm.F_isC HOK.o _ (fun c hc=>HAC.o c (List.mem_append_left _ (List.mem_of_mem_take hc))) c (List.mem_of_mem_take hc)
 obtain⟨sX,hsX⟩:∃q,zBc (Sm.F T S sw (Sm.cutAt T S a1))=q:=⟨_,rfl⟩;rw[ha1,hsX];have HXC:=hy' hX;have HSX:=hy' hsX;have HA1E:=hy' ha1;rw[ha1]at HCX;have hrs:sr.size=bn-k:=by rw[hsr];show (bs.drop k).length=_;rw[List.length_drop,HBL.o]
 have HRS:=hy' hrs;clear hl hfit hen hat hct hbr hsr hX hsX ha1 hrs
 by_cases hkb:k<bn
 · have hne:sr.toList.isEmpty=false:=by
    rw[ByteArray.toList_eq,HSR.o];have:(bs.drop k).length≠0:=by rw[List.length_drop,HBL.o];omega
    show (bs.drop k).isEmpty=false;cases hd:bs.drop k with
    | nil=>rw[hd]at this;exact absurd rfl this
    | cons _ _=>rfl
   have HNEm:=hy' hne;have iB:(i:Int)≤10000:=by have:=HBM.o;omega
   go_upto_if 82 with (fail)
   go_cut [21] (fun s wx=>(∃nn:Nat,s=.int .i64 nn∧1≤nn∧nn≤8)∧x0=wx)
   case first =>
    by_cases hiq:i<qn
    · have iI:(i:Int)<qn:=by omega
      obtain⟨x,hx⟩:∃x,(qs.take qn)[i]?=some x:=⟨_,List.getElem?_eq_getElem (by rw[HQN.o];exact hiq)⟩;obtain⟨b8,o8,hA8,hb8,hc8⟩:=Sl.ints (HQS.o.below (HBA3.o.trans (HBX.o.mono HBA3.o.size)) (HBA3.o.trans (HBX.o.mono HBA3.o.size)).size) hx;obtain⟨c,hc,hc7⟩:=Sm.and3 x;subst hA8;clear hx;go_wp2_with fail;go_meet;exact⟨⟨1+c,by first|rfl|go_num,by omega,by omega⟩,by first|rfl|trivial⟩
    have iI:¬(i:Int)<qn:=by omega
    go_wp2_with fail;go_meet;exact⟨⟨1,by first|rfl|trivial|go_num,by omega,by omega⟩,by first|rfl|trivial⟩
   obtain⟨⟨nn,rfl,hn1,hn8⟩,rfl⟩:=hcut;have hrs:=HRS.o;obtain⟨n1,hmn,h11,h12,h13⟩:∃n1:Nat,min (nn:Int) (sr.size:Int)=n1∧1≤n1∧n1≤sr.size∧n1≤8:=⟨(min (nn:Int) (sr.size:Int)).toNat,by omega,by omega,by omega,by omega⟩;obtain⟨e1x,e2x⟩:=Sm.ext2 HSR.o n1;have e2x:=e2x (by rw[List.length_drop,HBL.o];omega);rw[List.drop_drop]at e2x;have hen:=HENR.o;have hdr:bs.drop k=(bs.drop k).take n1++bs.drop (k+n1):=by rw[←List.drop_drop,List.take_append_drop]
   rw[hdr]at hen;have nI:(n1:Int)≤sr.size:=by omega
   have n0:(0:Int)≤n1:=by omega
   have rsm:sr.size≤10000:=by have:=HBM.o;omega
   have HWC:=Sm.write_can pb T S (!sw) w3 g HOK.o HI3.o HH3.o HG.o a r h ((bs.drop k).take n1) (bs.drop (k+n1)) x0 HBX.o HAC.o HAF.o HFIT.o hen HAX.o;rw[←e1x]at HWC;have HEX2:=hy' e2x;clear e1x e2x hen hdr hrs;go_wp2_with fail;refine HWC.mono ?_;rintro e y1 ⟨hgr,d,r',h',y,e1,f1',e2,rfl,hyc,hcat,hA⟩;have HAY:=hy' hA;have HCY:=hy' (HCX.o.other hgr HNE.o.symm);have HBY:=hy' (Sm.bel HBX.o HG.o hgr);have hl1:l=(a++d)++r':=by rw[HL.o,e1,List.append_assoc]
   have HL1:=hy' hl1;have HF1:=hy' f1';have HE2:=hy' e2;rw[HA1E.o]at hcat;have HCATN:=hy' hcat;obtain⟨sy,hsy⟩:∃q,zBc y=q:=⟨_,rfl⟩;rw[hsy];obtain⟨R2,hR2⟩:=Sm.F_cutAt HOK.o (!sw) hl1;rw[←hcat]at hR2;have hc1:=H1C.o;rw[hR2]at hc1;have HWD:=Sm.write_text pb T S sw w3 g2 HOK.o HI3.o HH3.o HG2.o a1 y sy hsy y1 HBY.o (fun c hc=>hc1 c (List.mem_append_left _ hc)) (Sm.fl_pre hR2 H1F.o) HCY.o;have HR2:=hy' hR2;clear hgr e1 f1' e2 hyc hcat hA HWC hl1 hsy hR2 hc1;go_wp2_with fail;refine HWD.mono ?_;rintro e y2 ⟨hgr,z,rfl,hzc,hcat,hA⟩;have HAY2:=hy' (HAY.o.other hgr HNE.o);rw[HCATN.o]at hA hcat;have HCY2:=hy' hA;have HBY2:=hy' (Sm.bel HBY.o HG2.o hgr);obtain⟨sz,hsz⟩:∃q,zBc z=q:=⟨_,rfl⟩;have hcs:sX++sz=zBc (Sm.F T S sw (Sm.cutAt T S (Sm.F T S (!sw) (Sm.cutAt T S (a++d))))):=by rw[←HSX.o,←hsz,U.encS_cat HXC.o hzc,hcat]
   have hnc:=Sm.cat_le rfl (by
    rw[hcs];have h9:=HR2.o;rw[HCATN.o]at h9;exact Nat.le_trans (Sm.cut_size HOK.o sw h9 H1C.o H1F.o) (by decide))
   have HCS:=hy' hcs;rw[hsz];clear hgr hcat hA HWD hzc hsz hcs;go_wp2_with fail;have hrs:=HRS.o;exact⟨⟨k+n1,i+1,a++d,r',h',_,by omega,by omega,rfl,HEX2.o,by rw[←HCS.o],by first|rfl|go_num,HL1.o,HF1.o,HE2.o,HAY2.o,HCY2.o,HBY2.o⟩,by show (sr.extract n1 sr.size).size<sr.size;rw[ByteArray.size_extract];omega⟩
 obtain rfl:k=bn:=by omega
 have hse:sr=⟨#[]⟩:=by rw[HSR.o,List.drop_of_length_le (by rw[HBL.o];exact Nat.le_refl _)]
 have hemp:sr.toList.isEmpty=true:=by rw[hse,ByteArray.toList_eq];rfl
 have hen:=HENR.o;rw[List.drop_of_length_le (by rw[HBL.o];exact Nat.le_refl _),List.append_nil]at hen;obtain⟨rfl,rfl⟩:=Sm.fits_end (fun c hc=>HAC.o c (List.mem_append_right _ hc)) HFIT.o hen;have hla:a=l:=by rw[HL.o,List.append_nil]
 subst hla;have HWC:=Sm.end_can pb T S (!sw) w3 g HOK.o HI3.o HH3.o HG.o a x0 HBX.o HLC.o HFL.o HAX.o;clear hen hse;go_wp2_with fail;refine HWC.mono ?_;rintro e y1 ⟨hgr,y,rfl,hyc,hcat,hA⟩;have HCY:=hy' (HCX.o.other hgr HNE.o.symm);have HBY:=hy' (Sm.bel HBX.o HG.o hgr);rw[HA1E.o]at hcat;have HCATN:=hy' hcat;obtain⟨sy,hsy⟩:∃q,zBc y=q:=⟨_,rfl⟩;rw[hsy];have hc1:=H1C.o;have hc2:=H1F.o;rw[←hcat]at hc1 hc2;have HWD:=Sm.write_text pb T S sw w3 g2 HOK.o HI3.o HH3.o HG2.o a1 y sy hsy y1 HBY.o hc1 hc2 HCY.o;clear hgr hyc hcat hA HWC hsy hc1 hc2;go_wp2_with fail;refine HWD.mono ?_;rintro e y2 ⟨hgr,z,rfl,hzc,hcat,hA⟩;rw[HCATN.o]at hA hcat;have HCY2:=hy' hA;have HBY2:=hy' (Sm.bel HBY.o HG2.o hgr);obtain⟨sz,hsz⟩:∃q,zBc z=q:=⟨_,rfl⟩;have hcs:sX++sz=zBc (Sm.F T S sw (Sm.cutAt T S (Sm.F T S (!sw) a))):=by rw[←HSX.o,←hsz,U.encS_cat HXC.o hzc,hcat]
 have hnc:=Sm.cat_le rfl (by
  rw[hcs];exact Nat.le_trans (Sm.cut_size HOK.o sw (r:=[]) (l:=Sm.F T S (!sw) a) (by rw[List.append_nil]) H1C.o H1F.o) (by decide))
 have HCS:=hy' hcs;rw[hsz];have HWE:=Sm.end_can pb T S sw w3 g2 HOK.o HI3.o HH3.o HG2.o (Sm.F T S (!sw) a) y2 HBY2.o H1C.o H1F.o HCY2.o;clear hgr hcat hA HWD hzc hsz hcs;go_wp2_with fail;refine HWE.mono ?_;rintro e y3 ⟨hgr,z3,rfl,hzc,hcat,hA⟩;have HBY3:=hy' (Sm.bel HBY2.o HG2.o hgr);obtain⟨s3,hs3⟩:∃q,zBc z3=q:=⟨_,rfl⟩;obtain⟨s2,hs2⟩:∃q,sX++sz=q:=⟨_,rfl⟩;obtain⟨sw2,hsw2⟩:∃q,zBc (Sm.F T S sw a)=q:=⟨_,rfl⟩;have hX2:∀c∈Sm.F T S sw (Sm.cutAt T S (Sm.F T S (!sw) a)),C.isC c=true:=Sm.F_isC HOK.o _ fun c hc=>H1C.o c (List.mem_of_mem_take hc)
 have hcs3:sX++sz++s3=sw2:=by rw[HCS.o,←hs3,U.encS_cat hX2 hzc,hcat,Sm.F_F HOK.o,hsw2]
 have hnc3:=Sm.cat_le hcs3 (by have:=H2S.o;rw[hsw2]at this;omega);have hb3:(sX++sz++s3 == sw2)=true:=by rw[hcs3];show (sw2.data == sw2.data)=true;simp
 have HB3E:=hy' hb3;have HCC:=hy' hcs3;have HNC3:=hy' hnc3;have HSW2:=hy' hsw2;rw[hs3];obtain⟨sd,hsd⟩:∃q,zBc (Nf.chars T a)=q:=⟨_,rfl⟩;have HN1:=HD1.o sd y3 HBY3.o HLC.o HFL.o HSL.o hsd;have HSDE:=hy' hsd;clear hgr hcat hA HWE hzc hs3 hs2 hsw2 hX2 hcs3 hb3 hsd hnc3;go_wp2_with fail;refine HN1.mono ?_;rintro e y4 ⟨rfl,hb⟩;have HBY4:=hy' (HBY3.o.trans (hb.mono HBY3.o.size));clear hb HN1;go_upto_if 141 with (fail)
 go_cut [32,33] (fun s1 s2 wx=>s1=.string sw2∧s2=.int .i64 0∧Below w3.heap.size w3 wx)
 case rest =>
  obtain⟨rfl,rfl,hbc⟩:=hcut;have hb3:=HB3E.o;have hnc3:=HNC3.o;go_wp2_with fail;go_ret;exact⟨by first|rfl|(simp;done)|(simp;rw[HCC.o]),HB3.o.trans (hbc.mono HB3.o.size)⟩
 cases sw
 · have e1:sd=sw2:=HSDE.o.symm.trans HSW2.o;have HE1:=hy' e1;clear e1;go_wp2_with fail;go_meet;exact⟨by rw[HE1.o],by first|rfl|trivial,HBY4.o⟩
 have HN2:=HC1.o sw2 y4 HBY4.o HLC.o HFL.o HSL.o HSW2.o;go_wp2_with fail;refine HN2.mono ?_;rintro e y5 ⟨rfl,hb⟩;have HBY5:=hy' (HBY4.o.trans (hb.mono HBY4.o.size));clear hb HN2;go_wp2_with fail;go_meet;exact⟨by first|rfl|trivial,by first|rfl|trivial,HBY5.o⟩
end Go.Proofs.YthngjlllojiacaaGreatDoor
