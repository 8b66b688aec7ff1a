/- The layer stream: byte, fail, take, Write, End, Waits, New, by walking their texts. -/
import Derived.Test.YthngjlllojiacaaGreatDoorSmChar
import Derived.Deep.DeepCutAuto
import Derived.Laws.EntriesVeiled
set_option linter.unusedSectionVars false
namespace Go.Proofs.YthngjlllojiacaaGreatDoor
open Go.RowKit
set_option linter.unusedSimpArgs false
set_option linter.unusedVariables false
theorem Sm.ba_snoc (g:List UInt8) (β:UInt8):(⟨g.toArray⟩++⟨#[β]⟩:ByteArray)=⟨(g++[β]).toArray⟩:=by
 apply ByteArray.ext
 simp[ByteArray.data_append]
section
variable (v:Value) (T:List Rw.Row) (S:List Int) (fv:Value) (w0:World) (g:Nat) (ok:Ud.Ok T S) (his:Ud.Is w0 v T S) (hH:Heads w0) (hg:w0.heap.size≤g)
include ok his hH hg
set_option maxRecDepth 100000 in
set_option maxHeartbeats 2000000 in
theorem Sm.byte_any (s:Sm.St) (β:UInt8) (w:World) (hw:Below w0.heap.size w0 w) (hs:Sm.Ok (Sm.fl T) s) (hat:Sm.At w g v fv s) :
 Calls Tryz.prog 31 #[.pointer (some ⟨g,0,none⟩),.string ⟨#[β]⟩] w fun e w'=>e=.returned (.int .i64 (Sm.byte (zKG T S) (Sm.fl T) s β).e)∧w.grownBy w' (some g)∧((Sm.byte (zKG T S) (Sm.fl T) s β).e=0→Sm.At w' g v fv (Sm.byte (zKG T S) (Sm.fl T) s β))∧∃a1 a2 a3 a4 a5,Rw.At w' g 68 [v,fv,a1,a2,a3,a4,a5]:=by
 obtain⟨sg,hsg⟩:∃q:ByteArray,(⟨(s.g++[β]).toArray⟩:ByteArray)=q:=⟨_,rfl⟩;have hgl:sg.size≤4:=by rw[←hsg];show (s.g++[β]).length≤4;rw[List.length_append,List.length_singleton];have:=hs.gl;omega
 have hgn:sg.size=s.g.length+1:=by rw[←hsg];show (s.g++[β]).length=_;rw[List.length_append,List.length_singleton]
 have hgd:sg.data.toList=s.g++[β]:=by rw[←hsg]
 have HNX:Hy (∀W,Below w0.heap.size w0 W→Calls Tryz.prog 64 #[.string sg] W fun e w'=>e=.returned (.tuple #[.int .i32 (zAz (s.g++[β])).1,.int .i64 (zAz (s.g++[β])).2.1,.bool (zAz (s.g++[β])).2.2])∧Below W.heap.size W w'):=hy' fun W hW=>by
  have:=zJi sg W (by simp only[maxLen];omega) (hH.next hW);rw[hgd]at this;exact this
 have HMY:Hy (∀W,Below w0.heap.size w0 W→Calls Tryz.prog 66 #[.string sg] W fun e w'=>e=.returned (.bool (Sm.mayP (s.g++[β])))∧Below W.heap.size W w'):=hy' fun W hW=>by
  have:=Sm.may_any sg W (by omega) (hH.next hW);rw[hgd]at this;exact this
 have hcase:(∃c,zAa (s.g++[β])=some (c,s.g.length+1)∧U.isC c=true∧zAk c=s.g++[β]∧Sm.byte (zKG T S) (Sm.fl T) s β=Sm.char (zKG T S) (Sm.fl T) ⟨s.z,s.k,[],s.n,0⟩ c)∨(zAa (s.g++[β])=none∧Sm.byte (zKG T S) (Sm.fl T) s β=if Sm.mayP (s.g++[β])=true then ⟨s.z,s.k,s.g++[β],s.n,0⟩ else Sm.bad 6):=by
  cases hn:zAa (s.g++[β]) with
  | some q =>
    obtain⟨c,m⟩:=q;obtain⟨h1,h2⟩:=Sm.next_len hs.g hn;left
    refine⟨c,by rw[h1],h2,?_,?_⟩
    · obtain⟨_,_,h3,_,h5,_⟩:=zBl _ _ _ hn;rw[h5,List.take_of_length_le (by rw[List.length_append,List.length_singleton];omega)]
    unfold Sm.byte;rw[hn];unfold Sm.char;rfl
  | none =>
    right
    refine⟨rfl,?_⟩;unfold Sm.byte;rw[hn]
 have hok0:Sm.Ok (Sm.fl T) ⟨s.z,s.k,[],s.n,0⟩:=⟨rfl,hs.z,hs.k,rfl,by simp,hs.n,hs.zn⟩
 have HCH:Hy (∀(c:Int) W,Below w0.heap.size w0 W→U.isC c=true→zAk c=s.g++[β]→Sm.At W g v fv ⟨s.z,s.k,[],s.n,0⟩→Calls Tryz.prog 65 #[.pointer (some ⟨g,0,none⟩),.int .i32 c,.string sg] W fun e w'=>e=.returned (.int .i64 (Sm.char (zKG T S) (Sm.fl T) ⟨s.z,s.k,[],s.n,0⟩ c).e)∧W.grownBy w' (some g)∧((Sm.char (zKG T S) (Sm.fl T) ⟨s.z,s.k,[],s.n,0⟩ c).e=0→Sm.At w' g v fv (Sm.char (zKG T S) (Sm.fl T) ⟨s.z,s.k,[],s.n,0⟩ c))∧∃a1 a2 a3 a4 a5,Rw.At w' g 68 [v,fv,a1,a2,a3,a4,a5]):=hy' fun c W hW hc he hA=>by
  have:=Sm.char_any v T S fv w0 g ok his hH hg ⟨s.z,s.k,[],s.n,0⟩ c W hW hok0 rfl hc hA;rw[he,hsg]at this;exact this
 have hcat:(⟨s.g.toArray⟩++⟨#[β]⟩:ByteArray)=sg:=by rw[Sm.ba_snoc,hsg]
 have hcl0:Sm.cells v fv s=[v,fv,.string (zBc s.z),.int .i64 ((zBc (s.z.take s.k)).size:Nat),.string ⟨s.g.toArray⟩,.int .i64 (s.n:Nat),.int .i64 0]:=by unfold Sm.cells;rw[hs.e]
 have hcl1:Sm.cells v fv ⟨s.z,s.k,[],s.n,0⟩=[v,fv,.string (zBc s.z),.int .i64 ((zBc (s.z.take s.k)).size:Nat),.string ⟨#[]⟩,.int .i64 (s.n:Nat),.int .i64 0]:=rfl;have hcl2:Sm.cells v fv ⟨s.z,s.k,s.g++[β],s.n,0⟩=[v,fv,.string (zBc s.z),.int .i64 ((zBc (s.z.take s.k)).size:Nat),.string sg,.int .i64 (s.n:Nat),.int .i64 0]:=by unfold Sm.cells;rw[hsg]
 obtain⟨sz,hsz⟩:∃q,Value.string (zBc s.z)=q:=⟨_,rfl⟩;obtain⟨kz,hkz⟩:∃q,Value.int .i64 (((zBc (s.z.take s.k)).size:Nat):Int)=q:=⟨_,rfl⟩;obtain⟨sn,hsn⟩:∃q,Value.int .i64 ((s.n:Nat):Int)=q:=⟨_,rfl⟩;obtain⟨s0,hs0⟩:∃q:ByteArray,(⟨s.g.toArray⟩:ByteArray)=q:=⟨_,rfl⟩;have hs0l:s0.size≤3:=by rw[←hs0];exact hs.gl
 rw[hs0]at hcat hcl0;unfold Sm.At at *;rw[hsz,hkz,hsn]at hcl0 hcl1 hcl2;rw[hcl0]at hat;rw[hcl1]at HCH;obtain⟨r,hr⟩:∃r,Sm.byte (zKG T S) (Sm.fl T) s β=r:=⟨_,rfl⟩;rw[hr]at hcase ⊢;obtain⟨pb,rfl,hpb⟩:=his.form;obtain⟨w1,hw1⟩:∃w1,w.setCell ⟨g,4,none⟩ (.string sg)=w1:=⟨_,rfl⟩;have hg1:w.grownBy w1 (some g):=by rw[←hw1];exact Rw.grown_set _ _ _
 have ha1:=hat.set 4 (.string sg);rw[hw1]at ha1;have HB1:=hy' (Sm.bel hw hg hg1);have HG1:=hy' hg1;have HA1:=hy' ha1;have HW1:=hy' hw1;have HAT:=hy' hat;have HCASE:=hy' hcase;have HC2:=hy' hcl2;have HCAT:=hy' hcat;have HGN:=hy' hgn;have HG:=hy' hg;have c4:=hat.cell 4 rfl;have cl:=hat.lt;have f4:=hat.frozen 4;have n1:¬9223372036854775807<s0.size+1:=by omega
 have n1':¬9223372036854775807<s0.size+(⟨#[β]⟩:ByteArray).size:=n1;clear ok his hH hg hs hsg hgl hgn hgd hcase hok0 hcl0 hcl1 hcl2 hsz hkz hsn hs0 hs0l hr hw hg1 ha1 hw1 hat hcat;go_enter Tryz.func31,Tryz.ntmps31;go_upto_region 2 with (fail)
 rw[HCAT.o,HW1.o];clear c4 cl f4 n1 n1';have c4:=HA1.o.cell 4 rfl;have cl:=HA1.o.lt;go_wp2_with fail;refine (HNX.o w1 HB1.o).mono ?_;rcases HCASE.o with ⟨c,hn,hc,he,hr⟩|⟨hn,hr⟩
 · rw[zLa hn];rintro e w2 ⟨rfl,hb⟩;have HG2:=hy' (zA0 HG1.o (zDh hb));have ha2:=HA1.o.below hb;have HB2:=hy' (HB1.o.trans (hb.mono HB1.o.size));have HHE:=hy' he;have HHC:=hy' hc;have HHR:=hy' hr;obtain⟨w3,hw3⟩:∃w3,w2.setCell ⟨g,4,none⟩ (.string ⟨#[]⟩)=w3:=⟨_,rfl⟩;have ha3:=ha2.set 4 (.string ⟨#[]⟩);rw[hw3]at ha3;have HG3:=hy' (zA0 HG2.o (show w2.grownBy w3 (some g) by rw[←hw3];exact Rw.grown_set _ _ _));have HB3:=hy' (Sm.bel HB2.o HG.o (show w2.grownBy w3 (some g) by rw[←hw3];exact Rw.grown_set _ _ _));have HA3:=hy' ha3;have HW3:=hy' hw3;obtain⟨m,hm⟩:∃m,s.g.length+1=m:=⟨_,rfl⟩;have hgm:sg.size=m:=by rw[HGN.o,hm]
   rw[hm];subst hgm;clear hb c4 cl hn he hc hr ha3 hw3 hm;have c4:=ha2.cell 4 rfl;have cl:=ha2.lt;have f4:=ha2.frozen 4;have hee:((sg.size:Int) == sg.size)=true:=by simp
   clear ha2;go_upto_region 6 with (fail)
   rw[HW3.o];clear c4 cl f4 hee;go_wp2_with fail;refine (HCH.o c w3 HB3.o HHC.o HHE.o HA3.o).mono ?_;rintro e w4 ⟨rfl,hgr,hA,hB⟩;have HG4:=hy' (zA0 HG3.o hgr);have HA:=hy' hA;have HB:=hy' hB;clear hgr hA hB;go_wp2_with fail;go_ret;rw[HHR.o];exact⟨rfl,HG4.o,HA.o,HB.o⟩
 rw[zLb hn];rintro e w2 ⟨rfl,hb⟩;have HG2:=hy' (zA0 HG1.o (zDh hb));have ha2:=HA1.o.below hb;have HB2:=hy' (HB1.o.trans (hb.mono HB1.o.size));have HHR:=hy' hr;clear hb c4 cl hn hr;have c4:=ha2.cell 4 rfl;have cl:=ha2.lt;have HA2:=hy' ha2;clear ha2;go_wp2_with fail;refine (HMY.o w2 HB2.o).mono ?_;rintro e w3 ⟨rfl,hb⟩;have HG3:=hy' (zA0 HG2.o (zDh hb));have HA3:=hy' (HA2.o.below hb);obtain⟨q,hq⟩:∃q,Sm.mayP (s.g++[β])=q:=⟨_,rfl⟩;have hr:=HHR.o;rw[hq]at hr ⊢;clear hb c4 cl hq;cases q
 · have HR:=hy' hr;clear hr;go_wp2_with fail;go_ret;rw[HR.o];exact⟨rfl,HG3.o,(fun e=>by cases e),_,_,_,_,_,HA3.o⟩
 have HR:=hy' hr;clear hr;go_wp2_with fail;go_ret;rw[HR.o];refine⟨rfl,HG3.o,(fun _=>?_),_,_,_,_,_,HA3.o⟩
 first|rw[if_pos rfl,HC2.o]|rw[if_pos trivial,HC2.o]
 exact HA3.o
omit ok his hH hg in
set_option maxRecDepth 100000 in
set_option maxHeartbeats 2000000 in
theorem Sm.fail_any (pb:Nat) (fid:FuncId) (e1:Int) (a1 a2 a3 a4 a5:Value) (w:World) (hat:Rw.At w g 68 [.pointer (some ⟨pb,0,none⟩),.func (.func fid) #[] #[],a1,a2,a3,a4,a5]) :
 Calls Tryz.prog 32 #[.pointer (some ⟨g,0,none⟩),.int .i64 e1] w fun e w'=>e=.returned (.int .i64 e1)∧w.grownBy w' (some g)∧Sm.At w' g (.pointer (some ⟨pb,0,none⟩)) (.func (.func fid) #[] #[]) (Sm.bad e1):=by
 have HAT:=hy' hat
 have HCF:Hy (∀W,Below w.heap.size w W→(∀x:Stg.Later Stg.Ex W,x.val.cell? ⟨g,0,none⟩=some (.pointer (some ⟨pb,0,none⟩)))∧(∀x:Stg.Later Stg.Ex W,x.val.cell? ⟨g,1,none⟩=some (.func (.func fid) #[] #[]))):=hy' fun W hW =>
  have hT:=hat.below hW
  ⟨Stg.cells (hT.cell 0 rfl) hT.lt,Stg.cells (hT.cell 1 rfl) hT.lt⟩
 have HQ0:=hy' (Below.refl w.heap.size w).drew;clear hat;go_enter Tryz.func32,Tryz.ntmps32;go_upto_region 1 with (fail)
 refine Stg.wp_region (by kernel_rfl) Stg.Ex Stg.Ex.rel ?_
 (iterate 4 (refine Stg.readW (by kernel_rfl) ?_;intro K hK;go_big_quiet_op;go_big_quiet_on))
 obtain⟨f0,f1⟩:=HCF.o w.drew HQ0.o;refine Stg.read 0 (by kernel_rfl) w.drew rfl ?_;intro K hK;go_big_quiet_op;go_big_quiet_on
 (iterate 3 (refine Stg.readW (by kernel_rfl) ?_;intro K hK;go_big_quiet_op;go_big_quiet_on))
 refine Stg.read 0 (by kernel_rfl) w.drew rfl ?_;intro K hK;go_big_quiet_op;go_big_quiet_on
 (iterate 3 (refine Stg.readW (by kernel_rfl) ?_;intro K hK;go_big_quiet_op;go_big_quiet_on))
 have hq:=HAT.o;have c0:=hq.cell 0 rfl;have f0':=hq.frozen 0;have c1:=hq.cell 1 rfl;have f1':=hq.frozen 1;have c2:=hq.cell 2 rfl;have f2':=hq.frozen 2;have c3:=hq.cell 3 rfl;have f3':=hq.frozen 3;have c4:=hq.cell 4 rfl;have f4':=hq.frozen 4;have c5:=hq.cell 5 rfl;have f5':=hq.frozen 5;have c6:=hq.cell 6 rfl;have f6':=hq.frozen 6;have u0:=hq.lt;have HQA:=hy' hq;clear hq;refine Stg.last (by kernel_rfl) w.drew rfl ?_;intro K hK;go_simp;obtain⟨q1,hq1⟩:∃q1,(((((((w.setCell ⟨g,0,none⟩ (.pointer (some ⟨pb,0,none⟩))).setCell ⟨g,1,none⟩ (.func (.func fid) #[] #[])).setCell ⟨g,2,none⟩ (.string ⟨#[]⟩)).setCell ⟨g,3,none⟩ (.int .i64 0)).setCell ⟨g,4,none⟩ (.string ⟨#[]⟩)).setCell ⟨g,5,none⟩ (.int .i64 0)).setCell ⟨g,6,none⟩ (.int .i64 e1)).drew=q1:=⟨_,rfl⟩;rw[hq1];refine hK _ _ ?_;intro A' hA';subst hA';clear c0 f0' c1 f1' c2 f2' c3 f3' c4 f4' c5 f5' c6 f6' u0;clear f0 f1;refine Stg.nil q1 rfl ?_;have ha:=((((((HAT.o.set 0 (.pointer (some ⟨pb,0,none⟩))).set 1 (.func (.func fid) #[] #[])).set 2 (.string ⟨#[]⟩)).set 3 (.int .i64 0)).set 4 (.string ⟨#[]⟩)).set 5 (.int .i64 0)).set 6 (.int .i64 e1)
 have ha:Sm.At q1 g (.pointer (some ⟨pb,0,none⟩)) (.func (.func fid) #[] #[]) (Sm.bad e1):=by
  have hcs:Sm.cells (.pointer (some ⟨pb,0,none⟩)) (.func (.func fid) #[] #[]) (Sm.bad e1)=[.pointer (some ⟨pb,0,none⟩),.func (.func fid) #[] #[],.string ⟨#[]⟩,.int .i64 0,.string ⟨#[]⟩,.int .i64 0,.int .i64 e1]:=rfl;unfold Sm.At;rw[hcs,←hq1];exact Rw.At.below ha (Below.refl _ _).drew
 have hgr:w.grownBy q1 (some g):=by
  rw[←hq1];exact zA0 (zA0 (Rw.grown_set _ _ _) (zA0 (Rw.grown_set _ _ _) (zA0 (Rw.grown_set _ _ _) (zA0 (Rw.grown_set _ _ _) (zA0 (Rw.grown_set _ _ _) (zA0 (Rw.grown_set _ _ _) (Rw.grown_set _ _ _))))))) (zDh (Below.refl _ _).drew)
 have HA:=hy' ha;have HGR:=hy' hgr;clear ha hgr hq1;go_wp2_with fail;go_ret;exact⟨rfl,HGR.o,HA.o⟩
end
end Go.Proofs.YthngjlllojiacaaGreatDoor
