/- The layer stream: may, char, byte, fail, take, Write, End, Waits, New, by walking their texts. -/
import Derived.Test.YthngjlllojiacaaGreatDoorSmPlain
import Derived.Test.YthngjlllojiacaaGreatDoorSpSafe
import Derived.Test.YthngjlllojiacaaGreatDoorNcWhole
import Derived.Test.YthngjlllojiacaaGreatDoorStage
import Derived.Test.YthngjlllojiacaaGreatDoorMdTable
import Derived.Test.YthngjlllojiacaaGreatDoorShelf
import Derived.Test.YthngjlllojiacaaGreatDoorUtfC
import Derived.BigQuiet
import Derived.BigRegion
set_option linter.unusedSectionVars false
namespace Go.Proofs.YthngjlllojiacaaGreatDoor.Stg
open Go Go.RowKit
section
variable {P:Program} {ops:Array Oper} {R:World→World→Prop} {F:Act→World→Prop} {o:Oper} {l:List Oper} {k n:Nat} {a:Act} {ws:Nat→World}
theorem callV (f:FuncId) (x:Operand) (xs:List Operand) (ts:Array TypeId) (ho:o.op=.call { callee:=.value x,args:=xs.toArray,argTypes:=ts }) (hx:a.eval x=.func (.func f) #[] #[]) (hen:∀args w,(callFunc f args).run P w=.ok (.enter f args) w)
 (us:List Value) (hv:xs.map a.eval=us) (W:World) (T:Ending→World→Prop) (hC:Calls P f us.toArray W T)
 (hk:(stOf ops k&&Region.wanted o (yielded ops a.tmps))=true) (hb:ws 0=W)
 (h:∀e w',T e w'→∃v,e=.returned v∧R W w'∧∀A,A=a.put o.dst v→Walk P ops R F l (k+1) A (n+1) (push w' ws)):Walk P ops R F (o::l) k a n ws:=by
 simp only[Bool.and_eq_true]at hk;obtain⟨hs,hw⟩:=hk;refine step W hs hb hw ?_
 have hrun:(execOp a.eval o).run P W=.ok (.enter f us.toArray) W:=by
  obtain⟨ρ,hρ⟩:∃ρ,a.eval=ρ:=⟨_,rfl⟩;rw[hρ]at hx hv ⊢;unfold execOp;subst hv;simp[ho,resolve,invoke,go_sem,hen,hx]
 unfold stepAt;rw[hrun];exact hC.mono fun e w' ht=>let ⟨v,he,h1,h2⟩:=h e w' ht;⟨v,he,fun _=>h1,h2⟩
end
end Go.Proofs.YthngjlllojiacaaGreatDoor.Stg
namespace Go.Proofs.YthngjlllojiacaaGreatDoor
open Go.RowKit
set_option linter.unusedSimpArgs false
set_option linter.unusedVariables false
theorem Sm.bel {w0 w w':World} {g:Nat} (h:Below w0.heap.size w0 w) (hg:w0.heap.size≤g) (hgr:w.grownBy w' (some g)):Below w0.heap.size w0 w':=Below.grown h hgr h.size (by intro k hk;simp only[Option.some.injEq]at hk;omega)
theorem Sm.rep3 (b:UInt8):Lib.repeatL [b] 3=List.replicate 3 b:=rfl
set_option maxRecDepth 100000 in
theorem Sm.may_any (s:ByteArray) (w:World) (hs:s.size≤1000) (hH:Heads w):Calls Tryz.prog 66 #[.string s] w fun e w'=>e=.returned (.bool (Sm.mayP s.data.toList))∧Below w.heap.size w w':=by
 have HRE:Hy (∀(b:UInt8) W,Calls Tryz.prog 102 #[.string ⟨#[b]⟩,.int .i64 3] W fun e w'=>e=.returned (.string ⟨(List.replicate 3 b).toArray⟩)∧Below W.heap.size W w'):=hy' fun b W=>by
  have:=Tryz.strings_Repeat ⟨#[b]⟩ 3 W (by decide) (by show 1*3≤_;decide);rw[show (⟨#[b]⟩:ByteArray).data.toList=[b] from rfl,Sm.rep3]at this;exact this
 have HNX:Hy (∀(b:UInt8) W,Below w.heap.size w W→Calls Tryz.prog 64 #[.string (s++⟨(List.replicate 3 b).toArray⟩)] W fun e w'=>(∃c n,e=.returned (.tuple #[.int .i32 c,.int .i64 n,.bool (zAa (s.data.toList++List.replicate 3 b)).isSome]))∧Below W.heap.size W w'):=hy' fun b W hW=>by
  have:=zJi (s++⟨(List.replicate 3 b).toArray⟩) W (by rw[ByteArray.size_append];show _+3≤_;simp only[maxLen];omega) (hH.next hW);refine this.mono ?_;rintro e w' ⟨rfl,hb⟩;have hd:(s++⟨(List.replicate 3 b).toArray⟩:ByteArray).data.toList=s.data.toList++List.replicate 3 b:=by simp[ByteArray.data_append]
  have h3:(zAz (s.data.toList++List.replicate 3 b)).2.2=(zAa (s.data.toList++List.replicate 3 b)).isSome:=by
   cases hn:zAa (s.data.toList++List.replicate 3 b) with
   | none=>rw[zLb hn];rfl
   | some q=>rw[zLa (c:=q.1) (k:=q.2) hn];rfl
  rw[hd,h3];exact⟨⟨_,_,rfl⟩,hb⟩
 unfold Sm.mayP;obtain⟨b1,hb1⟩:∃b,(zAa (s.data.toList++List.replicate 3 128)).isSome=b:=⟨_,rfl⟩;obtain⟨b2,hb2⟩:∃b,(zAa (s.data.toList++List.replicate 3 191)).isSome=b:=⟨_,rfl⟩;obtain⟨r1,hr1⟩:∃r:ByteArray,(⟨(List.replicate 3 128).toArray⟩:ByteArray)=r:=⟨_,rfl⟩;obtain⟨r2,hr2⟩:∃r:ByteArray,(⟨(List.replicate 3 191).toArray⟩:ByteArray)=r:=⟨_,rfl⟩;have hs1:r1.size=3:=by rw[←hr1];rfl
 have hs2:r2.size=3:=by rw[←hr2];rfl
 have H1:=HRE.o 128;have H2:=HRE.o 191;have H3:=HNX.o 128;have H4:=HNX.o 191;rw[hr1]at H1 H3;rw[hr2]at H2 H4;rw[hb1]at H3 ⊢;rw[hb2]at H4 ⊢;have H1:=hy' H1;have H2:=hy' H2;have H3:=hy' H3;have H4:=hy' H4;obtain⟨wa,hwa⟩:∃wa,w.alloc (.cells #[.string ⟨#[128]⟩,.string ⟨#[191]⟩] 9)=wa:=⟨_,rfl⟩;have hba:Below w.heap.size w wa:=by rw[←hwa];exact (Below.refl _ _).alloc (Nat.le_refl _) _
 have hat:Rw.At wa w.heap.size 9 [.string ⟨#[128]⟩,.string ⟨#[191]⟩]:=by rw[←hwa];exact Rw.At.new w 9 [.string ⟨#[128]⟩,.string ⟨#[191]⟩]
 have HWA:=hy' hwa;have HBA:=hy' hba;have HAT:=hy' hat;have n1:¬9223372036854775807<s.size+r1.size:=by omega
 have n2:¬9223372036854775807<s.size+r2.size:=by omega
 clear HRE HNX hb1 hb2 hr1 hr2 hs1 hs2 hwa hba hat hH hs;go_enter Tryz.func66,Tryz.ntmps66;go_upto_block 0 with (fail)
 rw[HWA.o];go_wp2_with fail;go_loopw [4,5,6,7,10] (fun _ _ _ _ i wr=>∃k:Nat,k≤2∧i=.int .i64 k∧(1≤k→b1=false)∧(2≤k→b2=false)∧Below wa.heap.size wa wr) (fun _ _ _ _ i _=>2-(intOf i).toNat)
 case atStart=>exact⟨0,by omega,rfl,fun h=>by omega,fun h=>by omega,Below.refl _ _⟩
 obtain⟨k,hk,rfl,hf1,hf2,hbr⟩:=hrel;obtain⟨r0,rfl⟩:∃q:World,q=wr:=⟨_,rfl⟩;have HR0:=hy' hbr;have HRW:=hy' (HBA.o.trans (hbr.mono HBA.o.size));have ha:=HAT.o.below hbr;have hl:=ha.lt;have HF1:=hy' hf1;have HF2:=hy' hf2;clear hf1 hf2 hbr;have h3:k=0∨k=1∨k=2:=by omega
 rcases h3 with rfl|rfl|rfl
 · have c0:=ha.cell 0 rfl;clear ha;go_wp2_with fail;refine (H1.o r0).mono ?_;rintro e r1' ⟨rfl,hb⟩;have HR1:=hy' (HR0.o.trans (hb.mono HR0.o.size));have HRW1:=hy' (HRW.o.trans (hb.mono HRW.o.size));clear hb c0 hl;go_wp2_with fail;refine (H3.o r1' HRW1.o).mono ?_;rintro e r2' ⟨⟨c,n,rfl⟩,hb⟩;have HR2:=hy' (HR1.o.trans (hb.mono HR1.o.size));have HRW2:=hy' (HRW1.o.trans (hb.mono HRW1.o.size));clear hb;cases b1
   · go_wp2_with fail;exact⟨⟨1,by omega,by first|rfl|go_num,(fun _=>by first|rfl|trivial),fun h=>by omega,HR2.o⟩,by simp[intOf]⟩
   go_wp2_with fail;go_ret;exact⟨rfl,HRW2.o⟩
 rotate_left
 · have hb10:=HF1.o (by omega);have hb20:=HF2.o (by omega);subst hb10;subst hb20;clear ha hl;go_wp2_with fail;go_ret;exact⟨rfl,HRW.o⟩
 have c1:=ha.cell 1 rfl;have hb10:=HF1.o (by omega);subst hb10;clear ha;go_wp2_with fail;refine (H2.o r0).mono ?_;rintro e r1' ⟨rfl,hb⟩;have HR1:=hy' (HR0.o.trans (hb.mono HR0.o.size));have HRW1:=hy' (HRW.o.trans (hb.mono HRW.o.size));clear hb c1 hl;go_wp2_with fail;refine (H4.o r1' HRW1.o).mono ?_;rintro e r2' ⟨⟨c,n,rfl⟩,hb⟩;have HR2:=hy' (HR1.o.trans (hb.mono HR1.o.size));have HRW2:=hy' (HRW1.o.trans (hb.mono HRW1.o.size));clear hb;cases b2
 · go_wp2_with fail;exact⟨⟨2,by omega,by first|rfl|go_num,(fun _=>by first|rfl|trivial),(fun _=>by first|rfl|trivial),HR2.o⟩,by simp[intOf]⟩
 go_wp2_with fail;go_ret;exact⟨rfl,HRW2.o⟩
def Sm.cells (v fv:Value) (s:Sm.St):List Value:=[v,fv,.string (zBc s.z),.int .i64 ((zBc (s.z.take s.k)).size:Nat),.string ⟨s.g.toArray⟩,.int .i64 (s.n:Nat),.int .i64 s.e]
def Sm.At (w:World) (g:Nat) (v fv:Value) (s:Sm.St):Prop:=Rw.At w g 68 (Sm.cells v fv s)
def Sm.fl (T:List Rw.Row) (c:Int):Nat:=(Ud.full T c).length
theorem Sm.sum_fl (T:List Rw.Row):∀z:List Int,Sm.sum (Sm.fl T) z=(Nf.fl T z).length
 | []=>rfl
 | c::z=>by
   have:=Sm.sum_fl T z;rw[zC1,List.length_append,←this];rfl
theorem Sm.encS_snoc {z:List Int} {c:Int} (hz:∀x∈z,U.isC x=true) (hc:U.isC c=true):zBc z++⟨(zAk c).toArray⟩=zBc (z++[c]):=by
 rw[zIB hz,zIB (fun x hx=>by rcases List.mem_append.1 hx with h|h;exact hz x h;rw[List.mem_singleton]at h;rw[h];exact hc),zDT];apply ByteArray.ext
 simp[zAx]
section
variable (v:Value) (T:List Rw.Row) (S:List Int) (fv:Value) (w0:World) (g:Nat) (ok:Ud.Ok T S) (his:Ud.Is w0 v T S) (hH:Heads w0) (hg:w0.heap.size≤g)
include ok his hH hg
set_option maxRecDepth 100000 in
set_option maxHeartbeats 2000000 in
theorem Sm.char_any (s:Sm.St) (c:Int) (w:World) (hw:Below w0.heap.size w0 w) (hs:Sm.Ok (Sm.fl T) s) (hg0:s.g=[]) (hc:U.isC c=true) (hat:Sm.At w g v fv s) :
 Calls Tryz.prog 65 #[.pointer (some ⟨g,0,none⟩),.int .i32 c,.string ⟨(zAk c).toArray⟩] w fun e w'=>e=.returned (.int .i64 (Sm.char (zKG T S) (Sm.fl T) s c).e)∧w.grownBy w' (some g)∧((Sm.char (zKG T S) (Sm.fl T) s c).e=0→Sm.At w' g v fv (Sm.char (zKG T S) (Sm.fl T) s c))∧∃a1 a2 a3 a4 a5,Rw.At w' g 68 [v,fv,a1,a2,a3,a4,a5]:=by
 have hcb:=Nf.isC_i32 (hc:C.isC c=true)
 have HFU:Hy (∀W,Below w0.heap.size w0 W→Calls Tryz.prog 40 #[v,.int .i32 c] W fun e w'=>∃A cc,e=.returned (.slice A (Sm.fl T c) cc)∧Below W.heap.size W w'):=hy' fun W hW=>by
  refine (Ud.full_any v T S c W ok (his.below hW) hcb.1 hcb.2).mono ?_;rintro e w' ⟨A,cc,rfl,_,hb⟩;exact⟨A,cc,rfl,hb⟩
 have HSF:Hy (∀W,Below w0.heap.size w0 W→Calls Tryz.prog 21 #[v,.int .i32 c] W fun e w'=>e=.returned (.bool (zKG T S c))∧Below W.heap.size W w'):=hy' fun W hW=>Sp.safe_any v T S c W ok (his.below hW)
 obtain⟨m,hm⟩:∃m,Sm.fl T c=m:=⟨_,rfl⟩;obtain⟨b,hb⟩:∃b,zKG T S c=b:=⟨_,rfl⟩;obtain⟨r,hr⟩:∃r,Sm.char (zKG T S) (Sm.fl T) s c=r:=⟨_,rfl⟩;rw[hm]at HFU;rw[hb]at HSF;rw[hr];have hml:m≤32:=by rw[←hm];exact zBt ok c
 have hn:=hs.n
 have hzb:(zBc s.z).size≤4096:=by
  have h1:=zFQ (z:=s.z) (fun x hx=>hs.z x hx);have h2:=zOc ok s.z;have h3:=hs.zn;rw[Sm.sum_fl]at h3;omega
 have hel:(⟨(zAk c).toArray⟩:ByteArray).size≤4:=(zCq c).2
 have hres:¬1024<s.n+m→r.e=0∧Sm.cells v fv r=[v,fv,.string (zBc s.z++⟨(zAk c).toArray⟩),.int .i64 (if b=true then ((zBc s.z).size:Nat) else ((zBc (s.z.take s.k)).size:Nat)),.string ⟨#[]⟩,.int .i64 ((s.n+m:Nat):Int),.int .i64 0]:=fun h=>by
  rw[←hr];unfold Sm.char;rw[hm,hb,if_neg h];refine⟨rfl,?_⟩;unfold Sm.cells;rw[Sm.encS_snoc hs.z hc];have hk:=hs.k;cases b
  · simp only[Bool.false_eq_true,if_false];rw[List.take_append_of_le_length hk]
  simp only[if_true];rw[List.take_left]
 have hbad:1024<s.n+m→r.e=7:=fun h=>by
  rw[←hr];unfold Sm.char;rw[hm,if_pos h];rfl
 obtain⟨sz,hsz⟩:∃q,zBc s.z=q:=⟨_,rfl⟩;obtain⟨kz,hkz⟩:∃q,(zBc (s.z.take s.k)).size=q:=⟨_,rfl⟩;obtain⟨ec,hec⟩:∃q:ByteArray,⟨(zAk c).toArray⟩=q:=⟨_,rfl⟩;obtain⟨sn,hsn⟩:∃q,s.n=q:=⟨_,rfl⟩;unfold Sm.At at hat ⊢;have hc0:Sm.cells v fv s=[v,fv,.string sz,.int .i64 kz,.string ⟨#[]⟩,.int .i64 (sn:Nat),.int .i64 0]:=by unfold Sm.cells;rw[hsz,hkz,hg0,hsn,hs.e]
 rw[hc0]at hat;rw[hsz]at hzb hres;rw[hkz]at hres;rw[hec]at hel hres ⊢;rw[hsn]at hn hres hbad;obtain⟨pb,rfl,hpb⟩:=his.form;have HW:=hy' hw;have HAT:=hy' hat;have HRES:=hy' hres;have HBAD:=hy' hbad;have HG:=hy' hg;have HGR0:=hy' (show w.grownBy w.drew (some g) from zDh (Below.refl _ _).drew)
 have HCF:Hy (∀W,Below w.heap.size w W→(∀x:Stg.Later Stg.Ex W,x.val.cell? ⟨g,0,none⟩=some (.pointer (some ⟨pb,0,none⟩)))∧(∀x:Stg.Later Stg.Ex W,x.val.cell? ⟨g,5,none⟩=some (.int .i64 (sn:Nat)))):=hy' fun W hW =>
  have hT:=hat.below hW
  ⟨Stg.cells (hT.cell 0 rfl) hT.lt,Stg.cells (hT.cell 5 rfl) hT.lt⟩
 have HUP:=hy' (fun W (hW:Below w.heap.size w W)=>hw.trans (hW.mono hw.size));have HQ0:=hy' (Below.refl w.heap.size w).drew;clear ok his hH hg hw hs hg0 hc hcb hm hb hr hres hbad hsz hkz hec hsn hat hc0;go_enter Tryz.func65,Tryz.ntmps65;go_upto_region 1 with (fail)
 refine Stg.wp_region (by kernel_rfl) Stg.Ex Stg.Ex.rel ?_
 (iterate 3 (refine Stg.readW (by kernel_rfl) ?_;intro K hK;go_big_quiet_op;go_big_quiet_on))
 obtain⟨f0,f1⟩:=HCF.o w.drew HQ0.o;refine Stg.read 0 (by kernel_rfl) w.drew rfl ?_;intro K hK;go_big_quiet_op;go_big_quiet_on
 (iterate 3 (refine Stg.readW (by kernel_rfl) ?_;intro K hK;go_big_quiet_op;go_big_quiet_on))
 refine Stg.read 0 (by kernel_rfl) w.drew rfl ?_;intro K hK;go_big_quiet_op;go_big_quiet_on;refine Stg.readW (by kernel_rfl) ?_;intro K hK;go_big_quiet_op;go_big_quiet_on;refine Stg.call 40 _ _ rfl Tryz.func40 [.pointer (some ⟨pb,0,none⟩),.int .i32 c] rfl w.drew _ (HFU.o w.drew (HUP.o w.drew HQ0.o)) (by kernel_rfl) rfl ?_;rintro e q1 ⟨A,cc,rfl,hb⟩;refine⟨_,rfl,hb,?_⟩;have HQ1:=hy' (HQ0.o.trans (hb.mono HQ0.o.size));clear hb;intro A' hA';simp only[Act.put,List.setIfInBounds_toArray,List.set_cons_succ,List.set_cons_zero]at hA';subst hA'
 (iterate 4 (refine Stg.readW (by kernel_rfl) ?_;intro K hK;go_big_quiet_op;go_big_quiet_on))
 have hq:=HAT.o.below HQ1.o;have u0:=hq.frozen 5;have u1:=hq.lt;have u2:=hq.cell 5 rfl;clear hq;refine Stg.last (by kernel_rfl) q1 rfl ?_;intro K hK;go_simp;obtain⟨q2,hq2⟩:∃q2,(q1).setCell ⟨g,5,none⟩ (.int .i64 ((sn:Int)+(m:Int)))=q2:=⟨_,rfl⟩;rw[hq2];refine hK _ _ ?_;intro A' hA';subst hA';clear u0 u1 u2;clear f0 f1;refine Stg.nil q2 rfl ?_;have hg3:w.grownBy q2 (some g):=by rw[←hq2];exact zA0 (zDh HQ1.o) (Rw.grown_set _ _ _)
 have hat3:Rw.At q2 g 68 [.pointer (some ⟨pb,0,none⟩),fv,.string sz,.int .i64 kz,.string ⟨#[]⟩,.int .i64 ((sn+m:Nat):Int),.int .i64 0]:=by
  have:=(HAT.o.below HQ1.o).set 5 (.int .i64 ((sn+m:Nat):Int));rw[←hq2,Int.natCast_add];rw[Int.natCast_add]at this;exact this
 have HG3:=hy' hg3;have HA3:=hy' hat3;have HB3:=hy' (Sm.bel HW.o HG.o hg3);have c5:=hat3.cell 5 rfl;have c0:=hat3.cell 0 rfl;have cl:=hat3.lt;clear hg3 hat3 hq2
 by_cases h:1024<sn+m
 · have hI:((sn+m:Nat):Int) > 1024:=by omega
   have he:=HBAD.o h;go_wp2_with fail;go_ret;rw[he];exact⟨rfl,HG3.o,(fun e=>by cases e),_,_,_,_,_,HA3.o⟩
 have hI:¬((sn+m:Nat):Int) > 1024:=by omega
 obtain⟨he,hcs⟩:=HRES.o h;have HE:=hy' he;have HCS:=hy' hcs;clear hcs he h;go_wp2_with fail;refine (HSF.o q2 HB3.o).mono ?_;rintro e q3 ⟨rfl,hb⟩;have HG4:=hy' (zA0 HG3.o (zDh hb));have ha4:=HA3.o.below hb;have HA4:=hy' ha4;have c2:=ha4.cell 2 rfl;have c3:=ha4.cell 3 rfl;have cl4:=ha4.lt;have f2:=ha4.frozen 2;have f3:=ha4.frozen 3;have n1:¬9223372036854775807<sz.size+ec.size:=by omega
 clear hb ha4 c5 c0 cl hI;cases b
 · go_wp2_with fail;go_ret;have h1:=HA4.o.set 2 (.string (sz++ec));exact⟨(by rw[HE.o];rfl),zA0 HG4.o (Rw.grown_set _ _ _),(fun _=>by rw[HCS.o];exact h1),_,_,_,_,_,h1⟩
 obtain⟨q4,hq4⟩:∃q4,q3.setCell ⟨g,3,none⟩ (.int .i64 (sz.size:Nat))=q4:=⟨_,rfl⟩;have h0:=HA4.o.set 3 (.int .i64 (sz.size:Nat));rw[hq4]at h0;have HG5:=hy' (zA0 HG4.o (show q3.grownBy q4 (some g) by rw[←hq4];exact Rw.grown_set _ _ _));have HA5:=hy' h0;have HQ4:=hy' hq4;clear h0 hq4;go_upto_region 6 with (fail)
 rw[HQ4.o];clear c2 c3 cl4 f2 f3;have c2:=HA5.o.cell 2 rfl;have cl5:=HA5.o.lt;have f2:=HA5.o.frozen 2;go_wp2_with fail;go_ret;have h1:=HA5.o.set 2 (.string (sz++ec));exact⟨(by rw[HE.o];rfl),zA0 HG5.o (Rw.grown_set _ _ _),(fun _=>by rw[HCS.o];exact h1),_,_,_,_,_,h1⟩
end
end Go.Proofs.YthngjlllojiacaaGreatDoor
