/- The layer stream: End, Waits, New, by walking their texts. -/
import Derived.Test.YthngjlllojiacaaGreatDoorSmWrite
set_option linter.unusedSectionVars false
namespace Go.Proofs.YthngjlllojiacaaGreatDoor
open Go.RowKit
set_option linter.unusedSimpArgs false
set_option linter.unusedVariables false
section
variable (pb:Nat) (T:List Rw.Row) (S:List Int) (fid:FuncId) (F:List Int→List Int) (w0:World) (g:Nat) (ok:Ud.Ok T S) (his:Ud.Is w0 (.pointer (some ⟨pb,0,none⟩)) T S) (hH:Heads w0) (hg:w0.heap.size≤g)
 (hen:∀(args:Array Value) (w:World),(callFunc fid args).run Tryz.prog w=.ok (.enter fid args) w)
 (hF:∀(z:List Int) (W:World),Below w0.heap.size w0 W→(∀c∈z,C.isC c=true)→(Nf.fl T z).length≤1024→Calls Tryz.prog fid #[.pointer (some ⟨pb,0,none⟩),.string (zBc z)] W fun e w'=>e=.returned (.tuple #[.string (zBc (F z)),.int .i64 0])∧Below W.heap.size W w')
include ok hen hF
set_option maxRecDepth 100000 in
set_option maxHeartbeats 2000000 in
theorem Sm.end_any (s:Sm.St) (w:World) (hw:Below w0.heap.size w0 w) (hs:s.e=0→Sm.Ok (Sm.fl T) s) (hgl:s.g.length≤3) (hat:Sm.At w g (.pointer (some ⟨pb,0,none⟩)) (.func (.func fid) #[] #[]) s) :
 Calls Tryz.prog 13 #[.pointer (some ⟨g,0,none⟩)] w fun e w'=>w.grownBy w' (some g) ∧
  ((s.e≠0∧e=.returned (.tuple #[.string ⟨#[]⟩,.int .i64 s.e])∧Sm.At w' g (.pointer (some ⟨pb,0,none⟩)) (.func (.func fid) #[] #[]) s) ∨
   (s.e=0∧s.g≠[]∧e=.returned (.tuple #[.string ⟨#[]⟩,.int .i64 6])∧Sm.At w' g (.pointer (some ⟨pb,0,none⟩)) (.func (.func fid) #[] #[]) (Sm.bad 6)) ∨
   (s.e=0∧s.g=[]∧e=.returned (.tuple #[.string (zBc (F s.z)),.int .i64 0])∧Sm.At w' g (.pointer (some ⟨pb,0,none⟩)) (.func (.func fid) #[] #[]) (Sm.bad 0))):=by
 obtain⟨z,k,gb,n,er⟩:=s
 have hTK:er=0→gb=[]→Calls Tryz.prog 33 #[.pointer (some ⟨g,0,none⟩),.int .i64 ((zBc z).size:Nat)] w fun e w'=>e=.returned (.string (zBc (F z)))∧w.grownBy w' (some g)∧Sm.At w' g (.pointer (some ⟨pb,0,none⟩)) (.func (.func fid) #[] #[]) ⟨[],0,[],n,0⟩:=fun h1 h2=>by
  subst h1 h2;have:=Sm.take_any pb T S fid F w0 g ok hen hF _ z.length w hw (hs rfl) (Nat.le_refl _) hat;rw[show (⟨z,k,[],n,0⟩:Sm.St).z=z from rfl,List.take_length,List.drop_length]at this;exact this
 have hzs:er=0→(zBc z).size≤100000:=fun h=>by
  have hs:=hs h;have h1:=zFQ (z:=z) (fun x hx=>hs.z x hx);have h2:=hs.zn;have h3:=hs.n;rw[Sm.sum_fl]at h2;have h4:z.length≤(Nf.fl T z).length:=zOc ok z;have h5:(Nf.fl T z).length≤1024:=Nat.le_trans h2 h3;omega
 unfold Sm.At Sm.cells at *;obtain⟨sk,hsk⟩:∃q,Value.int .i64 ((zBc ((⟨z,k,gb,n,er⟩:Sm.St).z.take (⟨z,k,gb,n,er⟩:Sm.St).k)).size:Nat)=q:=⟨_,rfl⟩;rw[hsk]at hat ⊢;obtain⟨sn,hsn⟩:∃q,Value.int .i64 ((⟨z,k,gb,n,er⟩:Sm.St).n:Nat)=q:=⟨_,rfl⟩;rw[hsn]at hat ⊢;obtain⟨sz,hsz⟩:∃q,zBc z=q:=⟨_,rfl⟩;obtain⟨sf,hsf⟩:∃q,zBc (F z)=q:=⟨_,rfl⟩;have HAT:=hy' hat;have c6:=Rw.At.cell hat 6 rfl;have c4:=Rw.At.cell hat 4 rfl;have c2:=Rw.At.cell hat 2 rfl;have cl:=Rw.At.lt hat;simp only[hsz,hsf]at HAT hTK c2 c4 c6 hzs ⊢;have HF6:Hy (gb≠[]→_):=hy' fun (_:gb≠[])=>Sm.fail_any g pb fid 6 (.string sz) sk (.string ⟨gb.toArray⟩) sn (.int .i64 er) w HAT.o
 have HTK:=hy' hTK;have HZS:=hy' hzs;obtain⟨sg,hsg⟩:∃q:ByteArray,⟨gb.toArray⟩=q:=⟨_,rfl⟩
 have hgn:(sg == ⟨#[]⟩)=decide (gb=[]):=by
  rw[←hsg];cases gb with
  | nil=>rfl
  | cons b gb=>rw[decide_eq_false (by simp)];show ((b::gb).toArray == #[])=false;simp
 have hse:gb=[]→sg=⟨#[]⟩:=fun h=>by rw[←hsg,h]
 have HSE:=hy' hse;have HSL:Hy (sg.toList=gb):=hy' (by rw[ByteArray.toList_eq,←hsg]);have hgs:sg.size≤3:=by rw[←hsg];exact hgl
 have HGN:=hy' hgn;rw[hsg]at c4;simp only[hsg]at HAT HF6 ⊢;clear hF hen ok hw hs hat hsk hsn hsz hsf hsg hTK hzs hgn hgl hse;go_enter Tryz.func13,Tryz.ntmps13
 by_cases he:er=0
 rotate_left
 · have heb:(er != 0)=true:=by simpa using he
   have HE:=hy' he
   have HCF:Hy (∀W,Below w.heap.size w W→(∀x:Stg.Later Stg.Ex W,x.val.cell? ⟨g,6,none⟩=some (.int .i64 er))):=hy' fun W hW =>
    have hT:=Rw.At.below HAT.o hW
    Stg.cells (hT.cell 6 rfl) hT.lt
   have HQ0:=hy' (Below.refl w.heap.size w).drew;have HQQ:=hy' (show w.grownBy w.drew (some g) from zDh (Below.refl w.heap.size w).drew);clear he;go_upto_region 2 with (fail)
   refine Stg.wp_region (by kernel_rfl) Stg.Ex Stg.Ex.rel ?_
   (iterate 3 (refine Stg.readW (by kernel_rfl) ?_;intro K hK;go_big_quiet_op;go_big_quiet_on))
   obtain f0:=HCF.o w.drew HQ0.o;refine Stg.read 0 (by kernel_rfl) w.drew rfl ?_;intro K hK;go_big_quiet_op;go_big_quiet_on
   (iterate 2 (refine Stg.readW (by kernel_rfl) ?_;intro K hK;go_big_quiet_op;go_big_quiet_on))
   clear f0;refine Stg.nil w.drew rfl ?_;go_wp2_with fail;go_ret2;exact⟨HQQ.o,.inl ⟨HE.o,rfl,Rw.At.below HAT.o HQ0.o⟩⟩
 subst he
 by_cases hge:gb=[]
 rotate_left
 · have hgt:(sg == ⟨#[]⟩)=false:=by rw[HGN.o];exact decide_eq_false hge
   have hgt2:(sg != ⟨#[]⟩)=true:=by simp[bne,hgt]
   have hgt3:sg.toList.isEmpty=false:=by rw[HSL.o];cases gb with|nil=>exact absurd rfl hge|cons b l=>rfl
   have HFF:=hy' (HF6.o hge);have HGE:=hy' hge;clear hge;go_wp2_with fail;refine HFF.o.mono ?_;rintro e r1 ⟨rfl,hg1,hA1⟩;have HG1:=hy' hg1;have HA1:=hy' hA1;clear hg1 hA1 c6 c4 c2 cl;go_wp2_with fail;go_ret2;exact⟨HG1.o,.inl ⟨HGE.o,rfl,HA1.o⟩⟩
 have hgt:(sg == ⟨#[]⟩)=true:=by rw[HGN.o,hge];rfl
 have hgt2:(sg != ⟨#[]⟩)=false:=by simp[bne,hgt]
 have hse:=HSE.o hge;have hz1:=HZS.o rfl;have HTT:=hy' (HTK.o rfl hge);have HGE:=hy' hge;subst hse;clear hgt hgt2 hge;go_wp2_with fail;refine HTT.o.mono ?_;rintro e r1 ⟨rfl,hg1,hA1⟩;have HG1:=hy' hg1;have HA1:=hy' hA1;have HQ:=hy' hA1
 have HCF:Hy (∀W,Below r1.heap.size r1 W→(∀x:Stg.Later Stg.Ex W,x.val.cell? ⟨g,0,none⟩=some (.pointer (some ⟨pb,0,none⟩)))∧(∀x:Stg.Later Stg.Ex W,x.val.cell? ⟨g,1,none⟩=some (.func (.func fid) #[] #[]))):=hy' fun W hW =>
  have hT:=Rw.At.below hA1 hW
  ⟨Stg.cells (hT.cell 0 rfl) hT.lt,Stg.cells (hT.cell 1 rfl) hT.lt⟩
 have HQ0:=hy' (Below.refl r1.heap.size r1).drew;clear hg1 hA1 c6 c4 c2 cl hz1;go_upto_region 6 with (fail)
 refine Stg.wp_region (by kernel_rfl) Stg.Ex Stg.Ex.rel ?_
 (iterate 4 (refine Stg.readW (by kernel_rfl) ?_;intro K hK;go_big_quiet_op;go_big_quiet_on))
 obtain⟨f0,f1⟩:=HCF.o r1.drew HQ0.o;refine Stg.read 0 (by kernel_rfl) r1.drew rfl ?_;intro K hK;go_big_quiet_op;go_big_quiet_on
 (iterate 3 (refine Stg.readW (by kernel_rfl) ?_;intro K hK;go_big_quiet_op;go_big_quiet_on))
 refine Stg.read 0 (by kernel_rfl) r1.drew rfl ?_;intro K hK;go_big_quiet_op;go_big_quiet_on
 (iterate 2 (refine Stg.readW (by kernel_rfl) ?_;intro K hK;go_big_quiet_op;go_big_quiet_on))
 have hq:=HQ.o;have c0:=hq.cell 0 rfl;have f0':=hq.frozen 0;have c1:=hq.cell 1 rfl;have f1':=hq.frozen 1;have c2:=hq.cell 2 rfl;have f2':=hq.frozen 2;have c3:=hq.cell 3 rfl;have f3':=hq.frozen 3;have c4:=hq.cell 4 rfl;have f4':=hq.frozen 4;have c5:=hq.cell 5 rfl;have f5':=hq.frozen 5;have c6:=hq.cell 6 rfl;have f6':=hq.frozen 6;have u0:=hq.lt;clear hq;refine Stg.last (by kernel_rfl) r1.drew rfl ?_;intro K hK;go_simp;obtain⟨q1,hq1⟩:∃q1,(((((((r1.setCell ⟨g,0,none⟩ (.pointer (some ⟨pb,0,none⟩))).setCell ⟨g,1,none⟩ (.func (.func fid) #[] #[])).setCell ⟨g,2,none⟩ (.string ⟨#[]⟩)).setCell ⟨g,3,none⟩ (.int .i64 0)).setCell ⟨g,4,none⟩ (.string ⟨#[]⟩)).setCell ⟨g,5,none⟩ (.int .i64 0)).setCell ⟨g,6,none⟩ (.int .i64 0)).drew=q1:=⟨_,rfl⟩;rw[hq1];refine hK _ _ ?_;intro A' hA';subst hA';clear c0 f0' c1 f1' c2 f2' c3 f3' c4 f4' c5 f5' c6 f6' u0 f0 f1;refine Stg.nil q1 rfl ?_;have ha:=((((((Rw.At.set HQ.o 0 (.pointer (some ⟨pb,0,none⟩))).set 1 (.func (.func fid) #[] #[])).set 2 (.string ⟨#[]⟩)).set 3 (.int .i64 0)).set 4 (.string ⟨#[]⟩)).set 5 (.int .i64 0)).set 6 (.int .i64 0)
 have ha:Sm.At q1 g (.pointer (some ⟨pb,0,none⟩)) (.func (.func fid) #[] #[]) (Sm.bad 0):=by
  have hcs:Sm.cells (.pointer (some ⟨pb,0,none⟩)) (.func (.func fid) #[] #[]) (Sm.bad 0)=[.pointer (some ⟨pb,0,none⟩),.func (.func fid) #[] #[],.string ⟨#[]⟩,.int .i64 0,.string ⟨#[]⟩,.int .i64 0,.int .i64 0]:=rfl;unfold Sm.At;rw[hcs,←hq1];exact Rw.At.below ha (Below.refl _ _).drew
 have hgr:r1.grownBy q1 (some g):=by
  rw[←hq1];exact zA0 (zA0 (Rw.grown_set _ _ _) (zA0 (Rw.grown_set _ _ _) (zA0 (Rw.grown_set _ _ _) (zA0 (Rw.grown_set _ _ _) (zA0 (Rw.grown_set _ _ _) (zA0 (Rw.grown_set _ _ _) (Rw.grown_set _ _ _))))))) (zDh (Below.refl _ _).drew)
 have HA:=hy' ha;have HGR:=hy' (zA0 HG1.o hgr);clear ha hgr hq1;go_wp2_with fail;go_ret2;exact⟨HGR.o,.inr ⟨HGE.o,rfl,HA.o⟩⟩
omit ok hen hF in
set_option maxRecDepth 100000 in
set_option maxHeartbeats 2000000 in
theorem Sm.waits_any (s:Sm.St) (w:World) (hs:Sm.Ok (Sm.fl T) s) (hzs:(zBc s.z).size≤100000) (hat:Sm.At w g (.pointer (some ⟨pb,0,none⟩)) (.func (.func fid) #[] #[]) s) :
 Calls Tryz.prog 19 #[.pointer (some ⟨g,0,none⟩)] w fun e w'=>e=.returned (.int .i64 (((zBc s.z).size+s.g.length:Nat):Int))∧Below w.heap.size w w':=by
 obtain⟨z,k,gb,n,er⟩:=s;have hgl:=hs.gl;unfold Sm.At Sm.cells at *;have c2:=Rw.At.cell hat 2 rfl;have c4:=Rw.At.cell hat 4 rfl;have cl:=Rw.At.lt hat;obtain⟨sz,hsz⟩:∃q,zBc z=q:=⟨_,rfl⟩;obtain⟨sg,hsg⟩:∃q:ByteArray,⟨gb.toArray⟩=q:=⟨_,rfl⟩;have hgs:gb.length=sg.size:=by rw[←hsg];rfl
 simp only[hsz,hsg,hgs]at c2 c4 hgl hzs ⊢;have HAT:=hy' hat
 have HCF:Hy (∀W,Below w.heap.size w W→(∀x:Stg.Later Stg.Ex W,x.val.cell? ⟨g,2,none⟩=some (.string sz))∧(∀x:Stg.Later Stg.Ex W,x.val.cell? ⟨g,4,none⟩=some (.string sg))):=hy' fun W hW =>
  have hT:=Rw.At.below hat hW
  ⟨Stg.cells (by rw[←hsz];exact hT.cell 2 rfl) hT.lt,Stg.cells (by rw[←hsg];exact hT.cell 4 rfl) hT.lt⟩
 have HQ0:=hy' (Below.refl w.heap.size w).drew;clear hs hat hsz hsg hgs;rw[Int.natCast_add];go_enter Tryz.func19,Tryz.ntmps19;go_upto_region 1 with (fail)
 refine Stg.wp_region (by kernel_rfl) Stg.Ex Stg.Ex.rel ?_
 (iterate 3 (refine Stg.readW (by kernel_rfl) ?_;intro K hK;go_big_quiet_op;go_big_quiet_on))
 obtain⟨f0,f1⟩:=HCF.o w.drew HQ0.o;refine Stg.read 0 (by kernel_rfl) w.drew rfl ?_;intro K hK;go_big_quiet_op;go_big_quiet_on
 (iterate 4 (refine Stg.readW (by kernel_rfl) ?_;intro K hK;go_big_quiet_op;go_big_quiet_on))
 refine Stg.read 0 (by kernel_rfl) w.drew rfl ?_;intro K hK;go_big_quiet_op;go_big_quiet_on
 (iterate 3 (refine Stg.readW (by kernel_rfl) ?_;intro K hK;go_big_quiet_op;go_big_quiet_on))
 clear f0 f1;refine Stg.nil w.drew rfl ?_;go_wp2_with fail;go_ret;exact⟨rfl,HQ0.o⟩
omit ok hen hF in
set_option maxRecDepth 100000 in
set_option maxHeartbeats 2000000 in
theorem Sm.write_bad (er:Int) (he:er≠0) (l:ByteArray) (w:World) (hat:Sm.At w g (.pointer (some ⟨pb,0,none⟩)) (.func (.func fid) #[] #[]) (Sm.bad er)) :
 Calls Tryz.prog 12 #[.pointer (some ⟨g,0,none⟩),.string l] w fun e w'=>e=.returned (.tuple #[.string ⟨#[]⟩,.int .i64 er])∧w.grownBy w' (some g)∧Sm.At w' g (.pointer (some ⟨pb,0,none⟩)) (.func (.func fid) #[] #[]) (Sm.bad er):=by
 have HAT:=hy' hat;unfold Sm.At Sm.cells at hat;have c6:w.cell? ⟨g,6,none⟩=some (.int .i64 er):=Rw.At.cell hat 6 rfl;have cl:=Rw.At.lt hat;have heb:(er != 0)=true:=by simpa using he
 have HE:=hy' he
 have HCF:Hy (∀W,Below w.heap.size w W→(∀x:Stg.Later Stg.Ex W,x.val.cell? ⟨g,6,none⟩=some (.int .i64 er))):=hy' fun W hW =>
  have hT:=Rw.At.below hat hW
  Stg.cells (hT.cell 6 rfl) hT.lt
 have HQ0:=hy' (Below.refl w.heap.size w).drew;have HQQ:=hy' (show w.grownBy w.drew (some g) from zDh (Below.refl w.heap.size w).drew);clear he hat;go_enter Tryz.func12,Tryz.ntmps12;go_upto_region 2 with (fail)
 refine Stg.wp_region (by kernel_rfl) Stg.Ex Stg.Ex.rel ?_
 (iterate 3 (refine Stg.readW (by kernel_rfl) ?_;intro K hK;go_big_quiet_op;go_big_quiet_on))
 obtain f0:=HCF.o w.drew HQ0.o;refine Stg.read 0 (by kernel_rfl) w.drew rfl ?_;intro K hK;go_big_quiet_op;go_big_quiet_on
 (iterate 2 (refine Stg.readW (by kernel_rfl) ?_;intro K hK;go_big_quiet_op;go_big_quiet_on))
 clear f0;refine Stg.nil w.drew rfl ?_;go_wp2_with fail;go_ret2;exact⟨by first|rfl|trivial,HQQ.o,Rw.At.below HAT.o HQ0.o⟩
end
theorem Sm.newW (w:World) (v fv:Value):Sm.At (w.alloc (.cells #[v,fv,.string ⟨#[]⟩,.int .i64 0,.string ⟨#[]⟩,.int .i64 0,.int .i64 0] 68)) w.heap.size v fv (Sm.bad 0):=Rw.At.new w _ [v,fv,.string ⟨#[]⟩,.int .i64 0,.string ⟨#[]⟩,.int .i64 0,.int .i64 0]
set_option maxRecDepth 100000 in
set_option maxHeartbeats 2000000 in
theorem Sm.new_any (pb:Nat) (b:Bool) (w:World) :
 Calls Tryz.prog 11 #[.pointer (some ⟨pb,0,none⟩),.int .i64 (if b=true then 2 else 1)] w fun e w'=>e=.returned (.tuple #[.pointer (some ⟨w.heap.size,0,none⟩),.int .i64 0])∧Below w.heap.size w w'∧Sm.At w' w.heap.size (.pointer (some ⟨pb,0,none⟩)) (.func (.func (if b=true then 25 else 24)) #[] #[]) (Sm.bad 0):=by
 obtain⟨w1,hw1⟩:∃w1,w.alloc (.cells #[.pointer (some ⟨pb,0,none⟩),.func (.func (if b=true then 25 else 24)) #[] #[],.string ⟨#[]⟩,.int .i64 0,.string ⟨#[]⟩,.int .i64 0,.int .i64 0] 68)=w1:=⟨_,rfl⟩;have ha:Sm.At w1 w.heap.size (.pointer (some ⟨pb,0,none⟩)) (.func (.func (if b=true then 25 else 24)) #[] #[]) (Sm.bad 0):=by rw[←hw1];exact Sm.newW w _ _
 have hb:Below w.heap.size w w1:=by rw[←hw1];exact (Below.refl _ _).alloc (Nat.le_refl _) _
 have HA:=hy' ha;have HB:=hy' hb;have HW:=hy' hw1;clear ha hb hw1;cases b
 · go_enter Tryz.func11,Tryz.ntmps11;go_wp2_with fail;go_ret2;have hw:=HW.o;simp only[if_true,if_false,Bool.false_eq_true]at hw;rw[hw];exact⟨rfl,HB.o,HA.o⟩
 go_enter Tryz.func11,Tryz.ntmps11;go_wp2_with fail;go_ret2;have hw:=HW.o;simp only[if_true,if_false]at hw;rw[hw];exact⟨rfl,HB.o,HA.o⟩
set_option maxRecDepth 100000 in
set_option maxHeartbeats 2000000 in
theorem Sm.new_none (v:Value) (w:World) :
 Calls Tryz.prog 11 #[v,.int .i64 0] w fun e w'=>e=.returned (.tuple #[.pointer none,.int .i64 1])∧Below w.heap.size w w':=by
 have HB:=hy' (Below.refl w.heap.size w);go_enter Tryz.func11,Tryz.ntmps11;go_wp2_with fail;go_ret2;exact⟨rfl,HB.o⟩
end Go.Proofs.YthngjlllojiacaaGreatDoor
