/- The layer stream: End, Waits, New, by walking their texts. -/
import Derived.Test.YtdbpjmfflofadaaGreatDoorSmWrite
set_option maxRecDepth 100000
set_option maxHeartbeats 2000000
set_option linter.unusedVariables false
set_option linter.unusedSimpArgs false
set_option linter.unusedSectionVars false
namespace Go.Proofs.YtdbpjmfflofadaaGreatDoor
open Go.Proofs.Tryz
open Go.RowKit
section
variable (pb:Nat) (T:List Rw.Row) (S:List Int) (fid:FuncId) (F:List Int→List Int) (w0:World) (g:Nat) (ok:Ud.Ok T S) (his:Ud.Is w0 (.pointer (some ⟨pb,0,none⟩)) T S) (hH:Heads w0) (hg:w0.heap.size≤g)
 (hen:∀(args:Array Value) (w:World),(callFunc fid args).run prog w=.ok (.enter fid args) w)
 (hF:∀(z:List Int) (W:World),Below w0.heap.size w0 W→(∀c∈z,C.isC c=true)→(Nf.fl T z).length≤1024→Calls prog fid #[.pointer (some ⟨pb,0,none⟩),.string (zA5 z)] W fun e w'=>e=.returned (.tuple #[.string (zA5 (F z)),.int .i64 0])∧Below W.heap.size W w')
include ok hen hF
section
theorem zHv (s:Sm.St) (w:World) (hw:Below w0.heap.size w0 w) (hs:s.e=0→Sm.Ok (Sm.fl T) s) (az:s.g.length≤3) (aa:Sm.At w g (.pointer (some ⟨pb,0,none⟩)) (.func (.func fid) #[] #[]) s) :
 Calls prog 12 #[.pointer (some ⟨g,0,none⟩)] w fun e w'=>w.grownBy w' (some g) ∧
  ((s.e≠0∧e=.returned (.tuple #[.string ⟨#[]⟩,.int .i64 s.e])∧Sm.At w' g (.pointer (some ⟨pb,0,none⟩)) (.func (.func fid) #[] #[]) s) ∨
   (s.e=0∧s.g≠[]∧e=.returned (.tuple #[.string ⟨#[]⟩,.int .i64 6])∧Sm.At w' g (.pointer (some ⟨pb,0,none⟩)) (.func (.func fid) #[] #[]) (Sm.bad 6)) ∨
   (s.e=0∧s.g=[]∧e=.returned (.tuple #[.string (zA5 (F s.z)),.int .i64 0])∧Sm.At w' g (.pointer (some ⟨pb,0,none⟩)) (.func (.func fid) #[] #[]) (Sm.bad 0))):=by
 obtain⟨z,k,gb,n,er⟩:=s
 have av:er=0→gb=[]→Calls prog 32 #[.pointer (some ⟨g,0,none⟩),.int .i64 ((zA5 z).size:Nat)] w fun e w'=>e=.returned (.string (zA5 (F z)))∧w.grownBy w' (some g)∧Sm.At w' g (.pointer (some ⟨pb,0,none⟩)) (.func (.func fid) #[] #[]) ⟨[],0,[],n,0⟩:=fun h1 h2=>by
  subst h1 h2;have:=zJw pb T S fid F w0 g ok hen hF _ z.length w hw (hs rfl) (Za _) aa;rw[show (⟨z,k,[],n,0⟩:Sm.St).z=z from rfl,Q4,Kf]at this;exact this
 have au:er=0→(zA5 z).size≤100000:=fun h=>by
  have hs:=hs h;have h1:=zBj (z:=z) (fun x hx=>hs.z x hx);have h2:=hs.zn;have h3:=hs.n;rw[zBN]at h2;have h4:z.length≤(Nf.fl T z).length:=zEs ok z;have h5:(Nf.fl T z).length≤1024:=Zh h2 h3;omega
 unfold Sm.At Sm.cells at *;obtain⟨sk,a8⟩:∃q,Value.int .i64 ((zA5 ((⟨z,k,gb,n,er⟩:Sm.St).z.take (⟨z,k,gb,n,er⟩:Sm.St).k)).size:Nat)=q:=⟨_,rfl⟩;rw[a8]at aa ⊢;obtain⟨sn,ay⟩:∃q,Value.int .i64 ((⟨z,k,gb,n,er⟩:Sm.St).n:Nat)=q:=⟨_,rfl⟩;rw[ay]at aa ⊢;obtain⟨sz,bb⟩:∃q,zA5 z=q:=⟨_,rfl⟩;obtain⟨sf,ax⟩:∃q,zA5 (F z)=q:=⟨_,rfl⟩;have ag:=hy' aa;have c6:=Rw.At.cell aa 6 rfl;have c4:=Rw.At.cell aa 4 rfl;have c2:=Rw.At.cell aa 2 rfl;have cl:=Rw.At.lt aa;simp only[bb,ax]at ag av c2 c4 c6 au ⊢;have ba:Hy (gb≠[]→_):=hy' fun (_:gb≠[])=>zJv g pb fid 6 (.string sz) sk (.string ⟨gb.toArray⟩) sn (.int .i64 er) w ag.o
 have bl:=hy' av;have bq:=hy' au;obtain⟨sg,af⟩:∃q:ByteArray,⟨gb.toArray⟩=q:=⟨_,rfl⟩
 have a1:(sg == ⟨#[]⟩)=decide (gb=[]):=by
  rw[←af];cases gb with
  | nil=>rfl
  | cons b gb=>rw[Zp (by simp)];show ((b::gb).toArray == #[])=false;simp
 have aj:gb=[]→sg=⟨#[]⟩:=fun h=>by rw[←af,h]
 have bc:=hy' aj;have bo:Hy (sg.toList=gb):=hy' (by rw[Yq,←af]);have bx:sg.size≤3:=by rw[←af];exact az
 have a7:=hy' a1;rw[af]at c4;simp only[af]at ag ba ⊢;clear hF hen ok hw hs aa a8 ay bb ax af av au a1 az aj;go_enter func12,ntmps12
 by_cases he:er=0
 rotate_left
 · have bz:(er != 0)=true:=by simpa using he
   have HE:=hy' he
   have ar:Hy (∀W,Below w.heap.size w W→(∀x:Stg.Later Stg.Ex W,x.val.cell? ⟨g,6,none⟩=some (.int .i64 er))):=hy' fun W hW =>
    have hT:=Rw.At.below ag.o hW
    Stg.cells (hT.cell 6 rfl) hT.lt
   have ak:=hy' (Zd w.heap.size w).drew;have bj:=hy' (show w.grownBy w.drew (some g) from zAo (Zd w.heap.size w).drew);clear he;go_upto_region 2 with (fail)
   refine Stg.wp_region (by kernel_rfl) Stg.Ex Stg.Ex.rel ?_
   (iterate 3 (refine Stg.readW (by kernel_rfl) ?_;intro K hK;go_big_quiet_op;go_big_quiet_on))
   obtain f0:=ar.o w.drew ak.o;refine Stg.read 0 (by kernel_rfl) w.drew rfl ?_;intro K hK;go_big_quiet_op;go_big_quiet_on
   (iterate 2 (refine Stg.readW (by kernel_rfl) ?_;intro K hK;go_big_quiet_op;go_big_quiet_on))
   clear f0;refine Stg.nil w.drew rfl ?_;go_wp2_with fail;go_ret2;exact⟨bj.o,.inl ⟨HE.o,rfl,Rw.At.below ag.o ak.o⟩⟩
 subst he
 by_cases hge:gb=[]
 rotate_left
 · have hgt:(sg == ⟨#[]⟩)=false:=by rw[a7.o];exact Zp hge
   have ah:(sg != ⟨#[]⟩)=true:=by simp[bne,hgt]
   have bm:sg.toList.isEmpty=false:=by rw[bo.o];cases gb with|nil=>exact absurd rfl hge|cons b l=>rfl
   have bk:=hy' (ba.o hge);have ap:=hy' hge;clear hge;go_wp2_with fail;refine bk.o.mono ?_;rintro e r1 ⟨rfl,ai,ae⟩;have aq:=hy' ai;have aw:=hy' ae;clear ai ae c6 c4 c2 cl;go_wp2_with fail;go_ret2;exact⟨aq.o,.inl ⟨ap.o,rfl,aw.o⟩⟩
 have hgt:(sg == ⟨#[]⟩)=true:=by rw[a7.o,hge];rfl
 have ah:(sg != ⟨#[]⟩)=false:=by simp[bne,hgt]
 have aj:=bc.o hge;have bs:=bq.o rfl;have bg:=hy' (bl.o rfl hge);have ap:=hy' hge;subst aj;clear hgt ah hge;go_wp2_with fail;refine bg.o.mono ?_;rintro e r1 ⟨rfl,ai,ae⟩;have aq:=hy' ai;have aw:=hy' ae;have HQ:=hy' ae
 have ar:Hy (∀W,Below r1.heap.size r1 W→(∀x:Stg.Later Stg.Ex W,x.val.cell? ⟨g,0,none⟩=some (.pointer (some ⟨pb,0,none⟩)))∧(∀x:Stg.Later Stg.Ex W,x.val.cell? ⟨g,1,none⟩=some (.func (.func fid) #[] #[]))):=hy' fun W hW =>
  have hT:=Rw.At.below ae hW
  ⟨Stg.cells (hT.cell 0 rfl) hT.lt,Stg.cells (hT.cell 1 rfl) hT.lt⟩
 have ak:=hy' (Zd r1.heap.size r1).drew;clear ai ae c6 c4 c2 cl bs;go_upto_region 6 with (fail)
 refine Stg.wp_region (by kernel_rfl) Stg.Ex Stg.Ex.rel ?_
 (iterate 4 (refine Stg.readW (by kernel_rfl) ?_;intro K hK;go_big_quiet_op;go_big_quiet_on))
 obtain⟨f0,f1⟩:=ar.o r1.drew ak.o;refine Stg.read 0 (by kernel_rfl) r1.drew rfl ?_;intro K hK;go_big_quiet_op;go_big_quiet_on
 (iterate 3 (refine Stg.readW (by kernel_rfl) ?_;intro K hK;go_big_quiet_op;go_big_quiet_on))
 refine Stg.read 0 (by kernel_rfl) r1.drew rfl ?_;intro K hK;go_big_quiet_op;go_big_quiet_on
 (iterate 2 (refine Stg.readW (by kernel_rfl) ?_;intro K hK;go_big_quiet_op;go_big_quiet_on))
 have hq:=HQ.o;have c0:=hq.cell 0 rfl;have bt:=hq.frozen 0;have c1:=hq.cell 1 rfl;have bh:=hq.frozen 1;have c2:=hq.cell 2 rfl;have bi:=hq.frozen 2;have c3:=hq.cell 3 rfl;have bf:=hq.frozen 3;have c4:=hq.cell 4 rfl;have bw:=hq.frozen 4;have c5:=hq.cell 5 rfl;have br:=hq.frozen 5;have c6:=hq.cell 6 rfl;have bn:=hq.frozen 6;have u0:=hq.lt;clear hq;refine Stg.last (by kernel_rfl) r1.drew rfl ?_;intro K hK;go_simp;obtain⟨q1,ao⟩:∃q1,(((((((r1.setCell ⟨g,0,none⟩ (.pointer (some ⟨pb,0,none⟩))).setCell ⟨g,1,none⟩ (.func (.func fid) #[] #[])).setCell ⟨g,2,none⟩ (.string ⟨#[]⟩)).setCell ⟨g,3,none⟩ (.int .i64 0)).setCell ⟨g,4,none⟩ (.string ⟨#[]⟩)).setCell ⟨g,5,none⟩ (.int .i64 0)).setCell ⟨g,6,none⟩ (.int .i64 0)).drew=q1:=⟨_,rfl⟩;rw[ao];refine hK _ _ ?_;intro A' bp;subst bp;clear c0 bt c1 bh c2 bi c3 bf c4 bw c5 br c6 bn u0 f0 f1;refine Stg.nil q1 rfl ?_;have ha:=((((((Rw.At.set HQ.o 0 (.pointer (some ⟨pb,0,none⟩))).set 1 (.func (.func fid) #[] #[])).set 2 (.string ⟨#[]⟩)).set 3 (.int .i64 0)).set 4 (.string ⟨#[]⟩)).set 5 (.int .i64 0)).set 6 (.int .i64 0)
 have ha:Sm.At q1 g (.pointer (some ⟨pb,0,none⟩)) (.func (.func fid) #[] #[]) (Sm.bad 0):=by
  have hcs:Sm.cells (.pointer (some ⟨pb,0,none⟩)) (.func (.func fid) #[] #[]) (Sm.bad 0)=[.pointer (some ⟨pb,0,none⟩),.func (.func fid) #[] #[],.string ⟨#[]⟩,.int .i64 0,.string ⟨#[]⟩,.int .i64 0,.int .i64 0]:=rfl;unfold Sm.At;rw[hcs,←ao];exact Rw.At.below ha (Zd _ _).drew
 have a6:r1.grownBy q1 (some g):=by
  rw[←ao];exact zA0 (zA0 (Rw.grown_set _ _ _) (zA0 (Rw.grown_set _ _ _) (zA0 (Rw.grown_set _ _ _) (zA0 (Rw.grown_set _ _ _) (zA0 (Rw.grown_set _ _ _) (zA0 (Rw.grown_set _ _ _) (Rw.grown_set _ _ _))))))) (zAo (Zd _ _).drew)
 have HA:=hy' ha;have bu:=hy' (zA0 aq.o a6);clear ha a6 ao;go_wp2_with fail;go_ret2;exact⟨bu.o,.inr ⟨ap.o,rfl,HA.o⟩⟩
omit ok hen hF in
theorem zI5 (s:Sm.St) (w:World) (hs:Sm.Ok (Sm.fl T) s) (ai:(zA5 s.z).size≤100000) (aa:Sm.At w g (.pointer (some ⟨pb,0,none⟩)) (.func (.func fid) #[] #[]) s) :
 Calls prog 18 #[.pointer (some ⟨g,0,none⟩)] w fun e w'=>e=.returned (.int .i64 (((zA5 s.z).size+s.g.length:Nat):Int))∧Below w.heap.size w w':=by
 obtain⟨z,k,gb,n,er⟩:=s;have ak:=hs.gl;unfold Sm.At Sm.cells at *;have c2:=Rw.At.cell aa 2 rfl;have c4:=Rw.At.cell aa 4 rfl;have cl:=Rw.At.lt aa;obtain⟨sz,af⟩:∃q,zA5 z=q:=⟨_,rfl⟩;obtain⟨sg,ae⟩:∃q:ByteArray,⟨gb.toArray⟩=q:=⟨_,rfl⟩;have ag:gb.length=sg.size:=by rw[←ae];rfl
 simp only[af,ae,ag]at c2 c4 ak ai ⊢;have ao:=hy' aa
 have aj:Hy (∀W,Below w.heap.size w W→(∀x:Stg.Later Stg.Ex W,x.val.cell? ⟨g,2,none⟩=some (.string sz))∧(∀x:Stg.Later Stg.Ex W,x.val.cell? ⟨g,4,none⟩=some (.string sg))):=hy' fun W hW =>
  have hT:=Rw.At.below aa hW
  ⟨Stg.cells (by rw[←af];exact hT.cell 2 rfl) hT.lt,Stg.cells (by rw[←ae];exact hT.cell 4 rfl) hT.lt⟩
 have ah:=hy' (Zd w.heap.size w).drew;clear hs aa af ae ag;rw[Kp];go_enter func18,ntmps18;go_upto_region 1 with (fail)
 refine Stg.wp_region (by kernel_rfl) Stg.Ex Stg.Ex.rel ?_
 (iterate 3 (refine Stg.readW (by kernel_rfl) ?_;intro K hK;go_big_quiet_op;go_big_quiet_on))
 obtain⟨f0,f1⟩:=aj.o w.drew ah.o;refine Stg.read 0 (by kernel_rfl) w.drew rfl ?_;intro K hK;go_big_quiet_op;go_big_quiet_on
 (iterate 4 (refine Stg.readW (by kernel_rfl) ?_;intro K hK;go_big_quiet_op;go_big_quiet_on))
 refine Stg.read 0 (by kernel_rfl) w.drew rfl ?_;intro K hK;go_big_quiet_op;go_big_quiet_on
 (iterate 3 (refine Stg.readW (by kernel_rfl) ?_;intro K hK;go_big_quiet_op;go_big_quiet_on))
 clear f0 f1;refine Stg.nil w.drew rfl ?_;go_wp2_with fail;go_ret;exact⟨rfl,ah.o⟩
omit ok hen hF in
theorem zN5 (er:Int) (he:er≠0) (l:ByteArray) (w:World) (aa:Sm.At w g (.pointer (some ⟨pb,0,none⟩)) (.func (.func fid) #[] #[]) (Sm.bad er)) :
 Calls prog 11 #[.pointer (some ⟨g,0,none⟩),.string l] w fun e w'=>e=.returned (.tuple #[.string ⟨#[]⟩,.int .i64 er])∧w.grownBy w' (some g)∧Sm.At w' g (.pointer (some ⟨pb,0,none⟩)) (.func (.func fid) #[] #[]) (Sm.bad er):=by
 have af:=hy' aa;unfold Sm.At Sm.cells at aa;have c6:w.cell? ⟨g,6,none⟩=some (.int .i64 er):=Rw.At.cell aa 6 rfl;have cl:=Rw.At.lt aa;have ai:(er != 0)=true:=by simpa using he
 have HE:=hy' he
 have ag:Hy (∀W,Below w.heap.size w W→(∀x:Stg.Later Stg.Ex W,x.val.cell? ⟨g,6,none⟩=some (.int .i64 er))):=hy' fun W hW =>
  have hT:=Rw.At.below aa hW
  Stg.cells (hT.cell 6 rfl) hT.lt
 have ae:=hy' (Zd w.heap.size w).drew;have ah:=hy' (show w.grownBy w.drew (some g) from zAo (Zd w.heap.size w).drew);clear he aa;go_enter func11,ntmps11;go_upto_region 2 with (fail)
 refine Stg.wp_region (by kernel_rfl) Stg.Ex Stg.Ex.rel ?_
 (iterate 3 (refine Stg.readW (by kernel_rfl) ?_;intro K hK;go_big_quiet_op;go_big_quiet_on))
 obtain f0:=ag.o w.drew ae.o;refine Stg.read 0 (by kernel_rfl) w.drew rfl ?_;intro K hK;go_big_quiet_op;go_big_quiet_on
 (iterate 2 (refine Stg.readW (by kernel_rfl) ?_;intro K hK;go_big_quiet_op;go_big_quiet_on))
 clear f0;refine Stg.nil w.drew rfl ?_;go_wp2_with fail;go_ret2;exact⟨by first|rfl|trivial,ah.o,Rw.At.below af.o ae.o⟩
end
end
theorem zT9 (w:World) (v fv:Value):Sm.At (w.alloc (.cells #[v,fv,.string ⟨#[]⟩,.int .i64 0,.string ⟨#[]⟩,.int .i64 0,.int .i64 0] 67)) w.heap.size v fv (Sm.bad 0):=Rw.At.new w _ [v,fv,.string ⟨#[]⟩,.int .i64 0,.string ⟨#[]⟩,.int .i64 0,.int .i64 0]
theorem zE4 (pb:Nat) (b:Bool) (w:World) :
 Calls prog 10 #[.pointer (some ⟨pb,0,none⟩),.int .i64 (if b=true then 2 else 1)] w fun e w'=>e=.returned (.tuple #[.pointer (some ⟨w.heap.size,0,none⟩),.int .i64 0])∧Below w.heap.size w w'∧Sm.At w' w.heap.size (.pointer (some ⟨pb,0,none⟩)) (.func (.func (if b=true then 29 else 28)) #[] #[]) (Sm.bad 0):=by
 obtain⟨w1,aa⟩:∃w1,w.alloc (.cells #[.pointer (some ⟨pb,0,none⟩),.func (.func (if b=true then 29 else 28)) #[] #[],.string ⟨#[]⟩,.int .i64 0,.string ⟨#[]⟩,.int .i64 0,.int .i64 0] 67)=w1:=⟨_,rfl⟩;have ha:Sm.At w1 w.heap.size (.pointer (some ⟨pb,0,none⟩)) (.func (.func (if b=true then 29 else 28)) #[] #[]) (Sm.bad 0):=by rw[←aa];exact zT9 w _ _
 have hb:Below w.heap.size w w1:=by rw[←aa];exact (Zd _ _).alloc (Za _) _
 have HA:=hy' ha;have HB:=hy' hb;have HW:=hy' aa;clear ha hb aa;cases b
 · go_enter func10,ntmps10;go_wp2_with fail;go_ret2;have hw:=HW.o;simp only[Yo,Ye,ZF]at hw;rw[hw];exact⟨rfl,HB.o,HA.o⟩
 go_enter func10,ntmps10;go_wp2_with fail;go_ret2;have hw:=HW.o;simp only[Yo,Ye]at hw;rw[hw];exact⟨rfl,HB.o,HA.o⟩
end Go.Proofs.YtdbpjmfflofadaaGreatDoor
