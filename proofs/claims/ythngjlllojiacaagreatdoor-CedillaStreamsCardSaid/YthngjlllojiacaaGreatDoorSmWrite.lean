/- The layer stream: take, Write, End, Waits, New, by walking their texts. -/
import Derived.Test.YthngjlllojiacaaGreatDoorSmByte
set_option linter.unusedSectionVars false
namespace Go.Proofs.YthngjlllojiacaaGreatDoor
open Go.RowKit
set_option linter.unusedSimpArgs false
set_option linter.unusedVariables false
theorem Sm.ext_take {z:List Int} (hz:∀c∈z,U.isC c=true) (k:Nat):(zBc z).extract 0 (zBc (z.take k)).size=zBc (z.take k)∧(zBc z).extract (zBc (z.take k)).size (zBc z).size=zBc (z.drop k)∧(zBc (z.take k)).size≤(zBc z).size:=by
 have h1:∀c∈z.take k,U.isC c=true:=fun c hc=>hz c (List.mem_of_mem_take hc)
 have h2:∀c∈z.drop k,U.isC c=true:=fun c hc=>hz c (List.mem_of_mem_drop hc)
 have e:zAx z=zAx (z.take k)++zAx (z.drop k):=by rw[←zDT,List.take_append_drop]
 rw[zIB hz,zIB h1,zIB h2]
 have hs:(⟨(zAx z).toArray⟩:ByteArray).size=(zAx (z.take k)).length+(zAx (z.drop k)).length:=by
  show (zAx z).length=_;rw[e,List.length_append]
 have ht:(⟨(zAx (z.take k)).toArray⟩:ByteArray).size=(zAx (z.take k)).length:=rfl;refine⟨?_,?_,by omega⟩
 · apply ByteArray.ext
   apply Array.toList_inj.1
   rw[Lib.extract_data,ht,Nat.sub_zero,List.drop_zero];show (zAx z).take _=zAx (z.take k);rw[e,List.take_left]
 apply ByteArray.ext
 apply Array.toList_inj.1
 rw[Lib.extract_data,ht,hs];show ((zAx z).drop _).take _=zAx (z.drop k);rw[e,List.drop_left,Nat.add_sub_cancel_left,List.take_of_length_le (Nat.le_refl _)]
theorem Sm.get_ext (l:List UInt8) {k:Nat} {β:UInt8} (h:l[k]?=some β):(⟨l.toArray⟩:ByteArray).extract k (k+1)=⟨#[β]⟩:=by
 apply ByteArray.ext
 apply Array.toList_inj.1
 rw[Lib.extract_data];obtain⟨h1,h2⟩:=List.getElem?_eq_some_iff.1 h;show (l.drop k).take (k+1-k)=[β];rw[Nat.add_sub_cancel_left,List.drop_eq_getElem_cons h1,h2];rfl
section
variable (pb:Nat) (T:List Rw.Row) (S:List Int) (fid:FuncId) (F:List Int→List Int) (w0:World) (g:Nat) (ok:Ud.Ok T S) (his:Ud.Is w0 (.pointer (some ⟨pb,0,none⟩)) T S) (hH:Heads w0) (hg:w0.heap.size≤g)
 (hen:∀(args:Array Value) (w:World),(callFunc fid args).run Tryz.prog w=.ok (.enter fid args) w)
 (hF:∀(z:List Int) (W:World),Below w0.heap.size w0 W→(∀c∈z,C.isC c=true)→(Nf.fl T z).length≤1024→Calls Tryz.prog fid #[.pointer (some ⟨pb,0,none⟩),.string (zBc z)] W fun e w'=>e=.returned (.tuple #[.string (zBc (F z)),.int .i64 0])∧Below W.heap.size W w')
include ok hen hF
set_option maxRecDepth 100000 in
set_option maxHeartbeats 2000000 in
theorem Sm.take_any (s:Sm.St) (k:Nat) (w:World) (hw:Below w0.heap.size w0 w) (hs:Sm.Ok (Sm.fl T) s) (hk:k≤s.z.length) (hat:Sm.At w g (.pointer (some ⟨pb,0,none⟩)) (.func (.func fid) #[] #[]) s) :
 Calls Tryz.prog 33 #[.pointer (some ⟨g,0,none⟩),.int .i64 ((zBc (s.z.take k)).size:Nat)] w fun e w'=>e=.returned (.string (zBc (F (s.z.take k))))∧w.grownBy w' (some g)∧Sm.At w' g (.pointer (some ⟨pb,0,none⟩)) (.func (.func fid) #[] #[]) ⟨s.z.drop k,0,s.g,s.n,0⟩:=by
 obtain⟨x1,x2,x3⟩:=Sm.ext_take hs.z k
 have hzl:(Nf.fl T (s.z.take k)).length≤1024:=by
  have h1:=hs.zn;have h2:=hs.n;rw[Sm.sum_fl]at h1;have h3:(Nf.fl T s.z).length=(Nf.fl T (s.z.take k)).length+(Nf.fl T (s.z.drop k)).length:=by rw[←List.length_append,←Nf.fl_app,List.take_append_drop]
  omega
 have hzs:(zBc s.z).size≤100000:=by
  have h1:=zFQ (z:=s.z) (fun x hx=>hs.z x hx);have h2:=hs.zn;have h3:=hs.n;rw[Sm.sum_fl]at h2;have h4:s.z.length≤(Nf.fl T s.z).length:=zOc ok s.z;omega
 have HFC:=hF (s.z.take k);have hzc:∀c∈s.z.take k,C.isC c=true:=fun c hc=>hs.z c (List.mem_of_mem_take hc)
 have hc0:Sm.cells (.pointer (some ⟨pb,0,none⟩)) (.func (.func fid) #[] #[]) s=[.pointer (some ⟨pb,0,none⟩),.func (.func fid) #[] #[],.string (zBc s.z),.int .i64 ((zBc (s.z.take s.k)).size:Nat),.string ⟨s.g.toArray⟩,.int .i64 (s.n:Nat),.int .i64 0]:=by unfold Sm.cells;rw[hs.e]
 have hc1:Sm.cells (.pointer (some ⟨pb,0,none⟩)) (.func (.func fid) #[] #[]) ⟨s.z.drop k,0,s.g,s.n,0⟩=[.pointer (some ⟨pb,0,none⟩),.func (.func fid) #[] #[],.string (zBc (s.z.drop k)),.int .i64 0,.string ⟨s.g.toArray⟩,.int .i64 (s.n:Nat),.int .i64 0]:=rfl;unfold Sm.At at *;rw[hc0]at hat;rw[hc1];obtain⟨sz,hsz⟩:∃q,zBc s.z=q:=⟨_,rfl⟩;obtain⟨sa,hsa⟩:∃q,zBc (s.z.take k)=q:=⟨_,rfl⟩;obtain⟨sd,hsd⟩:∃q,zBc (s.z.drop k)=q:=⟨_,rfl⟩;obtain⟨sf,hsf⟩:∃q,zBc (F (s.z.take k))=q:=⟨_,rfl⟩;obtain⟨kz,hkz⟩:∃q,sa.size=q:=⟨_,rfl⟩;rw[hsz]at hat hzs;rw[hsz,hsa,hkz]at x1;rw[hsz,hsa,hsd,hkz]at x2;rw[hsz,hsa,hkz]at x3;rw[hsa,hsf]at HFC;rw[hsa,hkz,hsf,hsd];rw[←x1]at HFC
 have HCF:Hy (∀W,Below w.heap.size w W→(∀x:Stg.Later Stg.Ex W,x.val.cell? ⟨g,0,none⟩=some (.pointer (some ⟨pb,0,none⟩)))∧(∀x:Stg.Later Stg.Ex W,x.val.cell? ⟨g,1,none⟩=some (.func (.func fid) #[] #[]))∧(∀x:Stg.Later Stg.Ex W,x.val.cell? ⟨g,2,none⟩=some (.string sz))):=hy' fun W hW =>
  have hT:=hat.below hW
  ⟨Stg.cells (hT.cell 0 rfl) hT.lt,Stg.cells (hT.cell 1 rfl) hT.lt,Stg.cells (hT.cell 2 rfl) hT.lt⟩
 have HUP:=hy' (fun W (hW:Below w.heap.size w W)=>hw.trans (hW.mono hw.size));have HFW:=hy' (fun W (hW:Below w.heap.size w W)=>HFC W (HUP.o W hW) hzc hzl);have HQ0:=hy' (Below.refl w.heap.size w).drew;have HAT:=hy' hat;have HX2:=hy' x2;have HEN:=hy' hen;have n1:(kz:Int)≤(sz.size:Int):=by omega
 have n0:(0:Int)≤kz:=by omega
 clear hF hen ok hw hs hk hat x1 x2 hzl hc0 hc1 hsz hsa hsd hsf hkz HFC hzc;go_enter Tryz.func33,Tryz.ntmps33;go_upto_region 1 with (fail)
 refine Stg.wp_region (by kernel_rfl) Stg.Ex Stg.Ex.rel ?_
 (iterate 3 (refine Stg.readW (by kernel_rfl) ?_;intro K hK;go_big_quiet_op;go_big_quiet_on))
 obtain⟨f0,f1,f4⟩:=HCF.o w.drew HQ0.o;refine Stg.read 0 (by kernel_rfl) w.drew rfl ?_;intro K hK;go_big_quiet_op;go_big_quiet_on
 (iterate 3 (refine Stg.readW (by kernel_rfl) ?_;intro K hK;go_big_quiet_op;go_big_quiet_on))
 refine Stg.read 0 (by kernel_rfl) w.drew rfl ?_;intro K hK;go_big_quiet_op;go_big_quiet_on
 (iterate 3 (refine Stg.readW (by kernel_rfl) ?_;intro K hK;go_big_quiet_op;go_big_quiet_on))
 refine Stg.read 0 (by kernel_rfl) w.drew rfl ?_;intro K hK;go_big_quiet_op;go_big_quiet_on
 (iterate 2 (refine Stg.readW (by kernel_rfl) ?_;intro K hK;go_big_quiet_op;go_big_quiet_on))
 refine Stg.callV fid _ _ _ rfl rfl (HEN.o) [.pointer (some ⟨pb,0,none⟩),.string (sz.extract 0 kz)] rfl w.drew _ (HFW.o w.drew HQ0.o) (by kernel_rfl) rfl ?_;rintro e q1 ⟨rfl,hb⟩;refine⟨_,rfl,hb,?_⟩;have HQ1:=hy' (HQ0.o.trans (hb.mono HQ0.o.size));clear hb;intro A' hA';simp only[Act.put,List.setIfInBounds_toArray,List.set_cons_succ,List.set_cons_zero]at hA';subst hA'
 (iterate 5 (refine Stg.readW (by kernel_rfl) ?_;intro K hK;go_big_quiet_op;go_big_quiet_on))
 clear f0 f1 f4;refine Stg.nil q1 rfl ?_;have ha1:=HAT.o.below HQ1.o;have HA1:=hy' ha1;have c2:=ha1.cell 2 rfl;have c3:=ha1.cell 3 rfl;have f2:=ha1.frozen 2;have f3:=ha1.frozen 3;have cl:=ha1.lt;clear ha1;go_wp2_with fail;go_ret;have h1:=(HA1.o.set 2 (.string sd)).set 3 (.int .i64 0);rw[←HX2.o]at h1;refine⟨rfl,zA0 (zDh HQ1.o) (zA0 (Rw.grown_set _ _ _) (Rw.grown_set _ _ _)),?_⟩;rw[←HX2.o];exact h1
include his hH hg
set_option maxRecDepth 100000 in
set_option maxHeartbeats 4000000 in
theorem Sm.write_any (s:Sm.St) (l:List UInt8) (w:World) (hw:Below w0.heap.size w0 w) (hs:Sm.Ok (Sm.fl T) s) (hl:l.length≤1000000) (hat:Sm.At w g (.pointer (some ⟨pb,0,none⟩)) (.func (.func fid) #[] #[]) s) :
 Calls Tryz.prog 12 #[.pointer (some ⟨g,0,none⟩),.string ⟨l.toArray⟩] w fun e w'=>w.grownBy w' (some g) ∧
  (((Sm.feed (zKG T S) (Sm.fl T) s l).e≠0∧e=.returned (.tuple #[.string ⟨#[]⟩,.int .i64 (Sm.feed (zKG T S) (Sm.fl T) s l).e])∧Sm.At w' g (.pointer (some ⟨pb,0,none⟩)) (.func (.func fid) #[] #[]) (Sm.bad (Sm.feed (zKG T S) (Sm.fl T) s l).e)) ∨
   ((Sm.feed (zKG T S) (Sm.fl T) s l).e=0∧e=.returned (.tuple #[.string (zBc (F (Sm.out (Sm.feed (zKG T S) (Sm.fl T) s l)))),.int .i64 0])∧Sm.At w' g (.pointer (some ⟨pb,0,none⟩)) (.func (.func fid) #[] #[]) (Sm.rest (Sm.feed (zKG T S) (Sm.fl T) s l)))):=by
 have HBY:=hy' (fun s' β W hW hs' hA=>Sm.byte_any (.pointer (some ⟨pb,0,none⟩)) T S (.func (.func fid) #[] #[]) w0 g ok his hH hg s' β W hW hs' hA);have HTK:=hy' (fun s' k W hW hs' hk hA=>Sm.take_any pb T S fid F w0 g ok hen hF s' k W hW hs' hk hA);obtain⟨p,hp⟩:∃p,zKG T S=p:=⟨_,rfl⟩;obtain⟨fl,hfl⟩:∃f,Sm.fl T=f:=⟨_,rfl⟩;simp only[hp,hfl]at HBY HTK hs ⊢;obtain⟨n,hn⟩:∃n,l.length=n:=⟨_,rfl⟩;have hsn:(⟨l.toArray⟩:ByteArray).size=n:=hn;obtain⟨sl,hsl⟩:∃q:ByteArray,⟨l.toArray⟩=q:=⟨_,rfl⟩;have HEX:Hy (∀k β,l[k]?=some β→sl.extract k (k+1)=⟨#[β]⟩):=hy' fun k β h=>by rw[←hsl];exact Sm.get_ext l h
 rw[hsl]at hsn ⊢;subst hsn;have HN:=hy' hn;have HS:=hy' hs;have HAT:=hy' hat;have HW:=hy' hw;have HG:=hy' hg
 have hc6:w.cell? ⟨g,6,none⟩=some (.int .i64 0):=by
  have:=Rw.At.cell hat 6 rfl;rw[hs.e]at this;exact this
 have hgl:=Rw.At.lt hat;have hns:sl.size≤1000000:=by rw[←hn];exact hl
 clear ok his hH hg hen hF hw hs hat hp hfl hn hsl hl;go_enter Tryz.func12,Tryz.ntmps12;go_wp2_with fail;clear hc6 hgl;go_loopw [6,7,19] (fun _ _ i wr=>∃k:Nat,k≤sl.size∧i=.int .i64 k∧(Sm.feed p fl s (l.take k)).e=0∧Sm.At wr g (.pointer (some ⟨pb,0,none⟩)) (.func (.func fid) #[] #[]) (Sm.feed p fl s (l.take k))∧w.grownBy wr (some g)) (fun _ _ i _=>sl.size-(intOf i).toNat)
 case atStart=>exact⟨0,Nat.zero_le _,rfl,HS.o.e,HAT.o,World.grownBy.refl _ _⟩
 obtain⟨k,hk,rfl,he0,hA,hgr⟩:=hrel;obtain⟨r0,rfl⟩:∃q:World,q=wr:=⟨_,rfl⟩;have HA:=hy' hA;have HGR:=hy' hgr;have HBR:=hy' (Sm.bel HW.o HG.o hgr);have HOK:=hy' (Sm.Ok.feed (p:=p) (l.take k) HS.o he0);have HE0:=hy' he0;clear hA hgr he0
 by_cases hlt:k<sl.size
 rotate_left
 · obtain rfl:k=sl.size:=by omega
   have htk:l.take sl.size=l:=List.take_of_length_le (by rw[HN.o];exact Nat.le_refl _);obtain⟨s1,hs1⟩:∃q,Sm.feed p fl s l=q:=⟨_,rfl⟩;rw[htk,hs1]at HE0 HA HOK;have HS1:=hy' hs1;have c3:=Rw.At.cell HA.o 3 rfl;have cl:=Rw.At.lt HA.o;have kI:¬((sl.size:Int)<(sl.size:Int)):=by omega
   have htk2:=HTK.o s1 s1.k r0 HBR.o HOK.o HOK.o.k HA.o;have HT:=hy' htk2;clear htk hs1 htk2;go_wp2_with fail;refine HT.o.mono ?_;rintro e r1 ⟨rfl,hg1,hA1⟩;have HG1:=hy' (zA0 HGR.o hg1);have HA1:=hy' hA1;clear hg1 hA1 c3 cl;go_wp2_with fail;go_ret2;rw[HS1.o];refine⟨HG1.o,.inr ⟨HE0.o,rfl,?_⟩⟩;unfold Sm.rest;rw[HE0.o];exact HA1.o
 obtain⟨β,hβ⟩:∃β,l[k]?=some β:=⟨_,List.getElem?_eq_getElem (by rw[HN.o];exact hlt)⟩
 have hst:Sm.feed p fl s (l.take (k+1))=Sm.byte p fl (Sm.feed p fl s (l.take k)) β:=by
  rw[List.take_add_one,hβ,Option.toList_some,Sm.feed_snoc,if_pos HE0.o]
 have hex:=HEX.o k β hβ;have hby:=HBY.o _ β r0 HBR.o HOK.o HA.o;rw[←hst]at hby;have HBB:=hy' (fun h=>(Sm.byte_bad (p:=p) (fl:=fl) (s:=Sm.feed p fl s (l.take k)) (b:=β) h).1);have HLT:=hy' (show Sm.feed p fl s (l.take (k+1))=Sm.byte p fl (Sm.feed p fl s (l.take k)) β from hst)
 have HSTOP:Hy ((Sm.feed p fl s (l.take (k+1))).e≠0→Sm.feed p fl s l=Sm.feed p fl s (l.take (k+1))):=hy' fun h=>by
  conv=>lhs;rw[←List.take_append_drop (k+1) l,Sm.feed_app,Sm.feed_stop h]
 obtain⟨s1,hs1⟩:∃q,Sm.feed p fl s (l.take (k+1))=q:=⟨_,rfl⟩;have HS1:=hy' hs1;rw[hs1]at hby;have HBYX:=hy' hby;have HEX1:=hy' hex;have kI:(k:Int)<(sl.size:Int):=by omega
 have k0:(0:Int)≤k:=by omega
 have k1:(k:Int)+1≤(sl.size:Int):=by omega
 have k2:(k:Int)≤(k:Int)+1:=by omega
 clear hβ hst hex hby hs1;go_wp2_with fail;rw[HEX1.o];refine HBYX.o.mono ?_;rintro e r1 ⟨rfl,hg1,hA1,a1,a2,a3,a4,a5,hA2⟩;have HG1:=hy' (zA0 HGR.o hg1);have HA1:=hy' hA1;have HA2:=hy' hA2;clear hg1 hA1 hA2 k1 k2
 by_cases he:s1.e=0
 · have heb:(s1.e != 0)=false:=by simp[he]
   have HE:=hy' he;clear he;go_wp2_with fail;go_roundw
   case rel=>exact⟨k+1,by omega,by first|rfl|go_num,by rw[HS1.o];exact HE.o,by rw[HS1.o];exact HA1.o HE.o,HG1.o⟩
   simp[intOf];omega
 have heb:(s1.e != 0)=true:=by simpa using he
 have HE:=hy' he;clear he;go_wp2_with fail;refine (Sm.fail_any g pb fid s1.e a1 a2 a3 a4 a5 r1 HA2.o).mono ?_;rintro e r2 ⟨rfl,hg2,hA3⟩;have HG2:=hy' (zA0 HG1.o hg2);have HA3:=hy' hA3;clear hg2 hA3;go_wp2_with fail;go_ret2;have hfe:Sm.feed p fl s l=s1:=by rw[HSTOP.o (by rw[HS1.o];exact HE.o),HS1.o]
 rw[hfe];exact⟨HG2.o,.inl ⟨HE.o,rfl,HA3.o⟩⟩
end
end Go.Proofs.YthngjlllojiacaaGreatDoor
