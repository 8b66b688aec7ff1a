/- The layer quick: Settled, D, C, by walking their texts. -/
import Derived.Test.YtddbccflcekdpaaGreatDoorFiBits
import Derived.Test.YtddbccflcekdpaaGreatDoorQkPlain
import Derived.Test.YtddbccflcekdpaaGreatDoorCpRngs
import Derived.Test.YtddbccflcekdpaaGreatDoorSpSafe
import Derived.Test.YtddbccflcekdpaaGreatDoorOrIn
import Derived.Test.YtddbccflcekdpaaGreatDoorUtfE
import Derived.Test.YtddbccflcekdpaaGreatDoorStage
import Derived.Test.YtddbccflcekdpaaGreatDoorMdTable
import Derived.BigQuiet
namespace Go.Proofs.YtddbccflcekdpaaGreatDoor
open Go.RowKit
set_option linter.unusedSimpArgs false
set_option linter.unusedVariables false
set_option maxRecDepth 100000 in
theorem Qk.settled_any (v:Value) (T:List Rw.Row) (S:List Int) (c:Int) (w:World) (ok:Ud.Ok T S) (h:Ud.Is w v T S) (hc:C.isC c=true) :
 Calls Tryz.prog 25 #[v,.int .i32 c] w fun e w'=>e=.returned (.bool (Qk.set T S c))∧Below w.heap.size w w':=by
 obtain⟨w1,hw1⟩:∃w1,w.alloc (.cells #[.int .i32 c] 21)=w1:=⟨_,rfl⟩;have hb1:Below w.heap.size w w1:=by rw[←hw1];exact (Below.refl _ _).alloc (Nat.le_refl _) _
 have hsl:Sl w1 w1.heap.size (some ⟨w.heap.size,0,none⟩) (([c]:List Int).map (Value.int .i32)):=zCj rfl 21 (0,0) (by rw[←hw1];exact heap_alloc_new w _);have hCH:=Nc.Chars_any v T S (some ⟨w.heap.size,0,none⟩) 1 1 [c] w1 ok (h.below hb1) rfl (by omega) (fun x hx=>by rw[List.mem_singleton]at hx;rw[hx];exact hc) hsl;unfold Md.RetOwn at hCH
 have hnl:(Nc.chars T S [c]).length≤32:=by
  have h1:=Nc.chars_le ok [c];rw[Nf.fl_one]at h1;have:=zB5 ok c;omega
 have hq:Qk.set T S c=decide (Nc.chars T S [c]=[c]):=rfl;obtain⟨R,hR⟩:∃R,Nc.chars T S [c]=R:=⟨_,rfl⟩;obtain⟨n,hn⟩:∃n,R.length=n:=⟨_,rfl⟩;rw[hR]at hCH hnl hq;rw[hn]at hCH hnl;rw[hq];obtain⟨pb,rfl,hpb⟩:=h.form;have HW1:=hy' hw1;have HB1:=hy' hb1;have HCH:=hy' hCH;have HN:=hy' hn;clear hw1 hb1 hsl hCH hR hn hq h ok hc;go_enter Tryz.func25,Tryz.ntmps25;go_wp2_with (go_at_call 53;rw[HW1.o];refine HCH.o.mono ?_);rintro e w2 ⟨A,c2,rfl,ho,hb2⟩;have HB2:=hy' (HB1.o.trans (hb2.mono HB1.o.size));obtain⟨w3,hw3⟩:∃w3,w2.alloc (.cells #[.int .i32 c] 21)=w3:=⟨_,rfl⟩;have hb3:Below w2.heap.size w2 w3:=by rw[←hw3];exact (Below.refl _ _).alloc (Nat.le_refl _) _
 have hsl3:Sl w3 w3.heap.size (some ⟨w2.heap.size,0,none⟩) (([c]:List Int).map (Value.int .i32)):=zCj rfl 21 (0,0) (by rw[←hw3];exact heap_alloc_new w2 _);have hE:=zRU A (some ⟨w2.heap.size,0,none⟩) c2 1 n 1 w3.heap.size R [c] w3 HN.o rfl (by omega) (by omega) (Nat.le_refl _) ((Sl.of_own ho).below hb3 hb3.size) hsl3;have HW3:=hy' hw3;have HB3:=hy' (HB2.o.trans (hb3.mono HB2.o.size));have HE:=hy' hE;clear ho hb2 hw3 hb3 hsl3 hE HCH HW1;go_wp2_with (go_at_call 52;rw[HW3.o];refine HE.o.mono ?_);rintro e w4 ⟨rfl,hb4⟩;have HB4:=hy' (HB3.o.trans (hb4.mono HB3.o.size));clear hb4;go_wp2_with fail;go_ret;exact⟨rfl,HB4.o⟩
set_option maxRecDepth 100000 in
theorem Qk.d1_any (v:Value) (T:List Rw.Row) (S:List Int) (g:Nat) (c:Int) (w:World) (ok:Ud.Ok T S) (h:Ud.Is w v T S) (hc:C.isC c=true) (hg:w.cell? ⟨g,0,none⟩=some v) (hl:g<w.heap.size) :
 Calls Tryz.prog 48 #[.int .i32 c,.pointer (some ⟨g,0,none⟩)] w fun e w'=>e=.returned (.int .i64 (Qk.oneD T c))∧Below w.heap.size w w':=by
 have hcb:=Nf.isC_i32 hc;have hP:=Ud.plain_any v T S c w ok h hcb.1 hcb.2;obtain⟨q,hq⟩:∃q,decide (Md.mp T c=[])=q:=⟨_,rfl⟩;have hd:Qk.oneD T c=if q=true then 2 else 0:=by unfold Qk.oneD;rw[←hq];simp only[decide_eq_true_eq]
 rw[hq]at hP;rw[hd];obtain⟨pb,rfl,hpb⟩:=h.form;clear h ok hc hq hd hcb;go_enter Tryz.func48,Tryz.ntmps48;go_wp2_with fail;refine hP.mono ?_;rintro e w1 ⟨rfl,hb⟩;have HB:=hy' hb;clear hb hP hg hl;cases q
 · go_wp2_with fail;go_ret;exact⟨rfl,HB.o⟩
 go_wp2_with fail;go_ret;exact⟨rfl,HB.o⟩
set_option maxRecDepth 100000 in
theorem Qk.c1_any (v:Value) (T:List Rw.Row) (S:List Int) (g:Nat) (c:Int) (w:World) (ok:Ud.Ok T S) (h:Ud.Is w v T S) (hc:C.isC c=true) (hg:w.cell? ⟨g,0,none⟩=some v) (hl:g<w.heap.size) :
 Calls Tryz.prog 49 #[.int .i32 c,.pointer (some ⟨g,0,none⟩)] w fun e w'=>e=.returned (.int .i64 (Qk.one T S c))∧Below w.heap.size w w':=by
 have hcb:=Nf.isC_i32 hc;have hST:=Qk.settled_any v T S c w ok h hc;obtain⟨M,hM⟩:=zDA ok c;have hbd:=Sp.head_bd ok hc;obtain⟨x,hx⟩:∃x,Sp.head T c=x:=⟨_,rfl⟩;obtain⟨pb,rfl,hpb⟩:=h.form
 have hFU:Hy (∀W,Below w.heap.size w W→Calls Tryz.prog 50 #[.pointer (some ⟨pb,0,none⟩),.int .i32 c] W fun e w'=>∃A cc,e=.returned (.slice A (x::M).length cc)∧(∃b o,A=some ⟨b,o,none⟩∧b<w'.heap.size∧w'.cell? ⟨b,o,none⟩=some (.int .i32 x))∧Below W.heap.size W w'):=hy' fun W hW=>by
  have:=Ud.full_any _ T S c W ok (h.below hW) hcb.1 hcb.2;rw[hM,hx]at this;refine this.mono ?_;rintro e w' ⟨A,cc,rfl,hs,hb⟩;obtain⟨b,o,rfl,hg,hcs⟩:=hs (by rw[List.length_map,List.length_cons];omega);have hc0:=hcs 0 (by rw[List.length_map,List.length_cons];omega);rw[Nat.add_zero]at hc0;exact⟨_,cc,rfl,⟨b,o,rfl,hg,hc0⟩,hb⟩
 have hSE:Hy (∀W,Below w.heap.size w W→Calls Tryz.prog 27 #[.pointer (some ⟨pb,0,none⟩),.int .i32 x] W fun e w'=>e=.returned (.bool (Nc.sec T S x))∧Below W.heap.size W w'):=hy' fun W hW=>by
  rw[hx]at hbd;exact Ud.second_any _ T S x W ok (h.below hW) hbd.1 hbd.2
 unfold Qk.one;rw[hx];obtain⟨q,hq⟩:∃q,Qk.set T S c=q:=⟨_,rfl⟩;obtain⟨z,hz⟩:∃z,Nc.sec T S x=z:=⟨_,rfl⟩;rw[hq]at hST ⊢;rw[hz]at hSE ⊢;have HG:Hy (∀W,Below w.heap.size w W→∀x:Stg.Later Stg.Ex W,x.val.cell? ⟨g,0,none⟩=some (.pointer (some ⟨pb,0,none⟩))):=hy' fun W hW=>Stg.cells (((zAI hW).1 _ _ hl).trans hg) (Nat.lt_of_lt_of_le hl hW.size)
 have HGC:=hy' hg;have HGL:=hy' hl;have hln:(0:Int)<((x::M).length:Nat):=by rw[List.length_cons];omega
 have hln':0<(x::M).length:=by rw[List.length_cons];omega
 obtain⟨ml,hml⟩:∃m,(x::M).length=m:=⟨_,rfl⟩;rw[hml]at hFU hln hln';have HLN:=hy' (And.intro hln hln');clear h ok hc hq hz hM hx hbd hcb hln hln' hml;go_enter Tryz.func49,Tryz.ntmps49;go_wp2_with fail;refine hST.mono ?_;rintro e w1 ⟨rfl,hb⟩;have HB:=hy' hb;clear hb hST hg hl;cases q
 · go_wp2_with fail;go_ret;exact⟨rfl,HB.o⟩
 go_upto_region 3 with (fail)
 have HUP:=hy' (fun W (hW:Below w1.heap.size w1 W)=>HB.o.trans (hW.mono HB.o.size));have HG1:Hy (∀W,Below w1.heap.size w1 W→∀x:Stg.Later Stg.Ex W,x.val.cell? ⟨g,0,none⟩=some (.pointer (some ⟨pb,0,none⟩))):=hy' fun W hW=>HG.o W (HUP.o W hW)
 have HQ0:=hy' (Below.refl w1.heap.size w1).drew;obtain⟨hln,hln'⟩:=HLN.o;refine Stg.wp_region (by kernel_rfl) Stg.Ex Stg.Ex.rel ?_;obtain f0:=HG1.o w1.drew HQ0.o
 (iterate 2 (refine Stg.read 0 (by kernel_rfl) w1.drew rfl ?_;intro K hK;go_big_quiet_op;go_big_quiet_on))
 refine Stg.readW (by kernel_rfl) ?_;intro K hK;go_big_quiet_op;go_big_quiet_on;refine Stg.call 50 _ _ rfl Tryz.func50 [.pointer (some ⟨pb,0,none⟩),.int .i32 c] rfl w1.drew _ (hFU.o w1.drew (HUP.o w1.drew HQ0.o)) (by kernel_rfl) rfl ?_;rintro e q1 ⟨A,cc,rfl,⟨b9,o9,rfl,hbl,hcl⟩,hb⟩;refine⟨_,rfl,hb,?_⟩;have HQ1:=hy' (HQ0.o.trans (hb.mono HQ0.o.size));have f9:=Stg.cells hcl hbl;clear hb;intro A' hA';simp only[Act.put,List.setIfInBounds_toArray,List.set_cons_succ,List.set_cons_zero]at hA';subst hA'
 refine Stg.readW (by kernel_rfl) ?_;intro K hK;go_big_quiet_op;go_big_quiet_on;clear f0;obtain f0:=HG1.o q1 HQ1.o;refine Stg.read 0 (by kernel_rfl) q1 rfl ?_;intro K hK;go_big_quiet_op;go_big_quiet_on;refine Stg.call 27 _ _ rfl Tryz.func27 [.pointer (some ⟨pb,0,none⟩),.int .i32 x] rfl q1 _ (hSE.o q1 (HUP.o q1 HQ1.o)) (by kernel_rfl) rfl ?_;rintro e q2 ⟨rfl,hb⟩;refine⟨_,rfl,hb,?_⟩;have HQ2:=hy' (HQ1.o.trans (hb.mono HQ1.o.size));clear hb;intro A' hA';simp only[Act.put,List.setIfInBounds_toArray,List.set_cons_succ,List.set_cons_zero]at hA';subst hA'
 refine Stg.readW (by kernel_rfl) ?_;intro K hK;go_big_quiet_op;go_big_quiet_on;clear f0;refine Stg.nil q2 rfl ?_;cases z
 · go_wp2_with fail;go_ret;exact⟨rfl,HUP.o _ HQ2.o⟩
 go_wp2_with fail;go_ret;exact⟨rfl,HUP.o _ HQ2.o⟩
section
variable (v:Value) (T:List Rw.Row) (S:List Int) (f:FuncId) (cap:Array Value) (fn:Int→Int) (w:World) (ok:Ud.Ok T S) (h:Ud.Is w v T S) (hH:Heads w)
include ok h hH
set_option maxRecDepth 100000 in
set_option maxHeartbeats 1000000 in
theorem Qk.all_any (s:ByteArray) (z:List Int) (r:List UInt8) (hs:s.size≤1000000000) (hd:zH6 s.data.toList z r) (hzl:z.length≤1000000)
 (hen:∀(args:Array Value) (w:World),(callFunc f args).run Tryz.prog w=.ok (.enter f args) w) (hfn:∀c,0≤fn c∧fn c≤2)
 (hf:∀(c:Int) (W:World),Below w.heap.size w W→C.isC c=true→Calls Tryz.prog f (#[.int .i32 c]++cap) W fun e w'=>e=.returned (.int .i64 (fn c))∧Below W.heap.size W w') :
 Calls Tryz.prog 47 #[v,.string s,.func (.func f) #[] cap] w fun e w'=>e=.returned (.tuple #[.int .i64 (if r=[] then Qk.ans (Md.cls T) fn z else 0),.int .i64 (zOF r)])∧Below w.heap.size w w':=by
 have hDE:=zHI s w (by omega) hH z r hd;unfold RetOwn2 at hDE;have HZC:Hy (∀c∈z,C.isC c=true):=hy' fun c hc=>hd.2.1 c hc
 have HIN:Hy (∀A n c W,Below w.heap.size w W→z.length=n→Sl W W.heap.size A (z.map (Value.int .i32))→Calls Tryz.prog 78 #[v,.slice A n c] W fun e w'=>e=.returned (.bool (Or.inB (Md.cls T) 0 z))∧Below W.heap.size W w'):=hy' fun A n c W hW hn hA =>
  Or.in_any v T S A n c z W ok (h.below hW) hn (by omega) hA
 obtain⟨pb,rfl,hpb⟩:=h.form;have HEN:=hy' hen;have HF:=hy' hf;have HFN:=hy' hfn;cases r with
 | cons a r =>
   rw[zJ5,if_neg (by simp),zFZ]at *;clear hd hH hs h ok hen hf hfn hzl;go_enter Tryz.func47,Tryz.ntmps47;go_wp2_with fail;refine hDE.mono ?_;rintro e w1 ⟨A,c,rfl,ho,hb⟩;have HB:=hy' hb;clear hb ho hDE;go_wp2_with fail;go_ret2;exact⟨rfl,HB.o⟩
 | nil =>
   rw[if_pos rfl];rw[show zOF []=0 from rfl,show zHH z []=z from rfl]at hDE;rw[show zOF []=0 from rfl];obtain⟨n,hn⟩:∃n,z.length=n:=⟨_,rfl⟩;rw[hn]at hDE hzl;unfold Qk.ans;obtain⟨b,hb⟩:∃b,Or.inB (Md.cls T) 0 z=b:=⟨_,rfl⟩;rw[hb]at HIN ⊢;have HN:=hy' hn;clear hd hH hs h ok hen hf hfn hn hb;go_enter Tryz.func47,Tryz.ntmps47;go_wp2_with fail;refine hDE.mono ?_;rintro e w1 ⟨A,c,rfl,ho,hb⟩;have HB1:=hy' hb;have HA1:=hy' (Sl.of_own ho);clear hb ho hDE;go_wp2_with fail;refine (HIN.o A n c w1 HB1.o HN.o HA1.o).mono ?_;rintro e w2 ⟨rfl,hb⟩;have HB2:=hy' (HB1.o.trans (hb.mono HB1.o.size));have HA2:=hy' (HA1.o.below hb hb.size);clear hb;cases b
   · go_wp2_with fail;go_ret2;exact⟨rfl,HB2.o⟩
   go_wp2_with fail;go_loopw [10,12,27] (fun t _ i wr=>∃k:Nat,k≤n∧i=.int .i64 k∧t=.int .i64 (Qk.foldG fn (z.take k))∧Below w2.heap.size w2 wr) (fun _ _ i _=>n-(intOf i).toNat)
   case atStart=>exact⟨0,Nat.zero_le _,rfl,rfl,Below.refl _ _⟩
   obtain⟨k,hk,rfl,rfl,hbel⟩:=hrel;have HBR:=hy' hbel
   by_cases hlt:k<n
   rotate_left
   · obtain rfl:k=n:=by omega
     have kI:¬(k:Int)<k:=by omega
     have htk:z.take k=z:=List.take_of_length_le (by rw[HN.o];exact Nat.le_refl _);rw[htk];have HBF:=hy' (HB2.o.trans (hbel.mono HB2.o.size));clear htk hbel;go_wp2_with fail;go_ret2;exact⟨rfl,HBF.o⟩
   obtain⟨x,hx⟩:∃x,z[k]?=some x:=⟨_,List.getElem?_eq_getElem (by rw[HN.o];exact hlt)⟩;obtain⟨ab,ao,rfl,hab,hac⟩:=HA2.o (by rw[List.length_map,HN.o];omega);have hc:=hac k (by rw[List.length_map,HN.o];exact hlt);rw[List.getElem?_map,hx,Option.map_some,←(zAI hbel).1 _ _ hab]at hc;have hab2:=Nat.lt_of_lt_of_le hab hbel.size;have hcx:=HZC.o x (List.mem_of_getElem? hx);obtain⟨t,ht⟩:∃t,Qk.foldG fn (z.take k)=t:=⟨_,rfl⟩
   have hst:Qk.foldG fn (z.take (k+1))=min t (fn x):=by
    rw[←ht];unfold Qk.foldG;rw[List.take_add_one,hx,List.foldl_append];rfl
   have hbd:=Qk.foldG_bd HFN.o (z.take k) 2 (by omega) (by omega);rw[show (z.take k).foldl (fun a c=>min a (fn c)) 2=t from ht]at hbd;have hfx:=HFN.o x;obtain⟨q,hq⟩:∃q,fn x=q:=⟨_,rfl⟩;have hcall:=HF.o x wr (HB2.o.trans (hbel.mono HB2.o.size)) hcx;rw[hq]at hcall hst hfx;obtain⟨m,hm⟩:∃m,min t q=m:=⟨_,rfl⟩;rw[hm]at hst;rw[ht];have HST:=hy' hst;have HCA:=hy' hcall;have kI:(k:Int)<n:=by omega
   have k0:(0:Int)≤k:=by omega
   have HM:=hy' hm;clear hx hac hst ht hcall hq hcx hm hbel;go_wp2_with fail;rw[HEN.o,Oper.upon_enter];refine HCA.o.mono ?_;rintro e w3 ⟨rfl,hb3⟩;have HB3:=hy' (HBR.o.trans (hb3.mono HBR.o.size));have hm:=HM.o;clear hb3 hc hab2;go_wp2_with fail;exact⟨⟨k+1,by omega,by first|rfl|go_num,by rw[HST.o],HB3.o⟩,by simp[intOf];omega⟩
set_option maxRecDepth 100000 in
theorem Qk.D_any (s:ByteArray) (z:List Int) (r:List UInt8) (hs:s.size≤1000000000) (hd:zH6 s.data.toList z r) (hzl:z.length≤1000000) :
 Calls Tryz.prog 22 #[v,.string s] w fun e w'=>e=.returned (.tuple #[.int .i64 (if r=[] then Qk.D T z else 0),.int .i64 (zOF r)])∧Below w.heap.size w w':=by
 obtain⟨w1,hw1⟩:∃w1,w.alloc (.cells #[v] 28)=w1:=⟨_,rfl⟩;have hb1:Below w.heap.size w w1:=by rw[←hw1];exact (Below.refl _ _).alloc (Nat.le_refl _) _
 have hblk:w1.heap[w.heap.size]?=some (.cells #[v] 28 (0,0)):=by rw[←hw1];exact heap_alloc_new w _
 have hcell:=(zIe hblk 0).1;simp only[List.getElem?_toArray,List.getElem?_cons_zero]at hcell;have hlt:w.heap.size<w1.heap.size:=by rw[←hw1,World.size_alloc];omega
 have hCA:=Qk.all_any v T S 48 #[.pointer (some ⟨w.heap.size,0,none⟩)] (Qk.oneD T) w1 ok (h.below hb1) (hH.next hb1) s z r hs hd hzl (fun args w=>C.enter Tryz.func48 (by kernel_rfl) rfl args w) (fun c=>Qk.oneD_bd c)
  (fun c W hW hc=>Qk.d1_any v T S w.heap.size c W ok ((h.below hb1).below hW) hc (((zAI hW).1 _ _ hlt).trans hcell) (Nat.lt_of_lt_of_le hlt hW.size))
 rw[show Qk.ans (Md.cls T) (Qk.oneD T) z=Qk.D T z from rfl]at hCA;obtain⟨q,hq⟩:∃q,(if r=[] then Qk.D T z else 0)=q:=⟨_,rfl⟩;rw[hq]at hCA ⊢;have HW1:=hy' hw1;have HB1:=hy' hb1;have HCA:=hy' hCA;obtain⟨pb,rfl,hpb⟩:=h.form;clear hw1 hb1 hCA hblk hq hd hs h hH ok hzl;go_enter Tryz.func22,Tryz.ntmps22;go_upto_region 1 with (fail)
 rw[HW1.o];go_wp2_with fail;refine HCA.o.mono ?_;rintro e w2 ⟨rfl,hb2⟩;have HB2:=hy' (HB1.o.trans (hb2.mono HB1.o.size));clear hb2;go_wp2_with fail;go_ret2;exact⟨rfl,HB2.o⟩
set_option maxRecDepth 100000 in
theorem Qk.C_any (s:ByteArray) (z:List Int) (r:List UInt8) (hs:s.size≤1000000000) (hd:zH6 s.data.toList z r) (hzl:z.length≤1000000) :
 Calls Tryz.prog 23 #[v,.string s] w fun e w'=>e=.returned (.tuple #[.int .i64 (if r=[] then zMx T S z else 0),.int .i64 (zOF r)])∧Below w.heap.size w w':=by
 obtain⟨w1,hw1⟩:∃w1,w.alloc (.cells #[v] 28)=w1:=⟨_,rfl⟩;have hb1:Below w.heap.size w w1:=by rw[←hw1];exact (Below.refl _ _).alloc (Nat.le_refl _) _
 have hblk:w1.heap[w.heap.size]?=some (.cells #[v] 28 (0,0)):=by rw[←hw1];exact heap_alloc_new w _
 have hcell:=(zIe hblk 0).1;simp only[List.getElem?_toArray,List.getElem?_cons_zero]at hcell;have hlt:w.heap.size<w1.heap.size:=by rw[←hw1,World.size_alloc];omega
 have hCA:=Qk.all_any v T S 49 #[.pointer (some ⟨w.heap.size,0,none⟩)] (Qk.one T S) w1 ok (h.below hb1) (hH.next hb1) s z r hs hd hzl (fun args w=>C.enter Tryz.func49 (by kernel_rfl) rfl args w) (fun c=>zGA c)
  (fun c W hW hc=>Qk.c1_any v T S w.heap.size c W ok ((h.below hb1).below hW) hc (((zAI hW).1 _ _ hlt).trans hcell) (Nat.lt_of_lt_of_le hlt hW.size))
 rw[show Qk.ans (Md.cls T) (Qk.one T S) z=zMx T S z from rfl]at hCA;obtain⟨q,hq⟩:∃q,(if r=[] then zMx T S z else 0)=q:=⟨_,rfl⟩;rw[hq]at hCA ⊢;have HW1:=hy' hw1;have HB1:=hy' hb1;have HCA:=hy' hCA;obtain⟨pb,rfl,hpb⟩:=h.form;clear hw1 hb1 hCA hblk hq hd hs h hH ok hzl;go_enter Tryz.func23,Tryz.ntmps23;go_upto_region 1 with (fail)
 rw[HW1.o];go_wp2_with fail;refine HCA.o.mono ?_;rintro e w2 ⟨rfl,hb2⟩;have HB2:=hy' (HB1.o.trans (hb2.mono HB1.o.size));clear hb2;go_wp2_with fail;go_ret2;exact⟨rfl,HB2.o⟩
theorem Qk.D_chars (z:List Int) (hz:∀c∈z,C.isC c=true) (hzl:z.length≤1000000) :
 Calls Tryz.prog 22 #[v,.string (zA6 z)] w fun e w'=>e=.returned (.tuple #[.int .i64 (Qk.D T z),.int .i64 0])∧Below w.heap.size w w':=by
 have:=Qk.D_any v T S w ok h hH (zA6 z) z [] (by have:=zCp hz;omega) (zCo hz) hzl;rw[if_pos rfl]at this;exact this
theorem Qk.C_chars (z:List Int) (hz:∀c∈z,C.isC c=true) (hzl:z.length≤1000000) :
 Calls Tryz.prog 23 #[v,.string (zA6 z)] w fun e w'=>e=.returned (.tuple #[.int .i64 (zMx T S z),.int .i64 0])∧Below w.heap.size w w':=by
 have:=Qk.C_any v T S w ok h hH (zA6 z) z [] (by have:=zCp hz;omega) (zCo hz) hzl;rw[if_pos rfl]at this;exact this
end
end Go.Proofs.YtddbccflcekdpaaGreatDoor
