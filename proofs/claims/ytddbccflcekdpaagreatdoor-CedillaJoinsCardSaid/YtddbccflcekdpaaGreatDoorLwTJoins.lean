/- The law CedillaJoins, by walking its text. -/
import Derived.Test.YtddbccflcekdpaaGreatDoorFiBits
import Derived.Test.YtddbccflcekdpaaGreatDoorNfLaid
import Derived.Test.YtddbccflcekdpaaGreatDoorSlCut
import Derived.Test.YtddbccflcekdpaaGreatDoorStage
import Derived.BigQuiet
namespace Go.Proofs.YtddbccflcekdpaaGreatDoor
open Go.RowKit
set_option linter.unusedSimpArgs false
set_option linter.unusedVariables false
theorem U.encS_cat {x y:List Int} (hx:∀c∈x,C.isC c=true) (hy:∀c∈y,C.isC c=true):zA6 x++zA6 y=zA6 (x++y):=by
 rw[zCe hx,zCe hy,zCe (fun c hc=>(List.mem_append.1 hc).elim (hx c) (hy c)),zAV];apply ByteArray.ext
 simp
set_option maxRecDepth 100000 in
set_option maxHeartbeats 4000000 in
theorem Tp.cedillaJoins_any (w:World) (A XA PA MA:Option Addr) (n c xn xc pn pc mn mc:Nat) (T0:List Rw.Row) (E0 P M:List Int) (hT:Tx.In A XA PA MA n c xn xc pn pc mn mc T0 E0 P M w) (at':Int) (ha1 : -9223372036854775808≤at') (ha2:at'≤9223372036854775807) (hL:Nf.Laid w) :
 Calls Tryz.prog 7 #[.agg #[.slice A n c,.slice XA xn xc,.slice PA pn pc,.slice MA mn mc],.int .i64 at'] w fun e w'=>e=.returned (.bool true)∧Below w.heap.size w w':=by
 have HMADE:=hy' (fun W (hW:Below w.heap.size w W)=>zHl A XA PA MA n c xn xc pn pc mn mc T0 E0 P M 20 W (by decide) (hT.below hW) (Rw.Laid.next hL.1 hW));obtain⟨wa,hwa⟩:∃wa,w.alloc (.cells #[.slice A n c,.slice XA xn xc,.slice PA pn pc,.slice MA mn mc] 27)=wa:=⟨_,rfl⟩;have hba:Below w.heap.size w wa:=by rw[←hwa];exact (Below.refl _ _).alloc (Nat.le_refl _) _
 have hat:Rw.At wa w.heap.size 27 [.slice A n c,.slice XA xn xc,.slice PA pn pc,.slice MA mn mc]:=by rw[←hwa];exact Rw.At.new w 27 [.slice A n c,.slice XA xn xc,.slice PA pn pc,.slice MA mn mc]
 have HWA:=hy' hwa;have HBA:=hy' hba;have HAT:=hy' hat;have HH:=hy' hL.2;clear hwa hba hat hT hL;go_enter Tryz.func7,Tryz.ntmps7;go_upto_region 1 with (fail)
 rw[HWA.o];obtain⟨w1,hw1⟩:∃w1,wa=w1:=⟨_,rfl⟩;have hat1:=HAT.o;rw[hw1]at hat1;have HB1:=hy' (show Below w.heap.size w w1 by rw[←hw1];exact HBA.o);rw[hw1];have x0:=hat1.cell 0 rfl;have x1:=hat1.cell 1 rfl;have x2:=hat1.cell 2 rfl;have x3:=hat1.cell 3 rfl;have xl:=hat1.lt;clear hw1 hat1;go_wp2_with fail;refine (HMADE.o w1 HB1.o).mono ?_;rintro e w2 ⟨p,v2,T,E,S,l,Al,cl,rfl,his,hdo,hR,hown,hlc,hll,hap,hb2⟩;obtain⟨pb,rfl,hpbl⟩:=his.form;obtain⟨A2,c2,XA2,xc2,rfl,hdo2⟩:=id hdo;obtain⟨n2,hn2⟩:∃k,T.length=k:=⟨_,rfl⟩;obtain⟨xn2,hxn2⟩:∃k,E.length=k:=⟨_,rfl⟩;obtain⟨ln,hln⟩:∃k,l.length=k:=⟨_,rfl⟩;unfold zBs at hdo hap ⊢;rw[hn2,hxn2]at hdo ⊢;simp only[hn2,hxn2]at hap;rw[hln]at hown hll hap ⊢;obtain⟨w3,hw3⟩:∃w3,w2.alloc (.cells #[.slice A2 n2 c2,.slice XA2 xn2 xc2] 25)=w3:=⟨_,rfl⟩;have hb3:Below w2.heap.size w2 w3:=by rw[←hw3];exact (Below.refl _ _).alloc (Nat.le_refl _) _
 have hat3:Rw.At w3 w2.heap.size 25 [.slice A2 n2 c2,.slice XA2 xn2 xc2]:=by rw[←hw3];exact Rw.At.new w2 25 [.slice A2 n2 c2,.slice XA2 xn2 xc2]
 have HW3:=hy' hw3;have HB3:=hy' (HB1.o.trans ((hb2.trans (hb3.mono hb2.size)).mono HB1.o.size));have HT3:=hy' hat3;have HI3:=hy' (his.below hb3);have HD3:=hy' (hdo.below hb3);have HL3:=hy' (zA4 hown hb3 (Nat.le_refl _));have HR:=hy' hR;have HLC:=hy' hlc;have HLN:=hy' hln;have HN2:=hy' hn2;have HAP:Hy (∀w'',w3.grownBy w'' (Value.slice Al ln cl).ownBlock→Ud.Is w'' (.pointer (some ⟨pb,0,none⟩)) T S∧Md.Doc w'' (.agg #[.slice A2 n2 c2,.slice XA2 xn2 xc2]) T E):=hy' fun w'' hg=>hap w'' (zA0 (by rw[←hw3];exact World.grownBy_alloc _ _ _) hg)
 have HLB:=hy' (fun x (hx:x∈l)=>Tx.isC_i32 (hlc x hx));have z0:=hat3.cell 0 rfl;have z1:=hat3.cell 1 rfl;have zl:=hat3.lt;clear x0 x1 x2 x3 xl hap hdo hdo2 his hR hown hlc hln hn2 hxn2 hw3 hb3 hat3 hb2 HMADE HWA HBA HAT;go_upto_region 2 with (fail)
 rw[HW3.o];have hok:=HR.o.ok;have HL33:=hy' (Sl.of_own HL3.o);have HH3:=hy' (HH.o.next HB3.o);have HQ0:=hy' (Below.refl w3.heap.size w3)
 have HEN:Hy (∀(A':Option Addr) (m c':Nat) (z:List Int) (sq:ByteArray) (W:World),z.length=m→m≤2000→(∀c∈z,C.isC c=true)→zA6 z=sq→Sl W W.heap.size A' (z.map (Value.int .i64))→Calls Tryz.prog 13 #[.slice A' m c'] W fun e w'=>e=.returned (.string sq)∧Below W.heap.size W w'):=hy' fun A' m c' z sq W hz hm hzl hs hA=>by
  have:=zG1 A' m c' z W hz (by omega) hA hzl;rw[hs]at this;exact this
 have HOD:Hy (∀(z:List Int) (s r:ByteArray) (W:World),Below w3.heap.size w3 W→(∀c∈z,C.isC c=true)→(Nf.fl T z).length≤1024→zA6 z=s→zA6 (Nf.chars T z)=r→Calls Tryz.prog 14 #[.pointer (some ⟨pb,0,none⟩),.string s] W fun e w'=>e=.returned (.tuple #[.string r,.int .i64 0])∧Below W.heap.size W w'):=hy' fun z s r W hW hz hf hs hr=>by
  have:=Nf.of_chars _ T S z W hok (HI3.o.below hW) (HH3.o.next hW) hz (by have:=zBE hok z;omega) hf;rw[hs,hr]at this;exact this
 have HOC:Hy (∀(z:List Int) (s r:ByteArray) (W:World),Below w3.heap.size w3 W→(∀c∈z,C.isC c=true)→(Nf.fl T z).length≤1024→zA6 z=s→zA6 (Nc.chars T S z)=r→Calls Tryz.prog 31 #[.pointer (some ⟨pb,0,none⟩),.string s] W fun e w'=>e=.returned (.tuple #[.string r,.int .i64 0])∧Below W.heap.size W w'):=hy' fun z s r W hW hz hf hs hr=>by
  have:=Nc.of_chars _ T S z W hok (HI3.o.below hW) (HH3.o.next hW) hz (by have:=zBE hok z;omega) hf;rw[hs,hr]at this;exact this
 have hA:(Al=none∧ln=0∧cl=0)∨∃gb,Al=some ⟨gb,0,none⟩∧ln≤cl:=by
  rcases HL3.o.2 with ⟨hv,h0⟩|⟨g',cap',cur,hv,hg,hb,h1,h2,h3,h4⟩
  · cases hv;exact .inl ⟨rfl,rfl,rfl⟩
  cases hv;exact .inr ⟨g',rfl,by omega⟩
 obtain⟨k,hk,hkk⟩:∃k:Nat,k≤ln∧max 0 (min (bits .and .i64 at' 31) (ln:Int))=k:=⟨(max 0 (min (bits .and .i64 at' 31) (ln:Int))).toNat,by omega,by omega⟩;obtain⟨ka,hka⟩:∃z,l.take k=z:=⟨_,rfl⟩;obtain⟨kb,hkb⟩:∃z,l.drop k=z:=⟨_,rfl⟩;have hab:ka++kb=l:=by rw[←hka,←hkb,List.take_append_drop]
 have hkal:ka.length=k:=by rw[←hka,List.length_take,HLN.o];omega
 have hkbl:kb.length=ln-k:=by rw[←hkb,List.length_drop,HLN.o]
 have hkam:∀x∈ka,C.isC x=true:=fun x hx=>HLC.o x (List.mem_of_mem_take (hka▸hx))
 have hkbm:∀x∈kb,C.isC x=true:=fun x hx=>HLC.o x (List.mem_of_mem_drop (hkb▸hx))
 have hfl:(Nf.fl T l).length≤1024:=zFs hok (by rw[HLN.o];omega);have hfa:(Nf.fl T ka).length≤1024:=zFs hok (by omega);have hfb:(Nf.fl T kb).length≤1024:=zFs hok (by omega);have hsum:(Nf.fl T l).length=(Nf.fl T ka).length+(Nf.fl T kb).length:=by rw[←hab,Nf.fl_app,List.length_append]
 obtain⟨P,hP⟩:∃q,Nc.chars T S ka=q:=⟨_,rfl⟩;obtain⟨Q,hQ⟩:∃q,Nc.chars T S kb=q:=⟨_,rfl⟩;obtain⟨Ua,hU⟩:∃q,Nf.chars T ka=q:=⟨_,rfl⟩;obtain⟨Vb,hV⟩:∃q,Nf.chars T kb=q:=⟨_,rfl⟩;have hPc:∀c∈P,C.isC c=true:=by rw[←hP];exact Nc.chars_isC hok hkam
 have hQc:∀c∈Q,C.isC c=true:=by rw[←hQ];exact Nc.chars_isC hok hkbm
 have hUc:∀c∈Ua,C.isC c=true:=by rw[←hU];exact Nf.chars_isC hok hkam
 have hVc:∀c∈Vb,C.isC c=true:=by rw[←hV];exact Nf.chars_isC hok hkbm
 have hPU:Nf.chars T P=Ua:=by rw[←hP,←hU];exact zJb hok ka
 have hQV:Nf.chars T Q=Vb:=by rw[←hQ,←hV];exact zJb hok kb
 have hUU:Nf.chars T Ua=Ua:=by rw[←hU];exact Nf.chars_chars hok ka
 have hVV:Nf.chars T Vb=Vb:=by rw[←hV];exact Nf.chars_chars hok kb
 have hPQd:Nf.chars T (P++Q)=Nf.chars T l:=by
  rw[←hab];exact zCF (by rw[hPU,hU]) (by rw[hQV,hV])
 have hUVd:Nf.chars T (Ua++Vb)=Nf.chars T l:=by
  rw[←hab];exact zCF (by rw[hUU,hU]) (by rw[hVV,hV])
 have hPQ:Nc.chars T S (P++Q)=Nc.chars T S l:=zEq hPQd;have hfPQ:(Nf.fl T (P++Q)).length≤1024:=by rw[←Nf.chars_len,hPQd,Nf.chars_len];exact hfl
 have hfUV:(Nf.fl T (Ua++Vb)).length≤1024:=by rw[←Nf.chars_len,hUVd,Nf.chars_len];exact hfl
 have hPQc:∀c∈P++Q,C.isC c=true:=fun c hc=>(List.mem_append.1 hc).elim (hPc c) (hQc c)
 have hUVc:∀c∈Ua++Vb,C.isC c=true:=fun c hc=>(List.mem_append.1 hc).elim (hUc c) (hVc c)
 obtain⟨sa,hsa⟩:∃q,zA6 ka=q:=⟨_,rfl⟩;obtain⟨sb,hsb⟩:∃q,zA6 kb=q:=⟨_,rfl⟩;obtain⟨sp,hsp⟩:∃q,zA6 P=q:=⟨_,rfl⟩;obtain⟨sq,hsq⟩:∃q,zA6 Q=q:=⟨_,rfl⟩;obtain⟨su,hsu⟩:∃q,zA6 Ua=q:=⟨_,rfl⟩;obtain⟨sv,hsv⟩:∃q,zA6 Vb=q:=⟨_,rfl⟩;obtain⟨sr,hsr⟩:∃q,zA6 (Nc.chars T S l)=q:=⟨_,rfl⟩;obtain⟨sd,hsd⟩:∃q,zA6 (Nf.chars T l)=q:=⟨_,rfl⟩;have hcab:zA6 l=sa++sb:=by rw[←hsa,←hsb,U.encS_cat hkam hkbm,hab]
 have hcpq:zA6 (P++Q)=sp++sq:=by rw[←hsp,←hsq,U.encS_cat hPc hQc]
 have hcuv:zA6 (Ua++Vb)=su++sv:=by rw[←hsu,←hsv,U.encS_cat hUc hVc]
 have len:∀{z:List Int},(∀c∈z,C.isC c=true)→(Nf.fl T z).length≤1024→(zA6 z).size≤4096:=fun {z} hz hf=>by
  have h1:=zCp hz;have h2:=zBE hok z;omega
 have g1:=len hkam hfa;have g2:=len hkbm hfb;have g3:=len hPc (by rw[←Nf.chars_len,hPU,←hU,Nf.chars_len];exact hfa);have g4:=len hQc (by rw[←Nf.chars_len,hQV,←hV,Nf.chars_len];exact hfb);have g5:=len hUc (by rw[←Nf.chars_len,hUU,←hU,Nf.chars_len];exact hfa);have g6:=len hVc (by rw[←Nf.chars_len,hVV,←hV,Nf.chars_len];exact hfb);rw[hsa]at g1;rw[hsb]at g2;rw[hsp]at g3;rw[hsq]at g4;rw[hsu]at g5;rw[hsv]at g6;have n1:¬9223372036854775807<sa.size+sb.size:=by omega
 have n2:¬9223372036854775807<sp.size+sq.size:=by omega
 have n3:¬9223372036854775807<su.size+sv.size:=by omega
 have e1:(sr.toList == sr.toList)=true:=by rw[zDf,decide_eq_true rfl]
 have e2:(sd.toList == sd.toList)=true:=by rw[zDf,decide_eq_true rfl]
 have H1:Hy (∀W,Below w3.heap.size w3 W→Calls Tryz.prog 31 #[.pointer (some ⟨pb,0,none⟩),.string sa] W fun e w'=>e=.returned (.tuple #[.string sp,.int .i64 0])∧Below W.heap.size W w'):=hy' fun W hW=>HOC.o ka sa sp W hW hkam hfa hsa (by rw[hP,hsp])
 have H2:Hy (∀W,Below w3.heap.size w3 W→Calls Tryz.prog 31 #[.pointer (some ⟨pb,0,none⟩),.string sb] W fun e w'=>e=.returned (.tuple #[.string sq,.int .i64 0])∧Below W.heap.size W w'):=hy' fun W hW=>HOC.o kb sb sq W hW hkbm hfb hsb (by rw[hQ,hsq])
 have H3:Hy (∀W,Below w3.heap.size w3 W→Calls Tryz.prog 31 #[.pointer (some ⟨pb,0,none⟩),.string (sp++sq)] W fun e w'=>e=.returned (.tuple #[.string sr,.int .i64 0])∧Below W.heap.size W w'):=hy' fun W hW=>HOC.o (P++Q) _ sr W hW hPQc hfPQ hcpq (by rw[hPQ,hsr])
 have H4:Hy (∀W,Below w3.heap.size w3 W→Calls Tryz.prog 31 #[.pointer (some ⟨pb,0,none⟩),.string (sa++sb)] W fun e w'=>e=.returned (.tuple #[.string sr,.int .i64 0])∧Below W.heap.size W w'):=hy' fun W hW=>HOC.o l _ sr W hW HLC.o hfl hcab hsr
 have H5:Hy (∀W,Below w3.heap.size w3 W→Calls Tryz.prog 14 #[.pointer (some ⟨pb,0,none⟩),.string sa] W fun e w'=>e=.returned (.tuple #[.string su,.int .i64 0])∧Below W.heap.size W w'):=hy' fun W hW=>HOD.o ka sa su W hW hkam hfa hsa (by rw[hU,hsu])
 have H6:Hy (∀W,Below w3.heap.size w3 W→Calls Tryz.prog 14 #[.pointer (some ⟨pb,0,none⟩),.string sb] W fun e w'=>e=.returned (.tuple #[.string sv,.int .i64 0])∧Below W.heap.size W w'):=hy' fun W hW=>HOD.o kb sb sv W hW hkbm hfb hsb (by rw[hV,hsv])
 have H7:Hy (∀W,Below w3.heap.size w3 W→Calls Tryz.prog 14 #[.pointer (some ⟨pb,0,none⟩),.string (su++sv)] W fun e w'=>e=.returned (.tuple #[.string sd,.int .i64 0])∧Below W.heap.size W w'):=hy' fun W hW=>HOD.o (Ua++Vb) _ sd W hW hUVc hfUV hcuv (by rw[hUVd,hsd])
 have H8:Hy (∀W,Below w3.heap.size w3 W→Calls Tryz.prog 14 #[.pointer (some ⟨pb,0,none⟩),.string (sa++sb)] W fun e w'=>e=.returned (.tuple #[.string sd,.int .i64 0])∧Below W.heap.size W w'):=hy' fun W hW=>HOD.o l _ sd W hW HLC.o hfl hcab hsd
 have HE:=hy' (And.intro e1 e2);have HN:=hy' (And.intro n1 (And.intro n2 n3));have HKA:=hy' hkal;have HKB:=hy' hkbl;have HKAM:=hy' hkam;have HKBM:=hy' hkbm;have HSAE:=hy' hsa;have HSBE:=hy' hsb
 have HSA:Hy (∀W,Below w3.heap.size w3 W→Sl W W.heap.size Al (ka.map (Value.int .i64))):=hy' fun W hW=>by
  rw[←hka,List.map_take];exact (HL33.o.below hW hW.size).takeN k
 have HSB:Hy (∀gb,Al=some ⟨gb,0,none⟩→∀W,Below w3.heap.size w3 W→Sl W W.heap.size (some ⟨gb,k,none⟩) (kb.map (Value.int .i64))):=hy' fun gb hgb W hW=>by
  have:=HL33.o.below hW hW.size;rw[hgb]at this;rw[←hkb,List.map_drop];have:=this.dropN k;rwa [Nat.zero_add]at this
 have HK:=hy' hkk
 have hA2:(Al=none∧ln=0∧cl=0)∨(∃gb,Al=some ⟨gb,0,none⟩∧ln≤cl∧cl≤k)∨∃gb,Al=some ⟨gb,0,none⟩∧ln≤cl∧k<cl:=by
  rcases hA with h|⟨gb,h1,h2⟩
  · exact .inl h
  rcases Nat.lt_or_ge k cl with h3|h3
  · exact .inr (.inr ⟨gb,h1,h2,h3⟩)
  exact .inr (.inl ⟨gb,h1,h2,h3⟩)
 clear hok hA HL3 z0 z1 zl hka hkb hab hkal hkbl hkam hkbm hfl hfa hfb hsum hP hQ hU hV hPc hQc hUc hVc hPU hQV hUU hVV hPQd hUVd hPQ hfPQ hfUV hPQc hUVc hsa hsb hsp hsq hsu hsv hsr hsd hcab hcpq hcuv len g1 g2 g3 g4 g5 g6 n1 n2 n3 e1 e2 hkk;rcases hA2 with ⟨rfl,rfl,rfl⟩|⟨gb,rfl,hcap,hkc⟩|⟨gb,rfl,hcap,hkc⟩
 · obtain rfl:k=0:=by omega
   have hkq:max 0 (min (bits .and .i64 at' 31) 0)=0:=by have:=HK.o;simpa using this
   have HQ0:=hy' (Below.refl w3.heap.size w3).drew;go_upto_region 5 with (fail)
   refine Stg.wp_region (by kernel_rfl) Stg.Ex Stg.Ex.rel ?_
   (iterate 3 (refine Stg.readW (by kernel_rfl) ?_;intro K hK;go_big_quiet_op;go_big_quiet_on))
   refine Stg.call 13 _ _ rfl Tryz.func13 [.slice none 0 0] rfl w3.drew _ (HEN.o none 0 0 ka sa w3.drew HKA.o (by omega) HKAM.o HSAE.o (HSA.o _ HQ0.o)) (by kernel_rfl) rfl ?_;rintro e q1 ⟨rfl,hb⟩;refine⟨_,rfl,hb,?_⟩;have HQ1:=hy' (HQ0.o.trans (hb.mono HQ0.o.size));clear hb;intro A' hA';simp only[Act.put,List.setIfInBounds_toArray,List.set_cons_succ,List.set_cons_zero]at hA';subst hA'
   (iterate 3 (refine Stg.readW (by kernel_rfl) ?_;intro K hK;go_big_quiet_op;go_big_quiet_on))
   refine Stg.call 13 _ _ rfl Tryz.func13 [.slice none 0 0] rfl q1 _ (HEN.o none 0 0 kb sb q1 (by rw[HKB.o] <;> omega) (by omega) HKBM.o HSBE.o (by rw[List.eq_nil_of_length_eq_zero (show kb.length=0 by rw[HKB.o] <;> omega)];exact Sl.nil _ _ _)) (by kernel_rfl) rfl ?_;rintro e q2 ⟨rfl,hb⟩;refine⟨_,rfl,hb,?_⟩;have HQ2:=hy' (HQ1.o.trans (hb.mono HQ1.o.size));clear hb;intro A' hA';simp only[Act.put,List.setIfInBounds_toArray,List.set_cons_succ,List.set_cons_zero]at hA';subst hA'
   (iterate 2 (refine Stg.readW (by kernel_rfl) ?_;intro K hK;go_big_quiet_op;go_big_quiet_on))
   refine Stg.nil q2 rfl ?_;clear hkq;go_wp2_with fail;refine (H1.o q2 HQ2.o).mono ?_;rintro e q3 ⟨rfl,hb⟩;have HQ3:=hy' (HQ2.o.trans (hb.mono HQ2.o.size));clear hb;go_wp2_with fail;refine (H2.o q3 HQ3.o).mono ?_;rintro e q4 ⟨rfl,hb⟩;have HQ4:=hy' (HQ3.o.trans (hb.mono HQ3.o.size));clear hb;obtain⟨n1,n2,n3⟩:=HN.o;go_wp2_with fail;refine (H3.o q4 HQ4.o).mono ?_;rintro e q5 ⟨rfl,hb⟩;have HQ5:=hy' (HQ4.o.trans (hb.mono HQ4.o.size));clear hb;go_wp2_with fail;refine (H4.o q5 HQ5.o).mono ?_;rintro e q6 ⟨rfl,hb⟩;have HQ6:=hy' (HQ5.o.trans (hb.mono HQ5.o.size));clear hb;go_wp2_with fail;refine (H5.o q6 HQ6.o).mono ?_;rintro e q7 ⟨rfl,hb⟩;have HQ7:=hy' (HQ6.o.trans (hb.mono HQ6.o.size));clear hb;go_wp2_with fail;refine (H6.o q7 HQ7.o).mono ?_;rintro e q8 ⟨rfl,hb⟩;have HQ8:=hy' (HQ7.o.trans (hb.mono HQ7.o.size));clear hb;go_wp2_with fail;refine (H7.o q8 HQ8.o).mono ?_;rintro e q9 ⟨rfl,hb⟩;have HQ9:=hy' (HQ8.o.trans (hb.mono HQ8.o.size));clear hb;go_wp2_with fail;refine (H8.o q9 HQ9.o).mono ?_;rintro e q10 ⟨rfl,hb⟩;have HQ10:=hy' (HQ9.o.trans (hb.mono HQ9.o.size));clear hb;have HF:=hy' (HB3.o.trans (HQ10.o.mono HB3.o.size));obtain⟨e1,e2⟩:=HE.o;go_wp2_with fail;go_ret;exact⟨by first|rfl|(simp;done),HF.o⟩
 · obtain rfl:cl=k:=by omega
   obtain rfl:ln=cl:=by omega
   have k0:(0:Int)≤ln:=by omega
   have hkq:=HK.o;have HQ0:=hy' (Below.refl w3.heap.size w3).drew;go_upto_region 5 with (fail)
   refine Stg.wp_region (by kernel_rfl) Stg.Ex Stg.Ex.rel ?_
   (iterate 3 (refine Stg.readW (by kernel_rfl) ?_;intro K hK;go_big_quiet_op;go_big_quiet_on))
   refine Stg.call 13 _ _ rfl Tryz.func13 [.slice (some ⟨gb,0,none⟩) ln ln] rfl w3.drew _ (HEN.o (some ⟨gb,0,none⟩) ln ln ka sa w3.drew HKA.o (by omega) HKAM.o HSAE.o (HSA.o _ HQ0.o)) (by kernel_rfl) rfl ?_;rintro e q1 ⟨rfl,hb⟩;refine⟨_,rfl,hb,?_⟩;have HQ1:=hy' (HQ0.o.trans (hb.mono HQ0.o.size));clear hb;intro A' hA';simp only[Act.put,List.setIfInBounds_toArray,List.set_cons_succ,List.set_cons_zero]at hA';subst hA'
   (iterate 3 (refine Stg.readW (by kernel_rfl) ?_;intro K hK;go_big_quiet_op;go_big_quiet_on))
   refine Stg.call 13 _ _ rfl Tryz.func13 [.slice (some ⟨gb,0,none⟩) 0 0] rfl q1 _ (HEN.o (some ⟨gb,0,none⟩) 0 0 kb sb q1 (by rw[HKB.o] <;> omega) (by omega) HKBM.o HSBE.o (by rw[List.eq_nil_of_length_eq_zero (show kb.length=0 by rw[HKB.o] <;> omega)];exact Sl.nil _ _ _)) (by kernel_rfl) rfl ?_;rintro e q2 ⟨rfl,hb⟩;refine⟨_,rfl,hb,?_⟩;have HQ2:=hy' (HQ1.o.trans (hb.mono HQ1.o.size));clear hb;intro A' hA';simp only[Act.put,List.setIfInBounds_toArray,List.set_cons_succ,List.set_cons_zero]at hA';subst hA'
   (iterate 2 (refine Stg.readW (by kernel_rfl) ?_;intro K hK;go_big_quiet_op;go_big_quiet_on))
   refine Stg.nil q2 rfl ?_;clear hkq;go_wp2_with fail;refine (H1.o q2 HQ2.o).mono ?_;rintro e q3 ⟨rfl,hb⟩;have HQ3:=hy' (HQ2.o.trans (hb.mono HQ2.o.size));clear hb;go_wp2_with fail;refine (H2.o q3 HQ3.o).mono ?_;rintro e q4 ⟨rfl,hb⟩;have HQ4:=hy' (HQ3.o.trans (hb.mono HQ3.o.size));clear hb;obtain⟨n1,n2,n3⟩:=HN.o;go_wp2_with fail;refine (H3.o q4 HQ4.o).mono ?_;rintro e q5 ⟨rfl,hb⟩;have HQ5:=hy' (HQ4.o.trans (hb.mono HQ4.o.size));clear hb;go_wp2_with fail;refine (H4.o q5 HQ5.o).mono ?_;rintro e q6 ⟨rfl,hb⟩;have HQ6:=hy' (HQ5.o.trans (hb.mono HQ5.o.size));clear hb;go_wp2_with fail;refine (H5.o q6 HQ6.o).mono ?_;rintro e q7 ⟨rfl,hb⟩;have HQ7:=hy' (HQ6.o.trans (hb.mono HQ6.o.size));clear hb;go_wp2_with fail;refine (H6.o q7 HQ7.o).mono ?_;rintro e q8 ⟨rfl,hb⟩;have HQ8:=hy' (HQ7.o.trans (hb.mono HQ7.o.size));clear hb;go_wp2_with fail;refine (H7.o q8 HQ8.o).mono ?_;rintro e q9 ⟨rfl,hb⟩;have HQ9:=hy' (HQ8.o.trans (hb.mono HQ8.o.size));clear hb;go_wp2_with fail;refine (H8.o q9 HQ9.o).mono ?_;rintro e q10 ⟨rfl,hb⟩;have HQ10:=hy' (HQ9.o.trans (hb.mono HQ9.o.size));clear hb;have HF:=hy' (HB3.o.trans (HQ10.o.mono HB3.o.size));obtain⟨e1,e2⟩:=HE.o;go_wp2_with fail;go_ret;exact⟨by first|rfl|(simp;done),HF.o⟩
 have kc:(k:Int)≤cl:=by omega
 have k0:(0:Int)≤k:=by omega
 have kl:(k:Int)≤ln:=by omega
 have kne:¬cl=k:=by omega
 have hkq:=HK.o;have HQ0:=hy' (Below.refl w3.heap.size w3).drew;go_upto_region 5 with (fail)
 refine Stg.wp_region (by kernel_rfl) Stg.Ex Stg.Ex.rel ?_
 (iterate 3 (refine Stg.readW (by kernel_rfl) ?_;intro K hK;go_big_quiet_op;go_big_quiet_on))
 refine Stg.call 13 _ _ rfl Tryz.func13 [.slice (some ⟨gb,0,none⟩) k cl] rfl w3.drew _ (HEN.o (some ⟨gb,0,none⟩) k cl ka sa w3.drew HKA.o (by omega) HKAM.o HSAE.o (HSA.o _ HQ0.o)) (by kernel_rfl) rfl ?_;rintro e q1 ⟨rfl,hb⟩;refine⟨_,rfl,hb,?_⟩;have HQ1:=hy' (HQ0.o.trans (hb.mono HQ0.o.size));clear hb;intro A' hA';simp only[Act.put,List.setIfInBounds_toArray,List.set_cons_succ,List.set_cons_zero]at hA';subst hA'
 (iterate 3 (refine Stg.readW (by kernel_rfl) ?_;intro K hK;go_big_quiet_op;go_big_quiet_on))
 refine Stg.call 13 _ _ rfl Tryz.func13 [.slice (some ⟨gb,k,none⟩) (ln-k) (cl-k)] rfl q1 _ (HEN.o (some ⟨gb,k,none⟩) (ln-k) (cl-k) kb sb q1 (by rw[HKB.o] <;> omega) (by omega) HKBM.o HSBE.o (HSB.o gb rfl _ HQ1.o)) (by kernel_rfl) rfl ?_;rintro e q2 ⟨rfl,hb⟩;refine⟨_,rfl,hb,?_⟩;have HQ2:=hy' (HQ1.o.trans (hb.mono HQ1.o.size));clear hb;intro A' hA';simp only[Act.put,List.setIfInBounds_toArray,List.set_cons_succ,List.set_cons_zero]at hA';subst hA'
 (iterate 2 (refine Stg.readW (by kernel_rfl) ?_;intro K hK;go_big_quiet_op;go_big_quiet_on))
 refine Stg.nil q2 rfl ?_;clear hkq;go_wp2_with fail;refine (H1.o q2 HQ2.o).mono ?_;rintro e q3 ⟨rfl,hb⟩;have HQ3:=hy' (HQ2.o.trans (hb.mono HQ2.o.size));clear hb;go_wp2_with fail;refine (H2.o q3 HQ3.o).mono ?_;rintro e q4 ⟨rfl,hb⟩;have HQ4:=hy' (HQ3.o.trans (hb.mono HQ3.o.size));clear hb;obtain⟨n1,n2,n3⟩:=HN.o;go_wp2_with fail;refine (H3.o q4 HQ4.o).mono ?_;rintro e q5 ⟨rfl,hb⟩;have HQ5:=hy' (HQ4.o.trans (hb.mono HQ4.o.size));clear hb;go_wp2_with fail;refine (H4.o q5 HQ5.o).mono ?_;rintro e q6 ⟨rfl,hb⟩;have HQ6:=hy' (HQ5.o.trans (hb.mono HQ5.o.size));clear hb;go_wp2_with fail;refine (H5.o q6 HQ6.o).mono ?_;rintro e q7 ⟨rfl,hb⟩;have HQ7:=hy' (HQ6.o.trans (hb.mono HQ6.o.size));clear hb;go_wp2_with fail;refine (H6.o q7 HQ7.o).mono ?_;rintro e q8 ⟨rfl,hb⟩;have HQ8:=hy' (HQ7.o.trans (hb.mono HQ7.o.size));clear hb;go_wp2_with fail;refine (H7.o q8 HQ8.o).mono ?_;rintro e q9 ⟨rfl,hb⟩;have HQ9:=hy' (HQ8.o.trans (hb.mono HQ8.o.size));clear hb;go_wp2_with fail;refine (H8.o q9 HQ9.o).mono ?_;rintro e q10 ⟨rfl,hb⟩;have HQ10:=hy' (HQ9.o.trans (hb.mono HQ9.o.size));clear hb;have HF:=hy' (HB3.o.trans (HQ10.o.mono HB3.o.size));obtain⟨e1,e2⟩:=HE.o;go_wp2_with fail;go_ret;exact⟨by first|rfl|(simp;done),HF.o⟩
end Go.Proofs.YtddbccflcekdpaaGreatDoor
