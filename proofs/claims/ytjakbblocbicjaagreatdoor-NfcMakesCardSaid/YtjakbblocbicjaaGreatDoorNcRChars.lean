/- The document's layer 18: any characters put together, by walking its text. -/
import Derived.Test.YtjakbblocbicjaaGreatDoorNcRJoin
import Derived.Test.YtjakbblocbicjaaGreatDoorNcLaw
set_option maxRecDepth 100000
set_option maxHeartbeats 4000000
set_option linter.unusedVariables false
set_option linter.unusedSimpArgs false
namespace Go.Proofs.YtjakbblocbicjaaGreatDoor
open Go.Proofs.Tryz
open Go.RowKit
theorem Nc.rchars_any (v:Value) (T:List Rw.Row) (E S:List Int) (A:Option Addr) (n c:Nat) (l:List Int) (w:World) (ok:Ud.Ok T S) (af:C.mem S=Md.xs E) (ak:T.length≤100000) (a1:E.length≤1000000) (ar:∀r∈T,r.2.2.length≤1000) (h:Md.Doc w v T E) (hl:l.length=n) (hn:n≤3000) (aq:∀x∈l,C.isC x=true) (hA:Sl w w.heap.size A (l.map (Value.int .i64))) :
 Calls prog 41 #[v,.slice A n c] w (zBn (Nc.chars T S l) w):=by
 have hlen:=Nf.chars_le ok l;have hd:=h;obtain⟨AT,cT,XA,xc,rfl,_⟩:=hd;obtain⟨tn,av⟩:∃k,T.length=k:=⟨_,rfl⟩;obtain⟨xn,hxn⟩:∃k,E.length=k:=⟨_,rfl⟩;rw[av,hxn]at h ⊢;obtain⟨Z,hZ⟩:∃Z,Nf.chars T l=Z:=⟨_,rfl⟩;obtain⟨zn,ah⟩:∃q,Z.length=q:=⟨_,rfl⟩;have a6:∀c∈Z,C.isC c=true:=by rw[←hZ];exact Nf.chars_isC ok aq
 rw[hZ,ah]at hlen
 have ax:∀W,Below w.heap.size w W→Calls prog 16 #[zAX AT tn cT XA xn xc,.slice A n c] W fun e w'=>∃A' c',e=.returned (.slice A' zn c')∧Sl w' w'.heap.size A' (Z.map (Value.int .i64))∧Below W.heap.size W w':=fun W hW=>by
  refine (Nf.rchars_any _ T E A n c l W ak ok.bd ar (fun c=>zAS ok c) (h.below hW) hl hn (fun x hx=>Nf.isC_i32 (aq x hx)) (hA.below hW hW.size)).mono ?_;rintro e w' ⟨A',c',rfl,ho,hb⟩;rw[hZ,ah]at ho ⊢;exact⟨A',c',rfl,Sl.of_own ho,hb⟩
 obtain⟨R,hR⟩:∃R,Nc.chars T S l=R:=⟨_,rfl⟩;obtain⟨rn,ap⟩:∃q,R.length=q:=⟨_,rfl⟩
 have aw:∀A' c' W,Below w.heap.size w W→Sl W W.heap.size A' (Z.map (Value.int .i64))→Calls prog 40 #[zAX AT tn cT XA xn xc,.slice A' zn c'] W fun e w'=>∃A' c',e=.returned (.slice A' rn c')∧w'.ownsRow W.heap.size 3 1 (.slice A' rn c') rn (R.map (Value.int .i64))∧Below W.heap.size W w':=fun A' c' W hW hs=>by
  have:=zF5 _ T E S A' zn c' Z W ok af ak a1 ar (h.below hW) ah (by omega) a6 hs;rw[←hZ]at this;unfold zBn at this;rw[show zBw T S (Nf.chars T l)=R from hR,ap]at this;exact this
 unfold zBn;rw[hR,ap];unfold zAX at *;obtain⟨wa,ai⟩:∃wa,w.alloc (.cells #[.slice AT tn cT,.slice XA xn xc] 25)=wa:=⟨_,rfl⟩;have aa:Below w.heap.size w wa:=by rw[←ai];exact (Zc _ _).alloc (Za _) _
 have ay:Rw.At wa w.heap.size 25 [.slice AT tn cT,.slice XA xn xc]:=by rw[←ai];exact Rw.At.new w 25 [.slice AT tn cT,.slice XA xn xc]
 have a8:=hy' ai;have ao:=hy' aa;have bg:Hy (∀W,Below wa.heap.size wa W→Calls prog 16 #[.agg #[.slice AT tn cT,.slice XA xn xc],.slice A n c] W fun e w'=>∃A' c',e=.returned (.slice A' zn c')∧Sl w' w'.heap.size A' (Z.map (Value.int .i64))∧Below W.heap.size W w'):=hy' fun W hW=>ax W (aa.trans (hW.mono aa.size))
 have ba:Hy (∀A' c' W,Below wa.heap.size wa W→Sl W W.heap.size A' (Z.map (Value.int .i64))→Calls prog 40 #[.agg #[.slice AT tn cT,.slice XA xn xc],.slice A' zn c'] W fun e w'=>∃A' c',e=.returned (.slice A' rn c')∧w'.ownsRow W.heap.size 3 1 (.slice A' rn c') rn (R.map (Value.int .i64))∧Below W.heap.size W w'):=hy' fun A' c' W hW hs=>aw A' c' W (aa.trans (hW.mono aa.size)) hs
 have a7:Hy (∀W,Below wa.heap.size wa W→(∀x:Stg.Later Stg.Ex W,x.val.cell? ⟨w.heap.size,0,none⟩=some (.slice AT tn cT))∧(∀x:Stg.Later Stg.Ex W,x.val.cell? ⟨w.heap.size,1,none⟩=some (.slice XA xn xc))):=hy' fun W hW =>
  have hT:=ay.below hW
  ⟨Stg.cells (hT.cell 0 rfl) hT.lt,Stg.cells (hT.cell 1 rfl) hT.lt⟩
 have ag:=hy' (Zc wa.heap.size wa).drew;clear ai aa ay ax aw hlen hZ ah a6 hR ap h av hxn ak a1 ar af ok hl aq hA;go_enter func41,ntmps41;go_upto_region 1 with (fail)
 rw[a8.o];refine Stg.wp_region (by kernel_rfl) Stg.Ex Stg.Ex.rel ?_;obtain⟨f0,f1⟩:=a7.o wa.drew ag.o;(iterate 2 (refine Stg.read 0 (by kernel_rfl) wa.drew rfl ?_;intro K hK;go_big_quiet_op;go_big_quiet_on));refine Stg.readW (by kernel_rfl) ?_;intro K hK;go_big_quiet_op;go_big_quiet_on;refine Stg.cl 16 _ _ rfl func16 [.agg #[.slice AT tn cT,.slice XA xn xc],.slice A n c] rfl wa.drew _ (bg.o wa.drew ag.o) (by kernel_rfl) rfl ?_;rintro e q1 ⟨A1,c1,rfl,au,hb⟩;refine⟨_,rfl,hb,?_⟩;have aj:=hy' (ag.o.trans (hb.mono ag.o.size));have bf:=hy' au;clear au;clear hb;intro A' ae;simp only[Act.put,Zl,Zv,Zs]at ae;subst ae
 refine Stg.cl 40 _ _ rfl func40 [.agg #[.slice AT tn cT,.slice XA xn xc],.slice A1 zn c1] rfl q1 _ (ba.o A1 c1 q1 aj.o bf.o) (by kernel_rfl) rfl ?_;rintro e q2 ⟨A2,c2,rfl,az,hb⟩;refine⟨_,rfl,hb,?_⟩;have bb:=hy' (aj.o.trans (hb.mono aj.o.size));have bh:=hy' (zAR az aj.o.size);clear az;clear hb;intro A' ae;simp only[Act.put,Zl,Zv,Zs]at ae;subst ae
 refine Stg.readW (by kernel_rfl) ?_;intro K hK;go_big_quiet_op;go_big_quiet_on;clear f0 f1;refine Stg.nil q2 rfl ?_;have bc:=hy' (zAR bh.o ao.o.size);have bi:=hy' (ao.o.trans (bb.o.mono ao.o.size));go_wp2_with fail;go_ret;exact⟨_,_,rfl,bc.o,bi.o⟩
end Go.Proofs.YtjakbblocbicjaaGreatDoor
