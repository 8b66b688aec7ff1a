/- The fixed fact of layer 20. -/
import Derived.Test.YtjakbblocbicjaaGreatDoorSpParts
import Derived.Test.YtjakbblocbicjaaGreatDoorSpUnits
import Derived.Test.YtjakbblocbicjaaGreatDoorNfLaw
namespace Go.Proofs.YtjakbblocbicjaaGreatDoor
open Go.RowKit
set_option linter.unusedSimpArgs false
set_option linter.unusedVariables false
theorem Sp.lit_sec:Nc.sec Xt.T zMT 98=false:=by
 unfold Nc.sec;rw[(zBH _).2,Xt.mem];decide +kernel
theorem Sp.lit_a:zLv Xt.T zMT 769=false:=by
 unfold zLv;rw[show Sp.start Xt.T 769=false by decide +kernel];simp
theorem Sp.lit_b:zLv Xt.T zMT 98=true:=by
 unfold zLv;rw[show Sp.start Xt.T 98=true by decide +kernel,show Sp.head Xt.T 98=98 by decide +kernel,Sp.lit_sec];rfl
theorem Sp.lit_c {T:List Rw.Row} {S:List Int} (ok:Ud.Ok T S):Sp.apart T 4449=false:=by
 have hk:zA2 4449=2:=by decide
 have hf:Ud.full T 4449=[4449]:=zFk ok (zP1 (by unfold zAV;rw[zMk ok (by rw[hk];decide)];rfl) (by omega)).1;unfold Sp.apart Sp.inn Sp.head;rw[hf];show (_&&(_&&!(_||decide (zA2 4449=2)||_)))=false;rw[hk];simp
theorem Sp.lit20:Sp.cut (zLv Xt.T zMT) [97,769,98]=[[97,769],[98]]:=by
 simp[Sp.cut,Sp.run,Sp.step,Sp.fin,Sp.lit_a,Sp.lit_b]
theorem Sp.lit20u:Sp.cut (Sp.apart Xt.T) [4352,4449]=[[4352,4449]]:=by
 simp[Sp.cut,Sp.run,Sp.step,Sp.fin,Sp.lit_c Xt.ok]
set_option maxRecDepth 100000 in
set_option maxHeartbeats 2000000 in
theorem Sp.awake20 (w:World) (hL:Nf.Laid w):Calls Tryz.prog 14 #[] w fun e w'=>e=.returned (.bool true)∧Below w.heap.size w w':=by
 have hD:=zOj w hL.1
 have HP:Hy (∀p W,Below w.heap.size w W→Ud.Is W p Xt.T zMT→Calls Tryz.prog 25 #[p,.string ⟨#[97,204,129,98]⟩] W fun e w'=>∃A c,e=.returned (.tuple #[.slice A 2 c,.int .i64 0])∧w'.ownsRow W.heap.size 9 1 (.slice A 2 c) 2 [.string ⟨#[97,204,129]⟩,.string ⟨#[98]⟩]∧Below W.heap.size W w'):=hy' fun p W hW h=>by
  have:=Sp.parts_any p Xt.T zMT ⟨#[97,204,129,98]⟩ [97,769,98] W Xt.ok h (hL.2.next hW) (by decide +kernel) (by decide) (by decide);unfold Sp.RetParts at this
  rw[Sp.lit20,show Sp.vs [[97,769],[98]]=[.string ⟨#[97,204,129]⟩,.string ⟨#[98]⟩] by
   unfold Sp.vs;rw[List.map_cons,List.map_cons,List.map_nil,show zAv [97,769]=⟨#[97,204,129]⟩ by decide +kernel,show zAv [98]=⟨#[98]⟩ by decide +kernel]]at this
  exact this
 have HU:Hy (∀p A c W,Below w.heap.size w W→Ud.Is W p Xt.T zMT→Sl W W.heap.size A [.int .i32 4352,.int .i32 4449]→Calls Tryz.prog 17 #[p,.slice A 2 c] W fun e w'=>∃A c,e=.returned (.slice A 1 c)∧Below W.heap.size W w'):=hy' fun p A c W hW h hA=>by
  refine (Sp.units_any p Xt.T zMT A 2 c [4352,4449] W Xt.ok h rfl (by decide) hA).mono ?_;rintro e w' ⟨A',c',rfl,_,hb⟩;rw[Sp.lit20u];exact⟨A',c',rfl,hb⟩
 obtain⟨T,hT⟩:∃T,Xt.T=T:=⟨_,rfl⟩;obtain⟨S,hS⟩:∃S,zMT=S:=⟨_,rfl⟩;rw[hT,hS]at hD HP HU;clear hT hS hL;go_enter Tryz.func14,Tryz.ntmps14;go_wp2_with fail;refine hD.mono ?_;rintro e w1 ⟨p,rfl,his,hb1⟩;obtain⟨b,rfl,hbl⟩:=his.form;have h1:=HP.o _ w1 hb1 his;have HI1:=hy' his;have HB1:=hy' hb1;clear his hb1 hD;go_wp2_with fail;refine h1.mono ?_;rintro e w2 ⟨A,c,rfl,hown,hb2⟩
 have hA:∃g,A=some ⟨g,0,none⟩:=by
  rcases hown.2 with ⟨hv,h0⟩|⟨g',cap',cur,hv,hg,hb,_⟩
  · simp at hv
  simp only[Value.slice.injEq]at hv;exact⟨g',hv.1⟩
 obtain⟨g,rfl⟩:=hA;have y1:=zBa hown (i:=1) rfl;have yl:=(zB6 hown (g:=g) rfl).2;have HB2:=hy' (HB1.o.trans (hb2.mono HB1.o.size));obtain⟨w3,hw3⟩:∃w3,w2.alloc (.cells #[.int .i32 4352,.int .i32 4449] 21)=w3:=⟨_,rfl⟩;have hb3:Below w2.heap.size w2 w3:=by rw[←hw3];exact (Below.refl _ _).alloc (Nat.le_refl _) _
 have hlit:Sl w3 w3.heap.size (some ⟨w2.heap.size,0,none⟩) [.int .i32 4352,.int .i32 4449]:=by
  rw[←hw3];exact Sl.lit rfl _ _ (heap_alloc_new w2 _)
 have HB3:=hy' (HB2.o.trans (hb3.mono HB2.o.size));have h2:=HU.o _ (some ⟨w2.heap.size,0,none⟩) 2 w3 HB3.o (HI1.o.below (hb2.trans (hb3.mono hb2.size))) hlit;have HW3:=hy' hw3;clear hb2 h1 hown hw3 hb3 hlit;go_wp2_with (first|(go_at_call 17;rw[HW3.o];refine h2.mono ?_;rintro e w4 ⟨A4,c4,rfl,hb4⟩)|fail);have HB4:=HB3.o.trans (hb4.mono HB3.o.size);go_ret;exact⟨rfl,HB4⟩
end Go.Proofs.YtjakbblocbicjaaGreatDoor
