/- What the laws of layer 22 ask of whole texts; the fixed fact of layer 22. -/
import Derived.Test.YtjakbblocbicjaaGreatDoorEqBoth
import Derived.Test.YtjakbblocbicjaaGreatDoorNfLaw
namespace Go.Proofs.YtjakbblocbicjaaGreatDoor
open Go.RowKit
set_option linter.unusedSimpArgs false
set_option linter.unusedVariables false
theorem U.cmpL_trans:∀x y z:List Int,U.cmpL x y≤0→U.cmpL y z≤0→U.cmpL x z≤0
 | [],_,[]=>by simp[U.cmpL]
 | [],_,_::_=>by simp[U.cmpL]
 | a::x,[],z=>fun h _=>by simp[U.cmpL]at h
 | a::x,b::y,[]=>fun _ h=>by simp[U.cmpL]at h
 | a::x,b::y,c::z=>by
   have ih:=U.cmpL_trans x y z;show (if a<b then _ else if b<a then _ else _)≤0→(if b<c then _ else if c<b then _ else _)≤0→(if a<c then _ else if c<a then _ else _)≤0
   repeat' split
   all_goals first|omega|(intro h1 h2;first|exact ih h1 h2|omega)
theorem U.cmp_encS {x y:List Int} (hx:∀c∈x,U.isC c=true) (hy:∀c∈y,U.isC c=true):Lib.compareBytes (zAv x).data.toList (zAv y).data.toList=U.cmpL x y:=by
 rw[zIT hx,zIT hy];exact U.cmp_encs x y hx hy
section
variable (v:Value) (T:List Rw.Row) (S:List Int) (x y:List Int) (w:World) (ok:Ud.Ok T S) (h:Ud.Is w v T S) (hH:Heads w) (hx:∀c∈x,C.isC c=true) (hxl:x.length≤3000) (hxf:(Nf.fl T x).length≤1024) (hy:∀c∈y,C.isC c=true) (hyl:y.length≤3000) (hyf:(Nf.fl T y).length≤1024)
include ok h hH hx hxl hxf hy hyl hyf
theorem Eq.alike_chars:Calls Tryz.prog 31 #[v,.string (zAv x),.string (zAv y)] w fun z w'=>z=.returned (.tuple #[.bool (decide (Nf.chars T x=Nf.chars T y)),.int .i64 0])∧Below w.heap.size w w':=by
 have:=Eq.alike_of v _ _ _ _ 0 0 w (Int.le_refl _) (Int.le_refl _) (fun W hW=>Nf.of_chars v T S x W ok (h.below hW) (hH.next hW) hx hxl hxf) (fun W hW=>Nf.of_chars v T S y W ok (h.below hW) (hH.next hW) hy hyl hyf);rw[show Eq.er 0 0=0 from rfl,decide_eq_true rfl,Bool.true_and]at this
 rw[show decide (Nf.chars T x=Nf.chars T y)=decide (zAv (Nf.chars T x)=zAv (Nf.chars T y)) from by
  rw[Bool.eq_iff_iff,decide_eq_true_iff,decide_eq_true_iff];exact⟨fun e=>by rw[e],fun e=>zKw (Nf.chars_isC ok hx) (Nf.chars_isC ok hy) e⟩]
 exact this
theorem Eq.compare_chars:Calls Tryz.prog 34 #[v,.string (zAv x),.string (zAv y)] w fun z w'=>z=.returned (.tuple #[.int .i64 (U.cmpL (Nf.chars T x) (Nf.chars T y)),.int .i64 0])∧Below w.heap.size w w':=by
 have:=Eq.compare_of v _ _ _ _ 0 0 w (Int.le_refl _) (Int.le_refl _) (fun W hW=>Nf.of_chars v T S x W ok (h.below hW) (hH.next hW) hx hxl hxf) (fun W hW=>Nf.of_chars v T S y W ok (h.below hW) (hH.next hW) hy hyl hyf);rw[show Eq.er 0 0=0 from rfl,if_pos rfl,U.cmp_encS (Nf.chars_isC ok hx) (Nf.chars_isC ok hy)]at this;exact this
end
theorem Eq.lit22:Nf.chars Xt.T [8491]=[65,778]∧Nf.chars Xt.T [65,778]=[65,778]∧Nf.chars Xt.T [97,778]=[97,778]:=by decide +kernel
theorem Eq.enc22:zAv [8491]=⟨#[226,132,171]⟩∧zAv [65,778]=⟨#[65,204,138]⟩∧zAv [97,778]=⟨#[97,204,138]⟩:=by decide +kernel
set_option maxRecDepth 100000 in
set_option maxHeartbeats 2000000 in
theorem Eq.awake22 (w:World) (hL:Nf.Laid w):Calls Tryz.prog 27 #[] w fun e w'=>e=.returned (.bool true)∧Below w.heap.size w w':=by
 have hD:=zOj w hL.1
 have HA:Hy (∀p W,Below w.heap.size w W→Ud.Is W p Xt.T zMT→Calls Tryz.prog 31 #[p,.string ⟨#[226,132,171]⟩,.string ⟨#[65,204,138]⟩] W fun e w'=>e=.returned (.tuple #[.bool true,.int .i64 0])∧Below W.heap.size W w'):=hy' fun p W hW h=>by
  have:=Eq.alike_chars p Xt.T zMT [8491] [65,778] W Xt.ok h (hL.2.next hW) (by decide) (by decide) (zIc Xt.ok (by decide)) (by decide) (by decide) (zIc Xt.ok (by decide));rw[Eq.lit22.1,Eq.lit22.2.1,Eq.enc22.1,Eq.enc22.2.1,decide_eq_true rfl]at this;exact this
 have HB:Hy (∀p W,Below w.heap.size w W→Ud.Is W p Xt.T zMT→Calls Tryz.prog 31 #[p,.string ⟨#[226,132,171]⟩,.string ⟨#[97,204,138]⟩] W fun e w'=>e=.returned (.tuple #[.bool false,.int .i64 0])∧Below W.heap.size W w'):=hy' fun p W hW h=>by
  have:=Eq.alike_chars p Xt.T zMT [8491] [97,778] W Xt.ok h (hL.2.next hW) (by decide) (by decide) (zIc Xt.ok (by decide)) (by decide) (by decide) (zIc Xt.ok (by decide));rw[Eq.lit22.1,Eq.lit22.2.2,Eq.enc22.1,Eq.enc22.2.2,decide_eq_false (by decide)]at this;exact this
 obtain⟨T,hT⟩:∃T,Xt.T=T:=⟨_,rfl⟩;obtain⟨S,hS⟩:∃S,zMT=S:=⟨_,rfl⟩;rw[hT,hS]at hD HA HB;clear hT hS hL;go_enter Tryz.func27,Tryz.ntmps27;go_wp2_with fail;refine hD.mono ?_;rintro e w1 ⟨p,rfl,his,hb1⟩;obtain⟨b,rfl,hbl⟩:=his.form;have h1:=HA.o _ w1 hb1 his;have HI1:=hy' his;have HB1:=hy' hb1;clear his hb1 hD;go_wp2_with fail;refine h1.mono ?_;rintro e w2 ⟨rfl,hb2⟩;have h2:=HB.o _ w2 (HB1.o.trans (hb2.mono HB1.o.size)) (HI1.o.below hb2);have HB2:=hy' (HB1.o.trans (hb2.mono HB1.o.size));clear hb2 h1;go_wp2_with fail;refine h2.mono ?_;rintro e w3 ⟨rfl,hb3⟩;have HB3:=HB2.o.trans (hb3.mono HB2.o.size);clear hb3 h2;go_wp2_with fail;go_ret;exact⟨rfl,HB3⟩
end Go.Proofs.YtjakbblocbicjaaGreatDoor
