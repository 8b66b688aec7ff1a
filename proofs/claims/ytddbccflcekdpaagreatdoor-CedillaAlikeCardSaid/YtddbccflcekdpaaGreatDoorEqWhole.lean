/- What the laws of layer 22 ask of whole texts. -/
import Derived.Test.YtddbccflcekdpaaGreatDoorEqBoth
set_option linter.unusedVariables false
set_option linter.unusedSimpArgs false
namespace Go.Proofs.YtddbccflcekdpaaGreatDoor
open Go.RowKit
theorem U.cmpL_trans:∀x y z:List Int,zB6 x y≤0→zB6 y z≤0→zB6 x z≤0
 | [],_,[]=>by simp[zB6]
 | [],_,_::_=>by simp[zB6]
 | a::x,[],z=>fun h _=>by simp[zB6]at h
 | a::x,b::y,[]=>fun _ h=>by simp[zB6]at h
 | a::x,b::y,c::z=>by
   have ih:=U.cmpL_trans x y z;show (if a<b then _ else if b<a then _ else _)≤0→(if b<c then _ else if c<b then _ else _)≤0→(if a<c then _ else if c<a then _ else _)≤0
   repeat' split
   all_goals first|omega|(intro h1 h2;first|exact ih h1 h2|omega)
theorem U.cmp_encS {x y:List Int} (hx:∀c∈x,U.isC c=true) (hy:∀c∈y,U.isC c=true):Lib.compareBytes (zA6 x).data.toList (zA6 y).data.toList=zB6 x y:=by
 rw[zCe hx,zCe hy];exact zKD x y hx hy
section
variable (v:Value) (T:List Rw.Row) (S:List Int) (x y:List Int) (w:World) (ok:Ud.Ok T S) (h:Ud.Is w v T S) (hH:Heads w) (hx:∀c∈x,C.isC c=true) (hxl:x.length≤3000) (hxf:(Nf.fl T x).length≤1024) (hy:∀c∈y,C.isC c=true) (hyl:y.length≤3000) (hyf:(Nf.fl T y).length≤1024)
include ok h hH hx hxl hxf hy hyl hyf
theorem Eq.alike_chars:Calls Tryz.prog 34 #[v,.string (zA6 x),.string (zA6 y)] w fun z w'=>z=.returned (.tuple #[.bool (decide (Nf.chars T x=Nf.chars T y)),.int .i64 0])∧Below w.heap.size w w':=by
 have:=Eq.alike_of v _ _ _ _ 0 0 w (Yq _) (Yq _) (fun W hW=>Nf.of_chars v T S x W ok (h.below hW) (hH.next hW) hx hxl hxf) (fun W hW=>Nf.of_chars v T S y W ok (h.below hW) (hH.next hW) hy hyl hyf);rw[show Eq.er 0 0=0 from rfl,Zr rfl,YJ]at this
 rw[show decide (Nf.chars T x=Nf.chars T y)=decide (zA6 (Nf.chars T x)=zA6 (Nf.chars T y)) from by
  rw[Z9,ZW,ZW];exact⟨fun e=>by rw[e],fun e=>zDY (Nf.chars_isC ok hx) (Nf.chars_isC ok hy) e⟩]
 exact this
end
end Go.Proofs.YtddbccflcekdpaaGreatDoor
