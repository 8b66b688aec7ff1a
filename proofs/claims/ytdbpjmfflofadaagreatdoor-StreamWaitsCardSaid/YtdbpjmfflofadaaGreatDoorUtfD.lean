/- Cut, Last, and the law UtfEnds' walk. -/
import Derived.Test.YtdbpjmfflofadaaGreatDoorUtfC
set_option linter.unusedVariables false
set_option linter.unusedSimpArgs false
namespace Go.Proofs.YtdbpjmfflofadaaGreatDoor
open Go.RowKit
theorem zSY (s:ByteArray) (k:Nat):(s.extract k s.size).data.toList=s.data.toList.drop k:=by
 have h:s.data.toList.length=s.size:=by simp
 simp only[ByteArray.data_extract,Array.toList_extract];rw[List.extract_eq_take_drop,Zi (by rw[ZH];omega)]
theorem zRr (s:ByteArray):s.data.toList.length=s.size:=by simp
theorem zF2 {l:List UInt8} {c:Int} {k:Nat} (h:zAe l=some (c,k)):zAw l=(c,k,true):=by unfold zAw;rw[h]
theorem zF3 {l:List UInt8} (h:zAe l=none):zAw l=(0,0,false):=by unfold zAw;rw[h]
def zA4 (cs:List Int):List UInt8:=cs.flatMap zAp
theorem zAW (c:Int) (cs:List Int):zA4 (c::cs)=zAp c++zA4 cs:=rfl
theorem zAq (a b:List Int):zA4 (a++b)=zA4 a++zA4 b:=by unfold zA4;rw[List.flatMap_append]
theorem zCf (c:Int):1≤(zAp c).length∧(zAp c).length≤4:=by unfold zAp;grind
theorem U.encs_len (cs:List Int):cs.length≤(zA4 cs).length:=by
 induction cs with
 | nil=>simp
 | cons c cs ih=>rw[zAW,Zc,ZB];have:=(zCf c).1;omega
def zRs (l:List UInt8) (cs:List Int) (r:List UInt8):Prop:=l=zA4 cs++r∧(∀c∈cs,U.isC c=true)∧zAe r=none
theorem zQ7 {c:Int} {b:List Int} {r:List UInt8} (hc:U.isC c=true):zAe (zA4 (c::b)++r)=some (c,(zAp c).length):=by
 rw[zAW,Zz];exact zCl c hc _
end Go.Proofs.YtdbpjmfflofadaaGreatDoor
