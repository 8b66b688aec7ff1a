/- order.In and order.Runs, by walking their texts. -/
import Derived.Test.YthngjlllojiacaaGreatDoorSoWalkA
set_option linter.unusedVariables false
set_option linter.unusedSimpArgs false
namespace Go.Proofs.YthngjlllojiacaaGreatDoor
open Go.RowKit
theorem Or.inB_take {f:Int→Int}:∀(l:List Int) (t:Int) (k:Nat) {x:Int},l[k]?=some x→Or.inB f t (l.take k)=true→Or.inB f t l=Or.inB f ((l.take k).foldl (fun _ y=>f y) t) (l.drop k)
 | [],t,k,x,h,_=>by simp at h
 | y::l,t,0,x,h,_=>rfl
 | y::l,t,k+1,x,h,hi=>by
   rw[Qw]at hi ⊢;unfold Or.inB at hi;split at hi
   · cases hi
   rename_i hh;rw[List.foldl_cons,List.drop_succ_cons,←Or.inB_take l (f y) k (by simpa using h) hi]
   conv=>lhs;unfold Or.inB
   rw[Zj hh]
end Go.Proofs.YthngjlllojiacaaGreatDoor
