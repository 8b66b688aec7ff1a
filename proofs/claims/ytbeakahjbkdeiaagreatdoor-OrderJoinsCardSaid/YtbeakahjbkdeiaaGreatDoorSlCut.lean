/- Parts of a slice that is read; a row of characters cut at one of class 0. -/
import Derived.Test.YtbeakahjbkdeiaaGreatDoorSsIns
import Derived.Test.YtbeakahjbkdeiaaGreatDoorMoreJ
namespace Go.Proofs.YtbeakahjbkdeiaaGreatDoor
open Go.RowKit
theorem Sl.takeN {w:World} {B:Nat} {A:Option Addr} {xs:List Value} (h:Sl w B A xs) (k:Nat):Sl w B A (xs.take k):=fun h0=>by
 rw[List.length_take]at h0
 obtain⟨b,o,hA,hb,hc⟩:=h (by omega)
 refine⟨b,o,hA,hb,fun i hi=>?_⟩
 rw[List.length_take]at hi
 rw[hc i (by omega),List.getElem?_take_of_lt (by omega)]
theorem Sl.dropN {w:World} {B:Nat} {b o:Nat} {xs:List Value} (h:Sl w B (some ⟨b,o,none⟩) xs) (k:Nat):Sl w B (some ⟨b,o+k,none⟩) (xs.drop k):=fun h0=>by
 rw[List.length_drop]at h0
 obtain⟨b',o',hA,hb,hc⟩:=h (by omega)
 cases hA
 refine⟨b,o+k,rfl,hb,fun i hi=>?_⟩
 rw[List.length_drop]at hi
 rw[Nat.add_assoc,hc (k+i) (by omega),List.getElem?_drop]
def Or.at0 (f:Int→Int) (l:List Int) (k:Nat):Prop:=k=l.length∨∃x,l[k]?=some x∧f x=0
theorem Or.at0.of {f:Int→Int} {l:List Int} {k:Nat} (h:Or.at0 f l k):Or.of f l=Or.of f (l.take k)++Or.of f (l.drop k):=by
 rcases h with rfl|⟨x,hx,h0⟩
 · rw[List.take_length,List.drop_length];simp[Or.of,Or.iter]
 · obtain⟨h1,h2⟩:=List.getElem?_eq_some_iff.1 hx
   rw[List.drop_eq_getElem_cons h1,h2,←Or.of_cut (by omega),←h2,←List.drop_eq_getElem_cons h1,List.take_append_drop]
theorem Or.at0.in {f:Int→Int} {l:List Int} {k:Nat} (h:Or.at0 f l k):Or.inB f 0 l=(Or.inB f 0 (l.take k)&&Or.inB f 0 (l.drop k)):=by
 rcases h with rfl|⟨x,hx,h0⟩
 · rw[List.take_length,List.drop_length];simp[Or.inB]
 · obtain⟨h1,h2⟩:=List.getElem?_eq_some_iff.1 hx
   have hd:l.drop k=x::l.drop (k+1):=by rw[List.drop_eq_getElem_cons h1,h2]
   conv=>lhs;rw[←List.take_append_drop k l,hd,Or.inB_cut (by omega)]
   rw[hd]
   conv=>rhs;rhs;unfold Or.inB
   rw[if_neg (by omega)]
end Go.Proofs.YtbeakahjbkdeiaaGreatDoor
