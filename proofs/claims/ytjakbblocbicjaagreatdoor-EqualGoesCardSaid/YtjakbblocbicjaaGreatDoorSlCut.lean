/- Parts of a slice that is read; a row of characters cut at one of class 0. -/
import Derived.Test.YtjakbblocbicjaaGreatDoorNcJoin2
set_option linter.unusedVariables false
set_option linter.unusedSimpArgs false
namespace Go.Proofs.YtjakbblocbicjaaGreatDoor
open Go.RowKit
theorem Sl.takeN {w:World} {B:Nat} {A:Option Addr} {xs:List Value} (h:Sl w B A xs) (k:Nat):Sl w B A (xs.take k):=fun h0=>by
 rw[Zr]at h0;obtain⟨b,o,hA,hb,hc⟩:=h (by omega);refine⟨b,o,hA,hb,fun i hi=>?_⟩;rw[Zr]at hi;rw[hc i (by omega),XZ (by omega)]
theorem Sl.dropN {w:World} {B:Nat} {b o:Nat} {xs:List Value} (h:Sl w B (some ⟨b,o,none⟩) xs) (k:Nat):Sl w B (some ⟨b,o+k,none⟩) (xs.drop k):=fun h0=>by
 rw[ZN]at h0;obtain⟨b',o',hA,hb,hc⟩:=h (by omega);cases hA
 refine⟨b,o+k,rfl,hb,fun i hi=>?_⟩;rw[ZN]at hi;rw[Yn,hc (k+i) (by omega),Xk]
def Or.at0 (f:Int→Int) (l:List Int) (k:Nat):Prop:=k=l.length∨∃x,l[k]?=some x∧f x=0
theorem Or.at0.of {f:Int→Int} {l:List Int} {k:Nat} (h:Or.at0 f l k):Or.of f l=Or.of f (l.take k)++Or.of f (l.drop k):=by
 rcases h with rfl|⟨x,hx,h0⟩
 · rw[QV,J6];simp[Or.of,zBq]
 obtain⟨h1,h2⟩:=List.getElem?_eq_some_iff.1 hx;rw[ZR h1,h2,←zLB (by omega),←h2,←ZR h1,ZI]
theorem zSU {f:Int→Int} {l:List Int} {k:Nat} (h:Or.at0 f l k):Or.inB f 0 l=(Or.inB f 0 (l.take k)&&Or.inB f 0 (l.drop k)):=by
 rcases h with rfl|⟨x,hx,h0⟩
 · rw[QV,J6];simp[Or.inB]
 obtain⟨h1,h2⟩:=List.getElem?_eq_some_iff.1 hx;have hd:l.drop k=x::l.drop (k+1):=by rw[ZR h1,h2]
 conv=>lhs;rw[←ZI k l,hd,zDA (by omega)]
 rw[hd]
 conv=>rhs;rhs;unfold Or.inB
 rw[Zk (by omega)]
end Go.Proofs.YtjakbblocbicjaaGreatDoor
