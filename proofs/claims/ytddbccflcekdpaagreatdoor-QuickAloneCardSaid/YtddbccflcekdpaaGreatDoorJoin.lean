/- strings.Join of a slice that is read. -/
import Derived.Test.YtddbccflcekdpaaGreatDoorNcJoin2
import Derived.Test.YtddbccflcekdpaaGreatDoorShelf
set_option linter.unusedVariables false
set_option linter.unusedSimpArgs false
namespace Go.Proofs.YtddbccflcekdpaaGreatDoor
open Go.RowKit Go.Stop
theorem Jn.len (sep:List UInt8) (M:Nat):∀xs:List (List UInt8),(∀x∈xs,x.length≤M)→(Lib.join xs sep).length≤xs.length*(M+sep.length)
 | [],_=>by rw[Lib.join_nil];simp
 | x::r,h=>by
   rw[Lib.join_cons,Zd];have h1:=h x (by simp)
   have h2:∀r:List (List UInt8),(∀x∈r,x.length≤M)→(Lib.joinTail sep r).length≤r.length*(M+sep.length):=by
    intro r
    induction r with
    | nil=>intro _;simp[Lib.joinTail]
    | cons y t ih =>
      intro hy;have h3:=ih (fun z hz=>hy z (by simp[hz]));have h4:=hy y (by simp);simp only[Lib.joinTail,Z1,Y7,Zd,ZE]at h3 ⊢;rw[Nat.succ_mul];omega
   have h5:=h2 r (fun z hz=>h z (by simp[hz]));rw[ZE,Nat.succ_mul];omega
theorem Jn.any (A:Option Addr) (c B n:Nat) (xs:List ByteArray) (sep:ByteArray) (w:World) (hn:xs.length=n) (h0:0<n) (hB:B≤w.heap.size) (hA:Sl w B A (xs.map Value.string)) (hc:n≤c) (hN:n≤1000000) (hl:∀x∈xs,x.size≤10000) (ae:sep.size≤10) :
 Calls Tryz.prog 66 #[.slice A n c,.string sep] w fun e w'=>e=.returned (.string ⟨(Lib.join (xs.map (·.data.toList)) sep.data.toList).toArray⟩)∧Below w.heap.size w w':=by
 subst hn;obtain⟨b,o,rfl,hb,hcell⟩:=hA (by rw[Ze];exact h0)
 have hlen:=Jn.len sep.data.toList 10000 (xs.map (·.data.toList)) (fun x hx=>by
  obtain⟨y,hy,rfl⟩:=List.mem_map.1 hx;have:=hl y hy;simpa using this)
 have aa:sep.data.toList.length=sep.size:=by simp
 rw[Ze,aa]at hlen;have:xs.length*(10000+sep.size)≤1000000*10010:=Nat.mul_le_mul hN (by omega);refine (Tryz.strings_Join b o c xs sep w ?_ (by omega) (by omega) hc (by omega));intro j x hx;have hj:=(List.getElem?_eq_some_iff.1 hx).1;rw[hcell j (by rw[Ze];exact hj),Zs,hx];rfl
end Go.Proofs.YtddbccflcekdpaaGreatDoor
