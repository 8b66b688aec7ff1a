/- What is laid in the variables of the library. -/
import Derived.Test.YtddbccflcekdpaaGreatDoorNfWhole
import Derived.Test.YtddbccflcekdpaaGreatDoorExPlain
set_option linter.unusedVariables false
set_option linter.unusedSimpArgs false
namespace Go.Proofs.YtddbccflcekdpaaGreatDoor
open Go.Proofs.Tryz
open Go.RowKit
def Nf.Laid (w:World):Prop:=Rw.Laid w∧Heads w
theorem Nf.Laid.next {w w':World} (h:Nf.Laid w) (hb:Below w.heap.size w w'):Nf.Laid w':=⟨h.1.next hb,h.2.next hb⟩
end Go.Proofs.YtddbccflcekdpaaGreatDoor
