/- What is laid in the variables of the library: for rows, and for characters. -/
import Derived.Test.YtdbpjmfflofadaaGreatDoorRwParse
set_option linter.unusedVariables false
set_option linter.unusedSimpArgs false
namespace Go.Proofs.YtdbpjmfflofadaaGreatDoor
open Go.RowKit
def Nf.Laid (w:World):Prop:=Rw.Laid w∧Heads w
theorem Nf.Laid.next {w w':World} (h:Nf.Laid w) (hb:Below w.heap.size w w'):Nf.Laid w':=⟨h.1.next hb,h.2.next hb⟩
end Go.Proofs.YtdbpjmfflofadaaGreatDoor
