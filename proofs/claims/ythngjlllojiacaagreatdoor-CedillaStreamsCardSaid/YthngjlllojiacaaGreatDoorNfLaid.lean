/- What is laid in the variables of the library: for rows, and for characters. -/
import Derived.Test.YthngjlllojiacaaGreatDoorNcWhole
import Derived.Test.YthngjlllojiacaaGreatDoorExPlain
namespace Go.Proofs.YthngjlllojiacaaGreatDoor
open Go.RowKit
set_option linter.unusedSimpArgs false
set_option linter.unusedVariables false
def Nf.Laid (w : World) : Prop := Rw.Laid w ∧ Heads w
theorem Nf.Laid.next {w w' : World} (h : Nf.Laid w) (hb : Below w.heap.size w w') : Nf.Laid w' := ⟨h.1.next hb, h.2.next hb⟩
end Go.Proofs.YthngjlllojiacaaGreatDoor
