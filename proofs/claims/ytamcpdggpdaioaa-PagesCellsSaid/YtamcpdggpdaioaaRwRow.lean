/- A row, in plain words: its character, its class, its mapping. -/
import Derived.Test.YtamcpdggpdaioaaLib
namespace Go.Proofs.Ytamcpdggpdaioaa
abbrev Rw.Row := Int × Int × List Int
end Go.Proofs.Ytamcpdggpdaioaa
