/- The law UtfEncodes' walk. -/
import Derived.Test.YthngjlllojiacaaGreatDoorPgReg
set_option linter.unusedVariables false
set_option linter.unusedSimpArgs false
namespace Go.Proofs.YthngjlllojiacaaGreatDoor
open Go.RowKit
theorem U.encode_n (A:Option Addr) (cap B:Nat) (l:List Int) (n:Nat) (w:World) (hn:l.length=n) (hB:B≤w.heap.size) (hA:Sl w B A (l.map (Value.int .i32))) (hl:n≤100000000000) (hb:∀c∈l,-2147483648≤c∧c≤2147483647) (hH:Heads w) :
 Calls Tryz.prog 46 #[.slice A n cap] w fun e w'=>e=.returned (.tuple #[.string (zBc l),.int .i64 (zHh l)])∧Below w.heap.size w w':=by
 subst hn;exact zEG A cap B l w hB hA hl hb hH
end Go.Proofs.YthngjlllojiacaaGreatDoor
