/-
  NARROWER THAN 'FOR EVERY INPUT', by the rows' own cells (each row's printed sentence says how): UtfEnds: laid · UtfJoins: laid · UtfCompares: laid · UtfDecodes: laid · UtfEncodes: laid.
  DERIVED. THE GIVEN ROWS OF THIS SEAT. 5 by the template 'for every input the law returns true; each argument reads behind the call as it read before'; 0 by the template 'total and deterministic' (their statements: YthikoangkdlebaaDoorTotals.lean).
  GIVEN WITH THE SEED: the statements are not yours to turn. If you find one false, say at which input.
  Laid BY PROGRAM, IN A SANDBOX (cutbox-rows.mjs): the forced cells as the released guide's own fill.sh prints them over the translation a50eea3bbf33c10f… (all of the seat's roots in one cut). By AI agents, Wed Nov 11 2026. No macro, syntax, notation, axiom, sorry.
-/
import Derived.Test.YthikoangkdlebaaDoorChecked
import GoSem.Claim
import GoSem.ClaimJoined
import GoSem.ClaimMapViews
import Derived.JoinedTies
import Derived.KernelRfl
namespace Go.Proofs.YthikoangkdlebaaDoor
/- THE CELL 'sum', in the pinned program and in every row, IS THE sha256 OF THE DUMP (.gsa) THAT YthikoangkdlebaaDoorProg.lean LOADS. Nothing in Lean hashes anything: it is a label: what it is worth is what the hold of that sum in a sandbox is worth. -/
noncomputable def Tryd.pinned : Pinned := { name := "ythikoangkdlebaadoor", sum := "a50eea3bbf33c10fd9934eafc15f18e73e64ed0788b1ffda620d12b0355d9741", checked := Tryd.checked }
namespace Rows
def none {H : Type} : Left H := { results := [], args := [] }

/- WHAT THE LISTED PACKAGE-LEVEL VARIABLES READ AS WHEN THE CALL BEGINS. Each datum BY PROGRAM (the guide's laid-datum.mjs) off the statement by which the dump's own 'gosem.cut.vars' lays the variable. In a bare row this is a premise. The card (YthikoangkdlebaaDoorCards.lean) ties it to the program's text. -/
def laid_cedilla_utf_heads {H : Type} : DataW H := .agg [.agg [.lit (.int .u8 0), .lit (.int .u8 127), .lit (.int .i32 0)], .agg [.lit (.int .u8 192), .lit (.int .u8 31), .lit (.int .i32 128)], .agg [.lit (.int .u8 224), .lit (.int .u8 15), .lit (.int .i32 2048)], .agg [.lit (.int .u8 240), .lit (.int .u8 7), .lit (.int .i32 65536)]]

/-- 'cedillalaw05.UtfEnds': WHATEVER THE INPUT: true; the input reads as it did. -/
def utfEndsSpec : ChangeSpec := { name := "utfEnds", fn := fun _ => fun
  | [d] => { results := [.lit (.bool true)], args := [d] }
  | _ => none }
def utfEndsRow : OpenClaim := { program := "ythikoangkdlebaadoor", sum := "a50eea3bbf33c10fd9934eafc15f18e73e64ed0788b1ffda620d12b0355d9741", func := "cedilla/cedillalaw05.UtfEnds", spec := "utfEnds", named := ["cedilla/utf.heads"], apart := false, laid := [("cedilla/utf.heads", laid_cedilla_utf_heads)] }
def UtfEndsSaid : Prop := utfEndsRow.holds Tryd.pinned (OpenSpec.ofChange utfEndsSpec)

/-- ITS FALSE NEIGHBOUR: 'it returns false'. Refute it at one input. -/
def utfEndsWrong : ChangeSpec := { name := "utfEnds", fn := fun _ => fun
  | [d] => { results := [.lit (.bool false)], args := [d] }
  | _ => none }
def UtfEndsWrongFalsely : Prop := utfEndsRow.holds Tryd.pinned (OpenSpec.ofChange utfEndsWrong)

/-- 'cedillalaw05.UtfJoins': WHATEVER THE INPUT: true; the input reads as it did. -/
def utfJoinsSpec : ChangeSpec := { name := "utfJoins", fn := fun _ => fun
  | [d1, d2] => { results := [.lit (.bool true)], args := [d1, d2] }
  | _ => none }
def utfJoinsRow : OpenClaim := { program := "ythikoangkdlebaadoor", sum := "a50eea3bbf33c10fd9934eafc15f18e73e64ed0788b1ffda620d12b0355d9741", func := "cedilla/cedillalaw05.UtfJoins", spec := "utfJoins", named := ["cedilla/utf.heads"], apart := false, laid := [("cedilla/utf.heads", laid_cedilla_utf_heads)] }
def UtfJoinsSaid : Prop := utfJoinsRow.holds Tryd.pinned (OpenSpec.ofChange utfJoinsSpec)

/-- ITS FALSE NEIGHBOUR: 'it returns false'. Refute it at one input. -/
def utfJoinsWrong : ChangeSpec := { name := "utfJoins", fn := fun _ => fun
  | [d1, d2] => { results := [.lit (.bool false)], args := [d1, d2] }
  | _ => none }
def UtfJoinsWrongFalsely : Prop := utfJoinsRow.holds Tryd.pinned (OpenSpec.ofChange utfJoinsWrong)

/-- 'cedillalaw05.UtfCompares': WHATEVER THE INPUT: true; the input reads as it did. -/
def utfComparesSpec : ChangeSpec := { name := "utfCompares", fn := fun _ => fun
  | [d1, d2] => { results := [.lit (.bool true)], args := [d1, d2] }
  | _ => none }
def utfComparesRow : OpenClaim := { program := "ythikoangkdlebaadoor", sum := "a50eea3bbf33c10fd9934eafc15f18e73e64ed0788b1ffda620d12b0355d9741", func := "cedilla/cedillalaw05.UtfCompares", spec := "utfCompares", inPlace := ["internal/bytealg.abigen_runtime_cmpstring"], named := ["cedilla/utf.heads"], apart := false, laid := [("cedilla/utf.heads", laid_cedilla_utf_heads)] }
def UtfComparesSaid : Prop := utfComparesRow.holds Tryd.pinned (OpenSpec.ofChange utfComparesSpec)

/-- ITS FALSE NEIGHBOUR: 'it returns false'. Refute it at one input. -/
def utfComparesWrong : ChangeSpec := { name := "utfCompares", fn := fun _ => fun
  | [d1, d2] => { results := [.lit (.bool false)], args := [d1, d2] }
  | _ => none }
def UtfComparesWrongFalsely : Prop := utfComparesRow.holds Tryd.pinned (OpenSpec.ofChange utfComparesWrong)

/-- 'cedillalaw05.UtfDecodes': WHATEVER THE INPUT: true; the input reads as it did. -/
def utfDecodesSpec : ChangeSpec := { name := "utfDecodes", fn := fun _ => fun
  | [d] => { results := [.lit (.bool true)], args := [d] }
  | _ => none }
def utfDecodesRow : OpenClaim := { program := "ythikoangkdlebaadoor", sum := "a50eea3bbf33c10fd9934eafc15f18e73e64ed0788b1ffda620d12b0355d9741", func := "cedilla/cedillalaw05.UtfDecodes", spec := "utfDecodes", named := ["cedilla/utf.heads"], apart := false, laid := [("cedilla/utf.heads", laid_cedilla_utf_heads)] }
def UtfDecodesSaid : Prop := utfDecodesRow.holds Tryd.pinned (OpenSpec.ofChange utfDecodesSpec)

/-- ITS FALSE NEIGHBOUR: 'it returns false'. Refute it at one input. -/
def utfDecodesWrong : ChangeSpec := { name := "utfDecodes", fn := fun _ => fun
  | [d] => { results := [.lit (.bool false)], args := [d] }
  | _ => none }
def UtfDecodesWrongFalsely : Prop := utfDecodesRow.holds Tryd.pinned (OpenSpec.ofChange utfDecodesWrong)

/-- 'cedillalaw05.UtfEncodes': WHATEVER THE INPUT: true; the input reads as it did. -/
def utfEncodesSpec : ChangeSpec := { name := "utfEncodes", fn := fun _ => fun
  | [d] => { results := [.lit (.bool true)], args := [d] }
  | _ => none }
def utfEncodesRow : OpenClaim := { program := "ythikoangkdlebaadoor", sum := "a50eea3bbf33c10fd9934eafc15f18e73e64ed0788b1ffda620d12b0355d9741", func := "cedilla/cedillalaw05.UtfEncodes", spec := "utfEncodes", named := ["cedilla/utf.heads"], apart := false, laid := [("cedilla/utf.heads", laid_cedilla_utf_heads)] }
def UtfEncodesSaid : Prop := utfEncodesRow.holds Tryd.pinned (OpenSpec.ofChange utfEncodesSpec)

/-- ITS FALSE NEIGHBOUR: 'it returns false'. Refute it at one input. -/
def utfEncodesWrong : ChangeSpec := { name := "utfEncodes", fn := fun _ => fun
  | [d] => { results := [.lit (.bool false)], args := [d] }
  | _ => none }
def UtfEncodesWrongFalsely : Prop := utfEncodesRow.holds Tryd.pinned (OpenSpec.ofChange utfEncodesWrong)

/- THE SECOND FORM. 'bulk': how many values and letters a reading holds, each counted each time it is reached (what is shared counts as often as it is met; a slice's spare places count too). A statement '..UptoSaid' is the law's where the arguments, and the package variables that the reading takes, are together of bulk at most 1048576: NARROWER than '..Said'. Prove '..Said' where nothing that the law and all that it calls make is longer than what came in: it says more and counts as full. Else prove '..UptoSaid'. A law counts once. -/
mutual
def uptoBulk {H : Type} : DataW H → Nat
  | .lit (.string bytes) => bytes.length + 1
  | .lit _ => 1
  | .nil => 1
  | .ptr d => uptoBulk d + 1
  | .slice elems spare => uptoBulkAll elems + uptoBulkAll spare + 1
  | .agg parts => uptoBulkAll parts + 1
  | .iface _ d => uptoBulk d + 1
  | .map entries => uptoBulkEntries entries + 1
  | .held _ => 1
def uptoBulkAll {H : Type} : List (DataW H) → Nat
  | [] => 0
  | d :: r => uptoBulk d + uptoBulkAll r
def uptoBulkEntries {H : Type} : List (Lit × DataW H) → Nat
  | [] => 0
  | x :: r => uptoBulkEntry x + uptoBulkEntries r
def uptoBulkEntry {H : Type} : Lit × DataW H → Nat
  | (.string bytes, d) => bytes.length + uptoBulk d + 1
  | (_, d) => uptoBulk d + 1
 end
def uptoSmall : (H : Type) → List (DataW H) → Bool := fun _ ds => decide (uptoBulkAll ds ≤ 1048576)
def OpenSpec.upto (s : _root_.Go.ChangeSpec) : _root_.Go.OpenSpec := { _root_.Go.OpenSpec.ofChange s with cond := some uptoSmall }

/-- 'cedillalaw05.UtfEnds', WHERE WHAT IT READS IS OF BULK AT MOST 1048576: true; the input reads as it did. -/
def utfEndsUptoRow : OpenClaim := { program := "ythikoangkdlebaadoor", sum := "a50eea3bbf33c10fd9934eafc15f18e73e64ed0788b1ffda620d12b0355d9741", func := "cedilla/cedillalaw05.UtfEnds", spec := "utfEnds", named := ["cedilla/utf.heads"], apart := false, laid := [("cedilla/utf.heads", laid_cedilla_utf_heads)], narrowed := true }
def UtfEndsUptoSaid : Prop := utfEndsUptoRow.holds Tryd.pinned (OpenSpec.upto utfEndsSpec)

/-- 'cedillalaw05.UtfJoins', WHERE WHAT IT READS IS OF BULK AT MOST 1048576: true; the input reads as it did. -/
def utfJoinsUptoRow : OpenClaim := { program := "ythikoangkdlebaadoor", sum := "a50eea3bbf33c10fd9934eafc15f18e73e64ed0788b1ffda620d12b0355d9741", func := "cedilla/cedillalaw05.UtfJoins", spec := "utfJoins", named := ["cedilla/utf.heads"], apart := false, laid := [("cedilla/utf.heads", laid_cedilla_utf_heads)], narrowed := true }
def UtfJoinsUptoSaid : Prop := utfJoinsUptoRow.holds Tryd.pinned (OpenSpec.upto utfJoinsSpec)

/-- 'cedillalaw05.UtfCompares', WHERE WHAT IT READS IS OF BULK AT MOST 1048576: true; the input reads as it did. -/
def utfComparesUptoRow : OpenClaim := { program := "ythikoangkdlebaadoor", sum := "a50eea3bbf33c10fd9934eafc15f18e73e64ed0788b1ffda620d12b0355d9741", func := "cedilla/cedillalaw05.UtfCompares", spec := "utfCompares", inPlace := ["internal/bytealg.abigen_runtime_cmpstring"], named := ["cedilla/utf.heads"], apart := false, laid := [("cedilla/utf.heads", laid_cedilla_utf_heads)], narrowed := true }
def UtfComparesUptoSaid : Prop := utfComparesUptoRow.holds Tryd.pinned (OpenSpec.upto utfComparesSpec)

/-- 'cedillalaw05.UtfDecodes', WHERE WHAT IT READS IS OF BULK AT MOST 1048576: true; the input reads as it did. -/
def utfDecodesUptoRow : OpenClaim := { program := "ythikoangkdlebaadoor", sum := "a50eea3bbf33c10fd9934eafc15f18e73e64ed0788b1ffda620d12b0355d9741", func := "cedilla/cedillalaw05.UtfDecodes", spec := "utfDecodes", named := ["cedilla/utf.heads"], apart := false, laid := [("cedilla/utf.heads", laid_cedilla_utf_heads)], narrowed := true }
def UtfDecodesUptoSaid : Prop := utfDecodesUptoRow.holds Tryd.pinned (OpenSpec.upto utfDecodesSpec)

/-- 'cedillalaw05.UtfEncodes', WHERE WHAT IT READS IS OF BULK AT MOST 1048576: true; the input reads as it did. -/
def utfEncodesUptoRow : OpenClaim := { program := "ythikoangkdlebaadoor", sum := "a50eea3bbf33c10fd9934eafc15f18e73e64ed0788b1ffda620d12b0355d9741", func := "cedilla/cedillalaw05.UtfEncodes", spec := "utfEncodes", named := ["cedilla/utf.heads"], apart := false, laid := [("cedilla/utf.heads", laid_cedilla_utf_heads)], narrowed := true }
def UtfEncodesUptoSaid : Prop := utfEncodesUptoRow.holds Tryd.pinned (OpenSpec.upto utfEncodesSpec)

end Rows
end Go.Proofs.YthikoangkdlebaaDoor
