/-
  DERIVED. GIVEN WITH THE SEED: THE CARDS: each row of YthcdecncnppjaaaDoorRows.lean that lists a variable, with what it lists TIED to the program's text (the seventh form; the later family's looks); each row that meets fmt, with fmt's text TOLD by the authors' own Lean function (tested against real Go, not proved from fmt's source: count such statements apart). THE CARD IS WHAT COUNTS. Prove the row's statement (the work); the ties are given (YthcdecncnppjaaaDoorTie.lean); close each card by the builder's one call (the guide's Derived/Test/ToyasCard.lean, 'card_holds'). Laid BY PROGRAM, IN A SANDBOX (cutbox-door.mjs). By AI agents, Wed Nov 11 2026. No macro, syntax, notation, axiom, sorry.
-/
import Derived.Test.YthcdecncnppjaaaDoorRows
import GoSem.ClaimSeven
namespace Go.Proofs.YthcdecncnppjaaaDoor
namespace Rows

/-- THE TIED CARD OF 'cedillatop.CedillaNumbers'. -/
def cedillaNumbersCard : Claim7 := { stood := { row := cedillaNumbersRow, standIns := [], harness := (true, "78061e1ae70b297b9886d22ce554b3073c39bfcb7a5cff55d4bd7fa27931369c"), looks := false }, kinds := [], alts := [], laidByText := true, laidKinds := [.data, .pinned], laidTests := true, laidLooks := .later }
def CedillaNumbersCardSaid : Prop := Claim7.holds Tryd.pinned (.plain (OpenSpec.ofChange cedillaNumbersSpec)) cedillaNumbersCard

/-- THE SECOND FORM's CARD OF 'cedillatop.CedillaNumbers'. -/
def cedillaNumbersUptoCard : Claim7 := { stood := { row := cedillaNumbersUptoRow, standIns := [], harness := (true, "78061e1ae70b297b9886d22ce554b3073c39bfcb7a5cff55d4bd7fa27931369c"), looks := false }, kinds := [], alts := [], laidByText := true, laidKinds := [.data, .pinned], laidTests := true, laidLooks := .later }
def CedillaNumbersUptoCardSaid : Prop := Claim7.holds Tryd.pinned (.plain (OpenSpec.upto cedillaNumbersSpec)) cedillaNumbersUptoCard
end Rows
end Go.Proofs.YthcdecncnppjaaaDoor
