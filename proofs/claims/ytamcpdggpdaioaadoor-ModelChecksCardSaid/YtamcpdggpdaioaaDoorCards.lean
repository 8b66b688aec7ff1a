/-
  DERIVED. GIVEN WITH THE SEED: THE CARDS: each row of YtamcpdggpdaioaaDoorRows.lean that lists a variable, with what it lists TIED to the program's text (the seventh form; the later family's looks); each row that meets fmt, with fmt's text TOLD by the authors' own Lean function (tested against real Go, not proved from fmt's source: count such statements apart). THE CARD IS WHAT COUNTS. Prove the row's statement (the work); the ties are given (YtamcpdggpdaioaaDoorTie.lean); close each card by the builder's one call (the guide's Derived/Test/ToyasCard.lean, 'card_holds'). Laid BY PROGRAM, IN A SANDBOX (cutbox-door.mjs). By AI agents, Wed Nov 11 2026. No macro, syntax, notation, axiom, sorry.
-/
import Derived.Test.YtamcpdggpdaioaaDoorRows
import GoSem.ClaimSeven
namespace Go.Proofs.YtamcpdggpdaioaaDoor
namespace Rows

/-- THE TIED CARD OF 'cedillalaw12.ModelLong'. -/
def modelLongCard : Claim7 := { stood := { row := modelLongRow, standIns := [], harness := (true, "f4170bed835aa5b069f012bf0df50df78c594e56585e755f05ee4625f799e640"), looks := true }, kinds := [], alts := [], laidByText := true, laidKinds := [.handle], laidTests := true, laidLooks := .later }
def ModelLongCardSaid : Prop := Claim7.holds Tryd.pinned (.plain (OpenSpec.ofChange modelLongSpec)) modelLongCard

/-- THE TIED CARD OF 'cedillalaw12.ModelChecks'. -/
def modelChecksCard : Claim7 := { stood := { row := modelChecksRow, standIns := [], harness := (true, "f4170bed835aa5b069f012bf0df50df78c594e56585e755f05ee4625f799e640"), looks := true }, kinds := [], alts := [], laidByText := true, laidKinds := [.handle], laidTests := true, laidLooks := .later }
def ModelChecksCardSaid : Prop := Claim7.holds Tryd.pinned (.plain (OpenSpec.ofChange modelChecksSpec)) modelChecksCard

/-- THE SECOND FORM's CARD OF 'cedillalaw12.ModelLong'. -/
def modelLongUptoCard : Claim7 := { stood := { row := modelLongUptoRow, standIns := [], harness := (true, "f4170bed835aa5b069f012bf0df50df78c594e56585e755f05ee4625f799e640"), looks := true }, kinds := [], alts := [], laidByText := true, laidKinds := [.handle], laidTests := true, laidLooks := .later }
def ModelLongUptoCardSaid : Prop := Claim7.holds Tryd.pinned (.plain (OpenSpec.upto modelLongSpec)) modelLongUptoCard

/-- THE SECOND FORM's CARD OF 'cedillalaw12.ModelChecks'. -/
def modelChecksUptoCard : Claim7 := { stood := { row := modelChecksUptoRow, standIns := [], harness := (true, "f4170bed835aa5b069f012bf0df50df78c594e56585e755f05ee4625f799e640"), looks := true }, kinds := [], alts := [], laidByText := true, laidKinds := [.handle], laidTests := true, laidLooks := .later }
def ModelChecksUptoCardSaid : Prop := Claim7.holds Tryd.pinned (.plain (OpenSpec.upto modelChecksSpec)) modelChecksUptoCard
end Rows
end Go.Proofs.YtamcpdggpdaioaaDoor
