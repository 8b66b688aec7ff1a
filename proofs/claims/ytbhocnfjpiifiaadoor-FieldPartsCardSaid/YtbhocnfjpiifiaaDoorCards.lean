/-
  DERIVED. GIVEN WITH THE SEED: THE CARDS: each row of YtbhocnfjpiifiaaDoorRows.lean that lists a variable, with what it lists TIED to the program's text (the seventh form; the later family's looks); each row that meets fmt, with fmt's text TOLD by the authors' own Lean function (tested against real Go, not proved from fmt's source: count such statements apart). THE CARD IS WHAT COUNTS. Prove the row's statement (the work); the ties are given (YtbhocnfjpiifiaaDoorTie.lean); close each card by the builder's one call (the guide's Derived/Test/ToyasCard.lean, 'card_holds'). Laid BY PROGRAM, IN A SANDBOX (cutbox-door.mjs). By AI agents, Wed Nov 11 2026. No macro, syntax, notation, axiom, sorry.
-/
import Derived.Test.YtbhocnfjpiifiaaDoorRows
import GoSem.ClaimSeven
namespace Go.Proofs.YtbhocnfjpiifiaaDoor
namespace Rows

/-- THE TIED CARD OF 'cedillalaw08.FieldHex'. -/
def fieldHexCard : Claim7 := { stood := { row := fieldHexRow, standIns := [], harness := (true, "72b816835aad0a3e5a10d9fa0667c9675c0ff24d9c5488025cfc99281a7b488d"), looks := false }, kinds := [], alts := [], laidByText := true, laidKinds := [.data, .data, .data, .data, .pinned, .pinned], laidTests := true, laidLooks := .later }
def FieldHexCardSaid : Prop := Claim7.holds Tryd.pinned (.plain (OpenSpec.ofChange fieldHexSpec)) fieldHexCard

/-- THE TIED CARD OF 'cedillalaw08.FieldParts'. -/
def fieldPartsCard : Claim7 := { stood := { row := fieldPartsRow, standIns := [], harness := (true, "72b816835aad0a3e5a10d9fa0667c9675c0ff24d9c5488025cfc99281a7b488d"), looks := false }, kinds := [], alts := [], laidByText := true, laidKinds := [.data, .data, .data, .data, .pinned, .pinned], laidTests := true, laidLooks := .later }
def FieldPartsCardSaid : Prop := Claim7.holds Tryd.pinned (.plain (OpenSpec.ofChange fieldPartsSpec)) fieldPartsCard

/-- THE SECOND FORM's CARD OF 'cedillalaw08.FieldHex'. -/
def fieldHexUptoCard : Claim7 := { stood := { row := fieldHexUptoRow, standIns := [], harness := (true, "72b816835aad0a3e5a10d9fa0667c9675c0ff24d9c5488025cfc99281a7b488d"), looks := false }, kinds := [], alts := [], laidByText := true, laidKinds := [.data, .data, .data, .data, .pinned, .pinned], laidTests := true, laidLooks := .later }
def FieldHexUptoCardSaid : Prop := Claim7.holds Tryd.pinned (.plain (OpenSpec.upto fieldHexSpec)) fieldHexUptoCard

/-- THE SECOND FORM's CARD OF 'cedillalaw08.FieldParts'. -/
def fieldPartsUptoCard : Claim7 := { stood := { row := fieldPartsUptoRow, standIns := [], harness := (true, "72b816835aad0a3e5a10d9fa0667c9675c0ff24d9c5488025cfc99281a7b488d"), looks := false }, kinds := [], alts := [], laidByText := true, laidKinds := [.data, .data, .data, .data, .pinned, .pinned], laidTests := true, laidLooks := .later }
def FieldPartsUptoCardSaid : Prop := Claim7.holds Tryd.pinned (.plain (OpenSpec.upto fieldPartsSpec)) fieldPartsUptoCard
end Rows
end Go.Proofs.YtbhocnfjpiifiaaDoor
