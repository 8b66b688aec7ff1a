/-
  DERIVED. GIVEN WITH THE SEED: THE CARDS: each row of YtppmcnpjglackaaDoorRows.lean that lists a variable, with what it lists TIED to the program's text (the seventh form; the later family's looks); each row that meets fmt, with fmt's text TOLD by the authors' own Lean function (tested against real Go, not proved from fmt's source: count such statements apart). THE CARD IS WHAT COUNTS. Prove the row's statement (the work); the ties are given (YtppmcnpjglackaaDoorTie.lean); close each card by the builder's one call (the guide's Derived/Test/ToyasCard.lean, 'card_holds'). Laid BY PROGRAM, IN A SANDBOX (cutbox-door.mjs). By AI agents, Wed Nov 11 2026. No macro, syntax, notation, axiom, sorry.
-/
import Derived.Test.YtppmcnpjglackaaDoorRows
import GoSem.ClaimSeven
namespace Go.Proofs.YtppmcnpjglackaaDoor
namespace Rows

/-- THE TIED CARD OF 'cedillalaw09.RowsPlain'. -/
def rowsPlainCard : Claim7 := { stood := { row := rowsPlainRow, standIns := [], harness := (true, "bc3c526f45c61084b2dbb83292b5d8e6240b46f2b834f9fdec0b3333a0aecdb2"), looks := true }, kinds := [], alts := [], laidByText := true, laidKinds := [.data, .data, .data, .data, .sentinel, .sentinel, .pinned], laidTests := true, laidLooks := .later }
def RowsPlainCardSaid : Prop := Claim7.holds Tryd.pinned (.plain (OpenSpec.ofChange rowsPlainSpec)) rowsPlainCard

/-- THE TIED CARD OF 'cedillalaw10.ExclNotes'. -/
def exclNotesCard : Claim7 := { stood := { row := exclNotesRow, standIns := [], harness := (true, "bc3c526f45c61084b2dbb83292b5d8e6240b46f2b834f9fdec0b3333a0aecdb2"), looks := true }, kinds := [], alts := [], laidByText := true, laidKinds := [.data, .pinned], laidTests := true, laidLooks := .later }
def ExclNotesCardSaid : Prop := Claim7.holds Tryd.pinned (.plain (OpenSpec.ofChange exclNotesSpec)) exclNotesCard

/-- THE SECOND FORM's CARD OF 'cedillalaw09.RowsPlain'. -/
def rowsPlainUptoCard : Claim7 := { stood := { row := rowsPlainUptoRow, standIns := [], harness := (true, "bc3c526f45c61084b2dbb83292b5d8e6240b46f2b834f9fdec0b3333a0aecdb2"), looks := true }, kinds := [], alts := [], laidByText := true, laidKinds := [.data, .data, .data, .data, .sentinel, .sentinel, .pinned], laidTests := true, laidLooks := .later }
def RowsPlainUptoCardSaid : Prop := Claim7.holds Tryd.pinned (.plain (OpenSpec.upto rowsPlainSpec)) rowsPlainUptoCard

/-- THE SECOND FORM's CARD OF 'cedillalaw10.ExclNotes'. -/
def exclNotesUptoCard : Claim7 := { stood := { row := exclNotesUptoRow, standIns := [], harness := (true, "bc3c526f45c61084b2dbb83292b5d8e6240b46f2b834f9fdec0b3333a0aecdb2"), looks := true }, kinds := [], alts := [], laidByText := true, laidKinds := [.data, .pinned], laidTests := true, laidLooks := .later }
def ExclNotesUptoCardSaid : Prop := Claim7.holds Tryd.pinned (.plain (OpenSpec.upto exclNotesSpec)) exclNotesUptoCard
end Rows
end Go.Proofs.YtppmcnpjglackaaDoor
