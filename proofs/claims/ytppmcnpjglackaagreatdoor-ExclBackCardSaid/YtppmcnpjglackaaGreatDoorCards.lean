/-
  DERIVED. GIVEN WITH THE SEED: THE CARDS: each row of YtppmcnpjglackaaGreatDoorRows.lean that lists a variable, with what it lists TIED to the program's text (the seventh form; the later family's looks); each row that meets fmt, with fmt's text TOLD by the authors' own Lean function (tested against real Go, not proved from fmt's source: count such statements apart). THE CARD IS WHAT COUNTS. Prove the row's statement (the work); the ties are given (YtppmcnpjglackaaGreatDoorTie.lean); close each card by the builder's one call (the guide's Derived/Test/ToyasCard.lean, 'card_holds'). Laid BY PROGRAM, IN A SANDBOX (cutbox-door.mjs). By AI agents, Wed Nov 11 2026. No macro, syntax, notation, axiom, sorry.
-/
import Derived.Test.YtppmcnpjglackaaGreatDoorRows
import GoSem.ClaimSeven
namespace Go.Proofs.YtppmcnpjglackaaGreatDoor
namespace Rows

/-- THE TIED CARD OF 'cedillalaw09.RowsBack'. -/
def rowsBackCard : Claim7 := { stood := { row := rowsBackRow, standIns := [], harness := (true, "c2c7180db64e31ded1b992d10eaac13f46dfd7a68eed272b49b113fba5a68b7c"), looks := true }, kinds := [], alts := [], laidByText := true, laidKinds := [.data, .data, .data, .data, .sentinel, .sentinel, .pinned, .pinned], laidTests := true, laidLooks := .later }
def RowsBackCardSaid : Prop := Claim7.holds Tryz.pinned (.plain (OpenSpec.ofChange rowsBackSpec)) rowsBackCard

/-- THE TIED CARD OF 'cedillalaw10.ExclBack'. -/
def exclBackCard : Claim7 := { stood := { row := exclBackRow, standIns := [], harness := (true, "c2c7180db64e31ded1b992d10eaac13f46dfd7a68eed272b49b113fba5a68b7c"), looks := true }, kinds := [], alts := [], laidByText := true, laidKinds := [.data, .data, .data, .data, .pinned, .pinned], laidTests := true, laidLooks := .later }
def ExclBackCardSaid : Prop := Claim7.holds Tryz.pinned (.plain (OpenSpec.ofChange exclBackSpec)) exclBackCard

/-- THE SECOND FORM's CARD OF 'cedillalaw09.RowsBack'. -/
def rowsBackUptoCard : Claim7 := { stood := { row := rowsBackUptoRow, standIns := [], harness := (true, "c2c7180db64e31ded1b992d10eaac13f46dfd7a68eed272b49b113fba5a68b7c"), looks := true }, kinds := [], alts := [], laidByText := true, laidKinds := [.data, .data, .data, .data, .sentinel, .sentinel, .pinned, .pinned], laidTests := true, laidLooks := .later }
def RowsBackUptoCardSaid : Prop := Claim7.holds Tryz.pinned (.plain (OpenSpec.upto rowsBackSpec)) rowsBackUptoCard

/-- THE SECOND FORM's CARD OF 'cedillalaw10.ExclBack'. -/
def exclBackUptoCard : Claim7 := { stood := { row := exclBackUptoRow, standIns := [], harness := (true, "c2c7180db64e31ded1b992d10eaac13f46dfd7a68eed272b49b113fba5a68b7c"), looks := true }, kinds := [], alts := [], laidByText := true, laidKinds := [.data, .data, .data, .data, .pinned, .pinned], laidTests := true, laidLooks := .later }
def ExclBackUptoCardSaid : Prop := Claim7.holds Tryz.pinned (.plain (OpenSpec.upto exclBackSpec)) exclBackUptoCard
end Rows
end Go.Proofs.YtppmcnpjglackaaGreatDoor
