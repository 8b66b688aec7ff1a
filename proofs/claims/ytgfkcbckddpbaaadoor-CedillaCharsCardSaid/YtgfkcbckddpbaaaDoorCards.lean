/-
  DERIVED. GIVEN WITH THE SEED: THE CARDS: each row of YtgfkcbckddpbaaaDoorRows.lean that lists a variable, with what it lists TIED to the program's text (the seventh form; the later family's looks); each row that meets fmt, with fmt's text TOLD by the authors' own Lean function (tested against real Go, not proved from fmt's source: count such statements apart). THE CARD IS WHAT COUNTS. Prove the row's statement (the work); the ties are given (YtgfkcbckddpbaaaDoorTie.lean); close each card by the builder's one call (the guide's Derived/Test/ToyasCard.lean, 'card_holds'). Laid BY PROGRAM, IN A SANDBOX (cutbox-door.mjs). By AI agents, Wed Nov 11 2026. No macro, syntax, notation, axiom, sorry.
-/
import Derived.Test.YtgfkcbckddpbaaaDoorRows
import GoSem.ClaimSeven
namespace Go.Proofs.YtgfkcbckddpbaaaDoor
namespace Rows

/-- THE TIED CARD OF 'cedillatop.CedillaNumbers'. -/
def cedillaNumbersCard : Claim7 := { stood := { row := cedillaNumbersRow, standIns := [], harness := (true, "4fe1a630332c2c976ccfc157d2060206bb82ece8ae47c1c8b30ec0c79727eaad"), looks := false }, kinds := [], alts := [], laidByText := true, laidKinds := [.data, .pinned], laidTests := true, laidLooks := .later }
def CedillaNumbersCardSaid : Prop := Claim7.holds Tryd.pinned (.plain (OpenSpec.ofChange cedillaNumbersSpec)) cedillaNumbersCard

/-- THE TIED CARD OF 'cedillatop.CedillaChars'. -/
def cedillaCharsCard : Claim7 := { stood := { row := cedillaCharsRow, standIns := [], harness := (true, "4fe1a630332c2c976ccfc157d2060206bb82ece8ae47c1c8b30ec0c79727eaad"), looks := false }, kinds := [], alts := [], laidByText := true, laidKinds := [.data], laidTests := true, laidLooks := .later }
def CedillaCharsCardSaid : Prop := Claim7.holds Tryd.pinned (.plain (OpenSpec.ofChange cedillaCharsSpec)) cedillaCharsCard

/-- THE SECOND FORM's CARD OF 'cedillatop.CedillaNumbers'. -/
def cedillaNumbersUptoCard : Claim7 := { stood := { row := cedillaNumbersUptoRow, standIns := [], harness := (true, "4fe1a630332c2c976ccfc157d2060206bb82ece8ae47c1c8b30ec0c79727eaad"), looks := false }, kinds := [], alts := [], laidByText := true, laidKinds := [.data, .pinned], laidTests := true, laidLooks := .later }
def CedillaNumbersUptoCardSaid : Prop := Claim7.holds Tryd.pinned (.plain (OpenSpec.upto cedillaNumbersSpec)) cedillaNumbersUptoCard

/-- THE SECOND FORM's CARD OF 'cedillatop.CedillaChars'. -/
def cedillaCharsUptoCard : Claim7 := { stood := { row := cedillaCharsUptoRow, standIns := [], harness := (true, "4fe1a630332c2c976ccfc157d2060206bb82ece8ae47c1c8b30ec0c79727eaad"), looks := false }, kinds := [], alts := [], laidByText := true, laidKinds := [.data], laidTests := true, laidLooks := .later }
def CedillaCharsUptoCardSaid : Prop := Claim7.holds Tryd.pinned (.plain (OpenSpec.upto cedillaCharsSpec)) cedillaCharsUptoCard
end Rows
end Go.Proofs.YtgfkcbckddpbaaaDoor
