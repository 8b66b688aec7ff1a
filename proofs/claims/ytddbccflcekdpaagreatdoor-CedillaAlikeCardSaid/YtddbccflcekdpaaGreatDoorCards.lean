/-
  DERIVED. GIVEN WITH THE SEED: THE CARDS: each row of YtddbccflcekdpaaGreatDoorRows.lean that lists a variable, with what it lists TIED to the program's text (the seventh form; the later family's looks); each row that meets fmt, with fmt's text TOLD by the authors' own Lean function (tested against real Go, not proved from fmt's source: count such statements apart). THE CARD IS WHAT COUNTS. Prove the row's statement (the work); the ties are given (YtddbccflcekdpaaGreatDoorTie.lean); close each card by the builder's one call (the guide's Derived/Test/ToyasCard.lean, 'card_holds'). Laid BY PROGRAM, IN A SANDBOX (cutbox-door.mjs). By AI agents, Wed Nov 11 2026. No macro, syntax, notation, axiom, sorry.
-/
import Derived.Test.YtddbccflcekdpaaGreatDoorRows
import GoSem.ClaimSeven
namespace Go.Proofs.YtddbccflcekdpaaGreatDoor
namespace Rows

/-- THE TIED CARD OF 'cedillatop.CedillaUnique'. -/
def cedillaUniqueCard : Claim7 := { stood := { row := cedillaUniqueRow, standIns := [], harness := (true, "6a2ef261cf9fe9e7516e2ae0180b72fa4d2c2caa74da6375ccc686f418922356"), looks := true }, kinds := [], alts := [], laidByText := true, laidKinds := [.data, .data, .data, .data, .sentinel, .sentinel, .data, .pinned], laidTests := true, laidLooks := .later }
def CedillaUniqueCardSaid : Prop := Claim7.holds Tryz.pinned (.plain (OpenSpec.ofChange cedillaUniqueSpec)) cedillaUniqueCard

/-- THE TIED CARD OF 'cedillalaw19.QuickTells'. -/
def quickTellsCard : Claim7 := { stood := { row := quickTellsRow, standIns := [], harness := (true, "6a2ef261cf9fe9e7516e2ae0180b72fa4d2c2caa74da6375ccc686f418922356"), looks := true }, kinds := [], alts := [], laidByText := true, laidKinds := [.data, .data, .data, .data, .sentinel, .sentinel, .data, .pinned, .pinned], laidTests := true, laidLooks := .later }
def QuickTellsCardSaid : Prop := Claim7.holds Tryz.pinned (.plain (OpenSpec.ofChange quickTellsSpec)) quickTellsCard

/-- THE TIED CARD OF 'cedillalaw19.QuickAlone'. -/
def quickAloneCard : Claim7 := { stood := { row := quickAloneRow, standIns := [], harness := (true, "6a2ef261cf9fe9e7516e2ae0180b72fa4d2c2caa74da6375ccc686f418922356"), looks := true }, kinds := [], alts := [], laidByText := true, laidKinds := [.data, .data, .data, .data, .sentinel, .sentinel, .data, .pinned, .pinned], laidTests := true, laidLooks := .later }
def QuickAloneCardSaid : Prop := Claim7.holds Tryz.pinned (.plain (OpenSpec.ofChange quickAloneSpec)) quickAloneCard

/-- THE TIED CARD OF 'cedillalaw19.QuickSound'. -/
def quickSoundCard : Claim7 := { stood := { row := quickSoundRow, standIns := [], harness := (true, "6a2ef261cf9fe9e7516e2ae0180b72fa4d2c2caa74da6375ccc686f418922356"), looks := true }, kinds := [], alts := [], laidByText := true, laidKinds := [.data, .data, .data, .data, .sentinel, .sentinel, .data, .pinned, .pinned], laidTests := true, laidLooks := .later }
def QuickSoundCardSaid : Prop := Claim7.holds Tryz.pinned (.plain (OpenSpec.ofChange quickSoundSpec)) quickSoundCard

/-- THE TIED CARD OF 'cedillatop.CedillaJoins'. -/
def cedillaJoinsCard : Claim7 := { stood := { row := cedillaJoinsRow, standIns := [], harness := (true, "6a2ef261cf9fe9e7516e2ae0180b72fa4d2c2caa74da6375ccc686f418922356"), looks := true }, kinds := [], alts := [], laidByText := true, laidKinds := [.data, .data, .data, .data, .sentinel, .sentinel, .data, .pinned], laidTests := true, laidLooks := .later }
def CedillaJoinsCardSaid : Prop := Claim7.holds Tryz.pinned (.plain (OpenSpec.ofChange cedillaJoinsSpec)) cedillaJoinsCard

/-- THE TIED CARD OF 'cedillatop.CedillaForms'. -/
def cedillaFormsCard : Claim7 := { stood := { row := cedillaFormsRow, standIns := [], harness := (true, "6a2ef261cf9fe9e7516e2ae0180b72fa4d2c2caa74da6375ccc686f418922356"), looks := true }, kinds := [], alts := [], laidByText := true, laidKinds := [.data, .data, .data, .data, .sentinel, .sentinel, .data, .pinned], laidTests := true, laidLooks := .later }
def CedillaFormsCardSaid : Prop := Claim7.holds Tryz.pinned (.plain (OpenSpec.ofChange cedillaFormsSpec)) cedillaFormsCard

/-- THE TIED CARD OF 'cedillatop.CedillaQuick'. -/
def cedillaQuickCard : Claim7 := { stood := { row := cedillaQuickRow, standIns := [], harness := (true, "6a2ef261cf9fe9e7516e2ae0180b72fa4d2c2caa74da6375ccc686f418922356"), looks := true }, kinds := [], alts := [], laidByText := true, laidKinds := [.data, .data, .data, .data, .sentinel, .sentinel, .data, .pinned], laidTests := true, laidLooks := .later }
def CedillaQuickCardSaid : Prop := Claim7.holds Tryz.pinned (.plain (OpenSpec.ofChange cedillaQuickSpec)) cedillaQuickCard

/-- THE TIED CARD OF 'cedillatop.CedillaAlike'. -/
def cedillaAlikeCard : Claim7 := { stood := { row := cedillaAlikeRow, standIns := [], harness := (true, "6a2ef261cf9fe9e7516e2ae0180b72fa4d2c2caa74da6375ccc686f418922356"), looks := true }, kinds := [], alts := [], laidByText := true, laidKinds := [.data, .data, .data, .data, .sentinel, .sentinel, .data, .pinned], laidTests := true, laidLooks := .later }
def CedillaAlikeCardSaid : Prop := Claim7.holds Tryz.pinned (.plain (OpenSpec.ofChange cedillaAlikeSpec)) cedillaAlikeCard

/-- THE SECOND FORM's CARD OF 'cedillatop.CedillaUnique'. -/
def cedillaUniqueUptoCard : Claim7 := { stood := { row := cedillaUniqueUptoRow, standIns := [], harness := (true, "6a2ef261cf9fe9e7516e2ae0180b72fa4d2c2caa74da6375ccc686f418922356"), looks := true }, kinds := [], alts := [], laidByText := true, laidKinds := [.data, .data, .data, .data, .sentinel, .sentinel, .data, .pinned], laidTests := true, laidLooks := .later }
def CedillaUniqueUptoCardSaid : Prop := Claim7.holds Tryz.pinned (.plain (OpenSpec.upto cedillaUniqueSpec)) cedillaUniqueUptoCard

/-- THE SECOND FORM's CARD OF 'cedillalaw19.QuickTells'. -/
def quickTellsUptoCard : Claim7 := { stood := { row := quickTellsUptoRow, standIns := [], harness := (true, "6a2ef261cf9fe9e7516e2ae0180b72fa4d2c2caa74da6375ccc686f418922356"), looks := true }, kinds := [], alts := [], laidByText := true, laidKinds := [.data, .data, .data, .data, .sentinel, .sentinel, .data, .pinned, .pinned], laidTests := true, laidLooks := .later }
def QuickTellsUptoCardSaid : Prop := Claim7.holds Tryz.pinned (.plain (OpenSpec.upto quickTellsSpec)) quickTellsUptoCard

/-- THE SECOND FORM's CARD OF 'cedillalaw19.QuickAlone'. -/
def quickAloneUptoCard : Claim7 := { stood := { row := quickAloneUptoRow, standIns := [], harness := (true, "6a2ef261cf9fe9e7516e2ae0180b72fa4d2c2caa74da6375ccc686f418922356"), looks := true }, kinds := [], alts := [], laidByText := true, laidKinds := [.data, .data, .data, .data, .sentinel, .sentinel, .data, .pinned, .pinned], laidTests := true, laidLooks := .later }
def QuickAloneUptoCardSaid : Prop := Claim7.holds Tryz.pinned (.plain (OpenSpec.upto quickAloneSpec)) quickAloneUptoCard

/-- THE SECOND FORM's CARD OF 'cedillalaw19.QuickSound'. -/
def quickSoundUptoCard : Claim7 := { stood := { row := quickSoundUptoRow, standIns := [], harness := (true, "6a2ef261cf9fe9e7516e2ae0180b72fa4d2c2caa74da6375ccc686f418922356"), looks := true }, kinds := [], alts := [], laidByText := true, laidKinds := [.data, .data, .data, .data, .sentinel, .sentinel, .data, .pinned, .pinned], laidTests := true, laidLooks := .later }
def QuickSoundUptoCardSaid : Prop := Claim7.holds Tryz.pinned (.plain (OpenSpec.upto quickSoundSpec)) quickSoundUptoCard

/-- THE SECOND FORM's CARD OF 'cedillatop.CedillaJoins'. -/
def cedillaJoinsUptoCard : Claim7 := { stood := { row := cedillaJoinsUptoRow, standIns := [], harness := (true, "6a2ef261cf9fe9e7516e2ae0180b72fa4d2c2caa74da6375ccc686f418922356"), looks := true }, kinds := [], alts := [], laidByText := true, laidKinds := [.data, .data, .data, .data, .sentinel, .sentinel, .data, .pinned], laidTests := true, laidLooks := .later }
def CedillaJoinsUptoCardSaid : Prop := Claim7.holds Tryz.pinned (.plain (OpenSpec.upto cedillaJoinsSpec)) cedillaJoinsUptoCard

/-- THE SECOND FORM's CARD OF 'cedillatop.CedillaForms'. -/
def cedillaFormsUptoCard : Claim7 := { stood := { row := cedillaFormsUptoRow, standIns := [], harness := (true, "6a2ef261cf9fe9e7516e2ae0180b72fa4d2c2caa74da6375ccc686f418922356"), looks := true }, kinds := [], alts := [], laidByText := true, laidKinds := [.data, .data, .data, .data, .sentinel, .sentinel, .data, .pinned], laidTests := true, laidLooks := .later }
def CedillaFormsUptoCardSaid : Prop := Claim7.holds Tryz.pinned (.plain (OpenSpec.upto cedillaFormsSpec)) cedillaFormsUptoCard

/-- THE SECOND FORM's CARD OF 'cedillatop.CedillaQuick'. -/
def cedillaQuickUptoCard : Claim7 := { stood := { row := cedillaQuickUptoRow, standIns := [], harness := (true, "6a2ef261cf9fe9e7516e2ae0180b72fa4d2c2caa74da6375ccc686f418922356"), looks := true }, kinds := [], alts := [], laidByText := true, laidKinds := [.data, .data, .data, .data, .sentinel, .sentinel, .data, .pinned], laidTests := true, laidLooks := .later }
def CedillaQuickUptoCardSaid : Prop := Claim7.holds Tryz.pinned (.plain (OpenSpec.upto cedillaQuickSpec)) cedillaQuickUptoCard

/-- THE SECOND FORM's CARD OF 'cedillatop.CedillaAlike'. -/
def cedillaAlikeUptoCard : Claim7 := { stood := { row := cedillaAlikeUptoRow, standIns := [], harness := (true, "6a2ef261cf9fe9e7516e2ae0180b72fa4d2c2caa74da6375ccc686f418922356"), looks := true }, kinds := [], alts := [], laidByText := true, laidKinds := [.data, .data, .data, .data, .sentinel, .sentinel, .data, .pinned], laidTests := true, laidLooks := .later }
def CedillaAlikeUptoCardSaid : Prop := Claim7.holds Tryz.pinned (.plain (OpenSpec.upto cedillaAlikeSpec)) cedillaAlikeUptoCard
end Rows
end Go.Proofs.YtddbccflcekdpaaGreatDoor
