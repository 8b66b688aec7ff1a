/-
  DERIVED. GIVEN WITH THE SEED: THE CARDS: each row of YtjakbblocbicjaaGreatDoorRows.lean that lists a variable, with what it lists TIED to the program's text (the seventh form; the later family's looks); each row that meets fmt, with fmt's text TOLD by the authors' own Lean function (tested against real Go, not proved from fmt's source: count such statements apart). THE CARD IS WHAT COUNTS. Prove the row's statement (the work); the ties are given (YtjakbblocbicjaaGreatDoorTie.lean); close each card by the builder's one call (the guide's Derived/Test/ToyasCard.lean, 'card_holds'). Laid BY PROGRAM, IN A SANDBOX (cutbox-door.mjs). By AI agents, Wed Nov 11 2026. No macro, syntax, notation, axiom, sorry.
-/
import Derived.Test.YtjakbblocbicjaaGreatDoorRows
import GoSem.ClaimSeven
namespace Go.Proofs.YtjakbblocbicjaaGreatDoor
namespace Rows

/-- THE TIED CARD OF 'cedillalaw20.SplitUnits'. -/
def splitUnitsCard : Claim7 := { stood := { row := splitUnitsRow, standIns := [], harness := (true, "a74eb48a12a918fcb105f13dbb7086bd52beb21512ad729e4c398f2785545e3e"), looks := true }, kinds := [], alts := [], laidByText := true, laidKinds := [.data, .data, .data, .data, .sentinel, .sentinel, .data, .pinned, .pinned], laidTests := true, laidLooks := .later }
def SplitUnitsCardSaid : Prop := Claim7.holds Tryz.pinned (.plain (OpenSpec.ofChange splitUnitsSpec)) splitUnitsCard

/-- THE TIED CARD OF 'cedillalaw20.SplitTells'. -/
def splitTellsCard : Claim7 := { stood := { row := splitTellsRow, standIns := [], harness := (true, "a74eb48a12a918fcb105f13dbb7086bd52beb21512ad729e4c398f2785545e3e"), looks := true }, kinds := [], alts := [], laidByText := true, laidKinds := [.data, .data, .data, .data, .sentinel, .sentinel, .data, .pinned, .pinned], laidTests := true, laidLooks := .later }
def SplitTellsCardSaid : Prop := Claim7.holds Tryz.pinned (.plain (OpenSpec.ofChange splitTellsSpec)) splitTellsCard

/-- THE TIED CARD OF 'cedillalaw20.SplitJoins'. -/
def splitJoinsCard : Claim7 := { stood := { row := splitJoinsRow, standIns := [], harness := (true, "a74eb48a12a918fcb105f13dbb7086bd52beb21512ad729e4c398f2785545e3e"), looks := true }, kinds := [], alts := [], laidByText := true, laidKinds := [.data, .data, .data, .data, .sentinel, .sentinel, .data, .pinned, .pinned], laidTests := true, laidLooks := .later }
def SplitJoinsCardSaid : Prop := Claim7.holds Tryz.pinned (.plain (OpenSpec.ofChange splitJoinsSpec)) splitJoinsCard

/-- THE TIED CARD OF 'cedillalaw22.EqualGoes'. -/
def equalGoesCard : Claim7 := { stood := { row := equalGoesRow, standIns := [], harness := (true, "a74eb48a12a918fcb105f13dbb7086bd52beb21512ad729e4c398f2785545e3e"), looks := true }, kinds := [], alts := [], laidByText := true, laidKinds := [.data, .data, .data, .data, .sentinel, .sentinel, .data, .pinned, .pinned], laidTests := true, laidLooks := .later }
def EqualGoesCardSaid : Prop := Claim7.holds Tryz.pinned (.plain (OpenSpec.ofChange equalGoesSpec)) equalGoesCard

/-- THE TIED CARD OF 'cedillalaw22.EqualTells'. -/
def equalTellsCard : Claim7 := { stood := { row := equalTellsRow, standIns := [], harness := (true, "a74eb48a12a918fcb105f13dbb7086bd52beb21512ad729e4c398f2785545e3e"), looks := true }, kinds := [], alts := [], laidByText := true, laidKinds := [.data, .data, .data, .data, .sentinel, .sentinel, .data, .pinned, .pinned], laidTests := true, laidLooks := .later }
def EqualTellsCardSaid : Prop := Claim7.holds Tryz.pinned (.plain (OpenSpec.ofChange equalTellsSpec)) equalTellsCard

/-- THE TIED CARD OF 'cedillalaw22.EqualOrder'. -/
def equalOrderCard : Claim7 := { stood := { row := equalOrderRow, standIns := [], harness := (true, "a74eb48a12a918fcb105f13dbb7086bd52beb21512ad729e4c398f2785545e3e"), looks := true }, kinds := [], alts := [], laidByText := true, laidKinds := [.data, .data, .data, .data, .sentinel, .sentinel, .data, .pinned, .pinned], laidTests := true, laidLooks := .later }
def EqualOrderCardSaid : Prop := Claim7.holds Tryz.pinned (.plain (OpenSpec.ofChange equalOrderSpec)) equalOrderCard

/-- THE TIED CARD OF 'cedillalaw18.NfcStays'. -/
def nfcStaysCard : Claim7 := { stood := { row := nfcStaysRow, standIns := [], harness := (true, "a74eb48a12a918fcb105f13dbb7086bd52beb21512ad729e4c398f2785545e3e"), looks := true }, kinds := [], alts := [], laidByText := true, laidKinds := [.data, .data, .data, .data, .sentinel, .sentinel, .data, .pinned, .pinned], laidTests := true, laidLooks := .later }
def NfcStaysCardSaid : Prop := Claim7.holds Tryz.pinned (.plain (OpenSpec.ofChange nfcStaysSpec)) nfcStaysCard

/-- THE TIED CARD OF 'cedillalaw18.NfcBytes'. -/
def nfcBytesCard : Claim7 := { stood := { row := nfcBytesRow, standIns := [], harness := (true, "a74eb48a12a918fcb105f13dbb7086bd52beb21512ad729e4c398f2785545e3e"), looks := true }, kinds := [], alts := [], laidByText := true, laidKinds := [.data, .data, .data, .data, .sentinel, .sentinel, .data, .pinned, .pinned], laidTests := true, laidLooks := .later }
def NfcBytesCardSaid : Prop := Claim7.holds Tryz.pinned (.plain (OpenSpec.ofChange nfcBytesSpec)) nfcBytesCard

/-- THE TIED CARD OF 'cedillalaw18.NfcMakes'. -/
def nfcMakesCard : Claim7 := { stood := { row := nfcMakesRow, standIns := [], harness := (true, "a74eb48a12a918fcb105f13dbb7086bd52beb21512ad729e4c398f2785545e3e"), looks := true }, kinds := [], alts := [], laidByText := true, laidKinds := [.data, .data, .data, .data, .sentinel, .sentinel, .data, .pinned, .pinned], laidTests := true, laidLooks := .later }
def NfcMakesCardSaid : Prop := Claim7.holds Tryz.pinned (.plain (OpenSpec.ofChange nfcMakesSpec)) nfcMakesCard

/-- THE TIED CARD OF 'cedillalaw18.NfcShorter'. -/
def nfcShorterCard : Claim7 := { stood := { row := nfcShorterRow, standIns := [], harness := (true, "a74eb48a12a918fcb105f13dbb7086bd52beb21512ad729e4c398f2785545e3e"), looks := true }, kinds := [], alts := [], laidByText := true, laidKinds := [.data, .data, .data, .data, .sentinel, .sentinel, .data, .pinned, .pinned], laidTests := true, laidLooks := .later }
def NfcShorterCardSaid : Prop := Claim7.holds Tryz.pinned (.plain (OpenSpec.ofChange nfcShorterSpec)) nfcShorterCard

/-- THE TIED CARD OF 'cedillalaw20.SplitParts'. -/
def splitPartsCard : Claim7 := { stood := { row := splitPartsRow, standIns := [], harness := (true, "a74eb48a12a918fcb105f13dbb7086bd52beb21512ad729e4c398f2785545e3e"), looks := true }, kinds := [], alts := [], laidByText := true, laidKinds := [.data, .data, .data, .data, .sentinel, .sentinel, .data, .pinned, .pinned], laidTests := true, laidLooks := .later }
def SplitPartsCardSaid : Prop := Claim7.holds Tryz.pinned (.plain (OpenSpec.ofChange splitPartsSpec)) splitPartsCard

/-- THE SECOND FORM's CARD OF 'cedillalaw20.SplitUnits'. -/
def splitUnitsUptoCard : Claim7 := { stood := { row := splitUnitsUptoRow, standIns := [], harness := (true, "a74eb48a12a918fcb105f13dbb7086bd52beb21512ad729e4c398f2785545e3e"), looks := true }, kinds := [], alts := [], laidByText := true, laidKinds := [.data, .data, .data, .data, .sentinel, .sentinel, .data, .pinned, .pinned], laidTests := true, laidLooks := .later }
def SplitUnitsUptoCardSaid : Prop := Claim7.holds Tryz.pinned (.plain (OpenSpec.upto splitUnitsSpec)) splitUnitsUptoCard

/-- THE SECOND FORM's CARD OF 'cedillalaw20.SplitTells'. -/
def splitTellsUptoCard : Claim7 := { stood := { row := splitTellsUptoRow, standIns := [], harness := (true, "a74eb48a12a918fcb105f13dbb7086bd52beb21512ad729e4c398f2785545e3e"), looks := true }, kinds := [], alts := [], laidByText := true, laidKinds := [.data, .data, .data, .data, .sentinel, .sentinel, .data, .pinned, .pinned], laidTests := true, laidLooks := .later }
def SplitTellsUptoCardSaid : Prop := Claim7.holds Tryz.pinned (.plain (OpenSpec.upto splitTellsSpec)) splitTellsUptoCard

/-- THE SECOND FORM's CARD OF 'cedillalaw20.SplitJoins'. -/
def splitJoinsUptoCard : Claim7 := { stood := { row := splitJoinsUptoRow, standIns := [], harness := (true, "a74eb48a12a918fcb105f13dbb7086bd52beb21512ad729e4c398f2785545e3e"), looks := true }, kinds := [], alts := [], laidByText := true, laidKinds := [.data, .data, .data, .data, .sentinel, .sentinel, .data, .pinned, .pinned], laidTests := true, laidLooks := .later }
def SplitJoinsUptoCardSaid : Prop := Claim7.holds Tryz.pinned (.plain (OpenSpec.upto splitJoinsSpec)) splitJoinsUptoCard

/-- THE SECOND FORM's CARD OF 'cedillalaw22.EqualGoes'. -/
def equalGoesUptoCard : Claim7 := { stood := { row := equalGoesUptoRow, standIns := [], harness := (true, "a74eb48a12a918fcb105f13dbb7086bd52beb21512ad729e4c398f2785545e3e"), looks := true }, kinds := [], alts := [], laidByText := true, laidKinds := [.data, .data, .data, .data, .sentinel, .sentinel, .data, .pinned, .pinned], laidTests := true, laidLooks := .later }
def EqualGoesUptoCardSaid : Prop := Claim7.holds Tryz.pinned (.plain (OpenSpec.upto equalGoesSpec)) equalGoesUptoCard

/-- THE SECOND FORM's CARD OF 'cedillalaw22.EqualTells'. -/
def equalTellsUptoCard : Claim7 := { stood := { row := equalTellsUptoRow, standIns := [], harness := (true, "a74eb48a12a918fcb105f13dbb7086bd52beb21512ad729e4c398f2785545e3e"), looks := true }, kinds := [], alts := [], laidByText := true, laidKinds := [.data, .data, .data, .data, .sentinel, .sentinel, .data, .pinned, .pinned], laidTests := true, laidLooks := .later }
def EqualTellsUptoCardSaid : Prop := Claim7.holds Tryz.pinned (.plain (OpenSpec.upto equalTellsSpec)) equalTellsUptoCard

/-- THE SECOND FORM's CARD OF 'cedillalaw22.EqualOrder'. -/
def equalOrderUptoCard : Claim7 := { stood := { row := equalOrderUptoRow, standIns := [], harness := (true, "a74eb48a12a918fcb105f13dbb7086bd52beb21512ad729e4c398f2785545e3e"), looks := true }, kinds := [], alts := [], laidByText := true, laidKinds := [.data, .data, .data, .data, .sentinel, .sentinel, .data, .pinned, .pinned], laidTests := true, laidLooks := .later }
def EqualOrderUptoCardSaid : Prop := Claim7.holds Tryz.pinned (.plain (OpenSpec.upto equalOrderSpec)) equalOrderUptoCard

/-- THE SECOND FORM's CARD OF 'cedillalaw18.NfcStays'. -/
def nfcStaysUptoCard : Claim7 := { stood := { row := nfcStaysUptoRow, standIns := [], harness := (true, "a74eb48a12a918fcb105f13dbb7086bd52beb21512ad729e4c398f2785545e3e"), looks := true }, kinds := [], alts := [], laidByText := true, laidKinds := [.data, .data, .data, .data, .sentinel, .sentinel, .data, .pinned, .pinned], laidTests := true, laidLooks := .later }
def NfcStaysUptoCardSaid : Prop := Claim7.holds Tryz.pinned (.plain (OpenSpec.upto nfcStaysSpec)) nfcStaysUptoCard

/-- THE SECOND FORM's CARD OF 'cedillalaw18.NfcBytes'. -/
def nfcBytesUptoCard : Claim7 := { stood := { row := nfcBytesUptoRow, standIns := [], harness := (true, "a74eb48a12a918fcb105f13dbb7086bd52beb21512ad729e4c398f2785545e3e"), looks := true }, kinds := [], alts := [], laidByText := true, laidKinds := [.data, .data, .data, .data, .sentinel, .sentinel, .data, .pinned, .pinned], laidTests := true, laidLooks := .later }
def NfcBytesUptoCardSaid : Prop := Claim7.holds Tryz.pinned (.plain (OpenSpec.upto nfcBytesSpec)) nfcBytesUptoCard

/-- THE SECOND FORM's CARD OF 'cedillalaw18.NfcMakes'. -/
def nfcMakesUptoCard : Claim7 := { stood := { row := nfcMakesUptoRow, standIns := [], harness := (true, "a74eb48a12a918fcb105f13dbb7086bd52beb21512ad729e4c398f2785545e3e"), looks := true }, kinds := [], alts := [], laidByText := true, laidKinds := [.data, .data, .data, .data, .sentinel, .sentinel, .data, .pinned, .pinned], laidTests := true, laidLooks := .later }
def NfcMakesUptoCardSaid : Prop := Claim7.holds Tryz.pinned (.plain (OpenSpec.upto nfcMakesSpec)) nfcMakesUptoCard

/-- THE SECOND FORM's CARD OF 'cedillalaw18.NfcShorter'. -/
def nfcShorterUptoCard : Claim7 := { stood := { row := nfcShorterUptoRow, standIns := [], harness := (true, "a74eb48a12a918fcb105f13dbb7086bd52beb21512ad729e4c398f2785545e3e"), looks := true }, kinds := [], alts := [], laidByText := true, laidKinds := [.data, .data, .data, .data, .sentinel, .sentinel, .data, .pinned, .pinned], laidTests := true, laidLooks := .later }
def NfcShorterUptoCardSaid : Prop := Claim7.holds Tryz.pinned (.plain (OpenSpec.upto nfcShorterSpec)) nfcShorterUptoCard

/-- THE SECOND FORM's CARD OF 'cedillalaw20.SplitParts'. -/
def splitPartsUptoCard : Claim7 := { stood := { row := splitPartsUptoRow, standIns := [], harness := (true, "a74eb48a12a918fcb105f13dbb7086bd52beb21512ad729e4c398f2785545e3e"), looks := true }, kinds := [], alts := [], laidByText := true, laidKinds := [.data, .data, .data, .data, .sentinel, .sentinel, .data, .pinned, .pinned], laidTests := true, laidLooks := .later }
def SplitPartsUptoCardSaid : Prop := Claim7.holds Tryz.pinned (.plain (OpenSpec.upto splitPartsSpec)) splitPartsUptoCard
end Rows
end Go.Proofs.YtjakbblocbicjaaGreatDoor
