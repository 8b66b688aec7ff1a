/-
  DERIVED. GIVEN WITH THE SEED: THE CARDS: each row of YtdbpjmfflofadaaGreatDoorRows.lean that lists a variable, with what it lists TIED to the program's text (the seventh form; the later family's looks); each row that meets fmt, with fmt's text TOLD by the authors' own Lean function (tested against real Go, not proved from fmt's source: count such statements apart). THE CARD IS WHAT COUNTS. Prove the row's statement (the work); the ties are given (YtdbpjmfflofadaaGreatDoorTie.lean); close each card by the builder's one call (the guide's Derived/Test/ToyasCard.lean, 'card_holds'). Laid BY PROGRAM, IN A SANDBOX (cutbox-door.mjs). By AI agents, Wed Nov 11 2026. No macro, syntax, notation, axiom, sorry.
-/
import Derived.Test.YtdbpjmfflofadaaGreatDoorRows
import GoSem.ClaimSeven
namespace Go.Proofs.YtdbpjmfflofadaaGreatDoor
namespace Rows

/-- THE TIED CARD OF 'cedillalaw21.StreamLong'. -/
def streamLongCard : Claim7 := { stood := { row := streamLongRow, standIns := [], harness := (true, "1e313439f6ef17a27e77b0c223cc09ee2aba31dce84084260ab630bb26da4596"), looks := true }, kinds := [], alts := [], laidByText := true, laidKinds := [.data, .data, .data, .data, .sentinel, .sentinel, .data, .pinned, .pinned], laidTests := true, laidLooks := .later }
def StreamLongCardSaid : Prop := Claim7.holds Tryz.pinned (.plain (OpenSpec.ofChange streamLongSpec)) streamLongCard

/-- THE TIED CARD OF 'cedillalaw21.StreamMakes'. -/
def streamMakesCard : Claim7 := { stood := { row := streamMakesRow, standIns := [], harness := (true, "1e313439f6ef17a27e77b0c223cc09ee2aba31dce84084260ab630bb26da4596"), looks := true }, kinds := [], alts := [], laidByText := true, laidKinds := [.data, .data, .data, .data, .sentinel, .sentinel, .data, .pinned, .pinned], laidTests := true, laidLooks := .later }
def StreamMakesCardSaid : Prop := Claim7.holds Tryz.pinned (.plain (OpenSpec.ofChange streamMakesSpec)) streamMakesCard

/-- THE TIED CARD OF 'cedillalaw21.StreamWaits'. -/
def streamWaitsCard : Claim7 := { stood := { row := streamWaitsRow, standIns := [], harness := (true, "1e313439f6ef17a27e77b0c223cc09ee2aba31dce84084260ab630bb26da4596"), looks := true }, kinds := [], alts := [], laidByText := true, laidKinds := [.data, .data, .data, .data, .sentinel, .sentinel, .data, .pinned, .pinned], laidTests := true, laidLooks := .later }
def StreamWaitsCardSaid : Prop := Claim7.holds Tryz.pinned (.plain (OpenSpec.ofChange streamWaitsSpec)) streamWaitsCard

/-- THE TIED CARD OF 'cedillalaw21.StreamFails'. -/
def streamFailsCard : Claim7 := { stood := { row := streamFailsRow, standIns := [], harness := (true, "1e313439f6ef17a27e77b0c223cc09ee2aba31dce84084260ab630bb26da4596"), looks := true }, kinds := [], alts := [], laidByText := true, laidKinds := [.data, .data, .data, .data, .sentinel, .sentinel, .data, .pinned, .pinned], laidTests := true, laidLooks := .later }
def StreamFailsCardSaid : Prop := Claim7.holds Tryz.pinned (.plain (OpenSpec.ofChange streamFailsSpec)) streamFailsCard

/-- THE TIED CARD OF 'cedillalaw21.StreamNothing'. -/
def streamNothingCard : Claim7 := { stood := { row := streamNothingRow, standIns := [], harness := (true, "1e313439f6ef17a27e77b0c223cc09ee2aba31dce84084260ab630bb26da4596"), looks := true }, kinds := [], alts := [], laidByText := true, laidKinds := [.data, .data, .data, .data, .sentinel, .sentinel, .data, .pinned, .pinned], laidTests := true, laidLooks := .later }
def StreamNothingCardSaid : Prop := Claim7.holds Tryz.pinned (.plain (OpenSpec.ofChange streamNothingSpec)) streamNothingCard

/-- THE SECOND FORM's CARD OF 'cedillalaw21.StreamLong'. -/
def streamLongUptoCard : Claim7 := { stood := { row := streamLongUptoRow, standIns := [], harness := (true, "1e313439f6ef17a27e77b0c223cc09ee2aba31dce84084260ab630bb26da4596"), looks := true }, kinds := [], alts := [], laidByText := true, laidKinds := [.data, .data, .data, .data, .sentinel, .sentinel, .data, .pinned, .pinned], laidTests := true, laidLooks := .later }
def StreamLongUptoCardSaid : Prop := Claim7.holds Tryz.pinned (.plain (OpenSpec.upto streamLongSpec)) streamLongUptoCard

/-- THE SECOND FORM's CARD OF 'cedillalaw21.StreamMakes'. -/
def streamMakesUptoCard : Claim7 := { stood := { row := streamMakesUptoRow, standIns := [], harness := (true, "1e313439f6ef17a27e77b0c223cc09ee2aba31dce84084260ab630bb26da4596"), looks := true }, kinds := [], alts := [], laidByText := true, laidKinds := [.data, .data, .data, .data, .sentinel, .sentinel, .data, .pinned, .pinned], laidTests := true, laidLooks := .later }
def StreamMakesUptoCardSaid : Prop := Claim7.holds Tryz.pinned (.plain (OpenSpec.upto streamMakesSpec)) streamMakesUptoCard

/-- THE SECOND FORM's CARD OF 'cedillalaw21.StreamWaits'. -/
def streamWaitsUptoCard : Claim7 := { stood := { row := streamWaitsUptoRow, standIns := [], harness := (true, "1e313439f6ef17a27e77b0c223cc09ee2aba31dce84084260ab630bb26da4596"), looks := true }, kinds := [], alts := [], laidByText := true, laidKinds := [.data, .data, .data, .data, .sentinel, .sentinel, .data, .pinned, .pinned], laidTests := true, laidLooks := .later }
def StreamWaitsUptoCardSaid : Prop := Claim7.holds Tryz.pinned (.plain (OpenSpec.upto streamWaitsSpec)) streamWaitsUptoCard

/-- THE SECOND FORM's CARD OF 'cedillalaw21.StreamFails'. -/
def streamFailsUptoCard : Claim7 := { stood := { row := streamFailsUptoRow, standIns := [], harness := (true, "1e313439f6ef17a27e77b0c223cc09ee2aba31dce84084260ab630bb26da4596"), looks := true }, kinds := [], alts := [], laidByText := true, laidKinds := [.data, .data, .data, .data, .sentinel, .sentinel, .data, .pinned, .pinned], laidTests := true, laidLooks := .later }
def StreamFailsUptoCardSaid : Prop := Claim7.holds Tryz.pinned (.plain (OpenSpec.upto streamFailsSpec)) streamFailsUptoCard

/-- THE SECOND FORM's CARD OF 'cedillalaw21.StreamNothing'. -/
def streamNothingUptoCard : Claim7 := { stood := { row := streamNothingUptoRow, standIns := [], harness := (true, "1e313439f6ef17a27e77b0c223cc09ee2aba31dce84084260ab630bb26da4596"), looks := true }, kinds := [], alts := [], laidByText := true, laidKinds := [.data, .data, .data, .data, .sentinel, .sentinel, .data, .pinned, .pinned], laidTests := true, laidLooks := .later }
def StreamNothingUptoCardSaid : Prop := Claim7.holds Tryz.pinned (.plain (OpenSpec.upto streamNothingSpec)) streamNothingUptoCard
end Rows
end Go.Proofs.YtdbpjmfflofadaaGreatDoor
