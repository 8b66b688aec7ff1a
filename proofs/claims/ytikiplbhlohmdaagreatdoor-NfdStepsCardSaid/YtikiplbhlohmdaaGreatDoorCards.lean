/-
  DERIVED. GIVEN WITH THE SEED: THE CARDS: each row of YtikiplbhlohmdaaGreatDoorRows.lean that lists a variable, with what it lists TIED to the program's text (the seventh form; the later family's looks); each row that meets fmt, with fmt's text TOLD by the authors' own Lean function (tested against real Go, not proved from fmt's source: count such statements apart). THE CARD IS WHAT COUNTS. Prove the row's statement (the work); the ties are given (YtikiplbhlohmdaaGreatDoorTie.lean); close each card by the builder's one call (the guide's Derived/Test/ToyasCard.lean, 'card_holds'). Laid BY PROGRAM, IN A SANDBOX (cutbox-door.mjs). By AI agents, Wed Nov 11 2026. No macro, syntax, notation, axiom, sorry.
-/
import Derived.Test.YtikiplbhlohmdaaGreatDoorRows
import GoSem.ClaimSeven
namespace Go.Proofs.YtikiplbhlohmdaaGreatDoor
namespace Rows

/-- THE TIED CARD OF 'cedillalaw17.NfdSteps'. -/
def nfdStepsCard : Claim7 := { stood := { row := nfdStepsRow, standIns := [], harness := (true, "917b314a22c4b81b977a28b813ad1f91e8cb2c05d80ecf38e5d7b7daccca41bb"), looks := true }, kinds := [], alts := [], laidByText := true, laidKinds := [.data, .data, .data, .data, .sentinel, .sentinel, .data, .pinned, .pinned], laidTests := true, laidLooks := .later }
def NfdStepsCardSaid : Prop := Claim7.holds Tryz.pinned (.plain (OpenSpec.ofChange nfdStepsSpec)) nfdStepsCard

/-- THE TIED CARD OF 'cedillalaw17.NfdBytes'. -/
def nfdBytesCard : Claim7 := { stood := { row := nfdBytesRow, standIns := [], harness := (true, "917b314a22c4b81b977a28b813ad1f91e8cb2c05d80ecf38e5d7b7daccca41bb"), looks := true }, kinds := [], alts := [], laidByText := true, laidKinds := [.data, .data, .data, .data, .sentinel, .sentinel, .data, .pinned, .pinned], laidTests := true, laidLooks := .later }
def NfdBytesCardSaid : Prop := Claim7.holds Tryz.pinned (.plain (OpenSpec.ofChange nfdBytesSpec)) nfdBytesCard

/-- THE TIED CARD OF 'cedillalaw17.NfdLong'. -/
def nfdLongCard : Claim7 := { stood := { row := nfdLongRow, standIns := [], harness := (true, "917b314a22c4b81b977a28b813ad1f91e8cb2c05d80ecf38e5d7b7daccca41bb"), looks := true }, kinds := [], alts := [], laidByText := true, laidKinds := [.data, .data, .data, .data, .sentinel, .sentinel, .data, .pinned, .pinned], laidTests := true, laidLooks := .later }
def NfdLongCardSaid : Prop := Claim7.holds Tryz.pinned (.plain (OpenSpec.ofChange nfdLongSpec)) nfdLongCard

/-- THE TIED CARD OF 'cedillalaw17.NfdCounts'. -/
def nfdCountsCard : Claim7 := { stood := { row := nfdCountsRow, standIns := [], harness := (true, "917b314a22c4b81b977a28b813ad1f91e8cb2c05d80ecf38e5d7b7daccca41bb"), looks := true }, kinds := [], alts := [], laidByText := true, laidKinds := [.data, .data, .data, .data, .sentinel, .sentinel, .data, .pinned, .pinned], laidTests := true, laidLooks := .later }
def NfdCountsCardSaid : Prop := Claim7.holds Tryz.pinned (.plain (OpenSpec.ofChange nfdCountsSpec)) nfdCountsCard

/-- THE TIED CARD OF 'cedillalaw17.NfdTakes'. -/
def nfdTakesCard : Claim7 := { stood := { row := nfdTakesRow, standIns := [], harness := (true, "917b314a22c4b81b977a28b813ad1f91e8cb2c05d80ecf38e5d7b7daccca41bb"), looks := true }, kinds := [], alts := [], laidByText := true, laidKinds := [.data, .data, .data, .data, .sentinel, .sentinel, .data, .pinned, .pinned], laidTests := true, laidLooks := .later }
def NfdTakesCardSaid : Prop := Claim7.holds Tryz.pinned (.plain (OpenSpec.ofChange nfdTakesSpec)) nfdTakesCard

/-- THE SECOND FORM's CARD OF 'cedillalaw17.NfdSteps'. -/
def nfdStepsUptoCard : Claim7 := { stood := { row := nfdStepsUptoRow, standIns := [], harness := (true, "917b314a22c4b81b977a28b813ad1f91e8cb2c05d80ecf38e5d7b7daccca41bb"), looks := true }, kinds := [], alts := [], laidByText := true, laidKinds := [.data, .data, .data, .data, .sentinel, .sentinel, .data, .pinned, .pinned], laidTests := true, laidLooks := .later }
def NfdStepsUptoCardSaid : Prop := Claim7.holds Tryz.pinned (.plain (OpenSpec.upto nfdStepsSpec)) nfdStepsUptoCard

/-- THE SECOND FORM's CARD OF 'cedillalaw17.NfdBytes'. -/
def nfdBytesUptoCard : Claim7 := { stood := { row := nfdBytesUptoRow, standIns := [], harness := (true, "917b314a22c4b81b977a28b813ad1f91e8cb2c05d80ecf38e5d7b7daccca41bb"), looks := true }, kinds := [], alts := [], laidByText := true, laidKinds := [.data, .data, .data, .data, .sentinel, .sentinel, .data, .pinned, .pinned], laidTests := true, laidLooks := .later }
def NfdBytesUptoCardSaid : Prop := Claim7.holds Tryz.pinned (.plain (OpenSpec.upto nfdBytesSpec)) nfdBytesUptoCard

/-- THE SECOND FORM's CARD OF 'cedillalaw17.NfdLong'. -/
def nfdLongUptoCard : Claim7 := { stood := { row := nfdLongUptoRow, standIns := [], harness := (true, "917b314a22c4b81b977a28b813ad1f91e8cb2c05d80ecf38e5d7b7daccca41bb"), looks := true }, kinds := [], alts := [], laidByText := true, laidKinds := [.data, .data, .data, .data, .sentinel, .sentinel, .data, .pinned, .pinned], laidTests := true, laidLooks := .later }
def NfdLongUptoCardSaid : Prop := Claim7.holds Tryz.pinned (.plain (OpenSpec.upto nfdLongSpec)) nfdLongUptoCard

/-- THE SECOND FORM's CARD OF 'cedillalaw17.NfdCounts'. -/
def nfdCountsUptoCard : Claim7 := { stood := { row := nfdCountsUptoRow, standIns := [], harness := (true, "917b314a22c4b81b977a28b813ad1f91e8cb2c05d80ecf38e5d7b7daccca41bb"), looks := true }, kinds := [], alts := [], laidByText := true, laidKinds := [.data, .data, .data, .data, .sentinel, .sentinel, .data, .pinned, .pinned], laidTests := true, laidLooks := .later }
def NfdCountsUptoCardSaid : Prop := Claim7.holds Tryz.pinned (.plain (OpenSpec.upto nfdCountsSpec)) nfdCountsUptoCard

/-- THE SECOND FORM's CARD OF 'cedillalaw17.NfdTakes'. -/
def nfdTakesUptoCard : Claim7 := { stood := { row := nfdTakesUptoRow, standIns := [], harness := (true, "917b314a22c4b81b977a28b813ad1f91e8cb2c05d80ecf38e5d7b7daccca41bb"), looks := true }, kinds := [], alts := [], laidByText := true, laidKinds := [.data, .data, .data, .data, .sentinel, .sentinel, .data, .pinned, .pinned], laidTests := true, laidLooks := .later }
def NfdTakesUptoCardSaid : Prop := Claim7.holds Tryz.pinned (.plain (OpenSpec.upto nfdTakesSpec)) nfdTakesUptoCard
end Rows
end Go.Proofs.YtikiplbhlohmdaaGreatDoor
