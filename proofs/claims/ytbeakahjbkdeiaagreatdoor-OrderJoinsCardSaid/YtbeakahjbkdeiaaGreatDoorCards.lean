/-
  DERIVED. GIVEN WITH THE SEED: THE CARDS: each row of YtbeakahjbkdeiaaGreatDoorRows.lean that lists a variable, with what it lists TIED to the program's text (the seventh form; the later family's looks); each row that meets fmt, with fmt's text TOLD by the authors' own Lean function (tested against real Go, not proved from fmt's source: count such statements apart). THE CARD IS WHAT COUNTS. Prove the row's statement (the work); the ties are given (YtbeakahjbkdeiaaGreatDoorTie.lean); close each card by the builder's one call (the guide's Derived/Test/ToyasCard.lean, 'card_holds'). Laid BY PROGRAM, IN A SANDBOX (cutbox-door.mjs). By AI agents, Wed Nov 11 2026. No macro, syntax, notation, axiom, sorry.
-/
import Derived.Test.YtbeakahjbkdeiaaGreatDoorRows
import GoSem.ClaimSeven
namespace Go.Proofs.YtbeakahjbkdeiaaGreatDoor
namespace Rows

/-- THE TIED CARD OF 'cedillalaw15.ExtractAngstrom'. -/
def extractAngstromCard : Claim7 := { stood := { row := extractAngstromRow, standIns := [], harness := (true, "5d7a753195255cb6754b058a2a3ffac7d4f6c71029d4ec912853f2a3f61b7ba4"), looks := true }, kinds := [], alts := [], laidByText := true, laidKinds := [.data, .data, .data, .data, .sentinel, .sentinel, .pinned, .pinned], laidTests := true, laidLooks := .later }
def ExtractAngstromCardSaid : Prop := Claim7.holds Tryz.pinned (.plain (OpenSpec.ofChange extractAngstromSpec)) extractAngstromCard

/-- THE TIED CARD OF 'cedillalaw15.ExtractLoads'. -/
def extractLoadsCard : Claim7 := { stood := { row := extractLoadsRow, standIns := [], harness := (true, "5d7a753195255cb6754b058a2a3ffac7d4f6c71029d4ec912853f2a3f61b7ba4"), looks := true }, kinds := [], alts := [], laidByText := true, laidKinds := [.data, .data, .data, .data, .sentinel, .sentinel, .pinned, .pinned], laidTests := true, laidLooks := .later }
def ExtractLoadsCardSaid : Prop := Claim7.holds Tryz.pinned (.plain (OpenSpec.ofChange extractLoadsSpec)) extractLoadsCard

/-- THE TIED CARD OF 'cedillalaw16.OrderSorts'. -/
def orderSortsCard : Claim7 := { stood := { row := orderSortsRow, standIns := [], harness := (true, "5d7a753195255cb6754b058a2a3ffac7d4f6c71029d4ec912853f2a3f61b7ba4"), looks := true }, kinds := [], alts := [], laidByText := true, laidKinds := [.data, .data, .data, .data, .sentinel, .sentinel, .pinned, .pinned], laidTests := true, laidLooks := .later }
def OrderSortsCardSaid : Prop := Claim7.holds Tryz.pinned (.plain (OpenSpec.ofChange orderSortsSpec)) orderSortsCard

/-- THE TIED CARD OF 'cedillalaw16.OrderSwaps'. -/
def orderSwapsCard : Claim7 := { stood := { row := orderSwapsRow, standIns := [], harness := (true, "5d7a753195255cb6754b058a2a3ffac7d4f6c71029d4ec912853f2a3f61b7ba4"), looks := true }, kinds := [], alts := [], laidByText := true, laidKinds := [.data, .data, .data, .data, .sentinel, .sentinel, .pinned, .pinned], laidTests := true, laidLooks := .later }
def OrderSwapsCardSaid : Prop := Claim7.holds Tryz.pinned (.plain (OpenSpec.ofChange orderSwapsSpec)) orderSwapsCard

/-- THE TIED CARD OF 'cedillalaw16.OrderJoins'. -/
def orderJoinsCard : Claim7 := { stood := { row := orderJoinsRow, standIns := [], harness := (true, "5d7a753195255cb6754b058a2a3ffac7d4f6c71029d4ec912853f2a3f61b7ba4"), looks := true }, kinds := [], alts := [], laidByText := true, laidKinds := [.data, .data, .data, .data, .sentinel, .sentinel, .pinned, .pinned], laidTests := true, laidLooks := .later }
def OrderJoinsCardSaid : Prop := Claim7.holds Tryz.pinned (.plain (OpenSpec.ofChange orderJoinsSpec)) orderJoinsCard

/-- THE TIED CARD OF 'cedillalaw16.OrderRuns'. -/
def orderRunsCard : Claim7 := { stood := { row := orderRunsRow, standIns := [], harness := (true, "5d7a753195255cb6754b058a2a3ffac7d4f6c71029d4ec912853f2a3f61b7ba4"), looks := true }, kinds := [], alts := [], laidByText := true, laidKinds := [.data, .data, .data, .data, .sentinel, .sentinel, .pinned, .pinned], laidTests := true, laidLooks := .later }
def OrderRunsCardSaid : Prop := Claim7.holds Tryz.pinned (.plain (OpenSpec.ofChange orderRunsSpec)) orderRunsCard

/-- THE TIED CARD OF 'cedillalaw17.NfdSteps'. -/
def nfdStepsCard : Claim7 := { stood := { row := nfdStepsRow, standIns := [], harness := (true, "5d7a753195255cb6754b058a2a3ffac7d4f6c71029d4ec912853f2a3f61b7ba4"), looks := true }, kinds := [], alts := [], laidByText := true, laidKinds := [.data, .data, .data, .data, .sentinel, .sentinel, .data, .pinned, .pinned], laidTests := true, laidLooks := .later }
def NfdStepsCardSaid : Prop := Claim7.holds Tryz.pinned (.plain (OpenSpec.ofChange nfdStepsSpec)) nfdStepsCard

/-- THE TIED CARD OF 'cedillalaw17.NfdBytes'. -/
def nfdBytesCard : Claim7 := { stood := { row := nfdBytesRow, standIns := [], harness := (true, "5d7a753195255cb6754b058a2a3ffac7d4f6c71029d4ec912853f2a3f61b7ba4"), looks := true }, kinds := [], alts := [], laidByText := true, laidKinds := [.data, .data, .data, .data, .sentinel, .sentinel, .data, .pinned, .pinned], laidTests := true, laidLooks := .later }
def NfdBytesCardSaid : Prop := Claim7.holds Tryz.pinned (.plain (OpenSpec.ofChange nfdBytesSpec)) nfdBytesCard

/-- THE TIED CARD OF 'cedillalaw17.NfdLong'. -/
def nfdLongCard : Claim7 := { stood := { row := nfdLongRow, standIns := [], harness := (true, "5d7a753195255cb6754b058a2a3ffac7d4f6c71029d4ec912853f2a3f61b7ba4"), looks := true }, kinds := [], alts := [], laidByText := true, laidKinds := [.data, .data, .data, .data, .sentinel, .sentinel, .data, .pinned, .pinned], laidTests := true, laidLooks := .later }
def NfdLongCardSaid : Prop := Claim7.holds Tryz.pinned (.plain (OpenSpec.ofChange nfdLongSpec)) nfdLongCard

/-- THE TIED CARD OF 'cedillalaw17.NfdCounts'. -/
def nfdCountsCard : Claim7 := { stood := { row := nfdCountsRow, standIns := [], harness := (true, "5d7a753195255cb6754b058a2a3ffac7d4f6c71029d4ec912853f2a3f61b7ba4"), looks := true }, kinds := [], alts := [], laidByText := true, laidKinds := [.data, .data, .data, .data, .sentinel, .sentinel, .data, .pinned, .pinned], laidTests := true, laidLooks := .later }
def NfdCountsCardSaid : Prop := Claim7.holds Tryz.pinned (.plain (OpenSpec.ofChange nfdCountsSpec)) nfdCountsCard

/-- THE TIED CARD OF 'cedillalaw17.NfdTakes'. -/
def nfdTakesCard : Claim7 := { stood := { row := nfdTakesRow, standIns := [], harness := (true, "5d7a753195255cb6754b058a2a3ffac7d4f6c71029d4ec912853f2a3f61b7ba4"), looks := true }, kinds := [], alts := [], laidByText := true, laidKinds := [.data, .data, .data, .data, .sentinel, .sentinel, .data, .pinned, .pinned], laidTests := true, laidLooks := .later }
def NfdTakesCardSaid : Prop := Claim7.holds Tryz.pinned (.plain (OpenSpec.ofChange nfdTakesSpec)) nfdTakesCard

/-- THE TIED CARD OF 'cedillalaw18.NfcMakes'. -/
def nfcMakesCard : Claim7 := { stood := { row := nfcMakesRow, standIns := [], harness := (true, "5d7a753195255cb6754b058a2a3ffac7d4f6c71029d4ec912853f2a3f61b7ba4"), looks := true }, kinds := [], alts := [], laidByText := true, laidKinds := [.data, .data, .data, .data, .sentinel, .sentinel, .data, .pinned, .pinned], laidTests := true, laidLooks := .later }
def NfcMakesCardSaid : Prop := Claim7.holds Tryz.pinned (.plain (OpenSpec.ofChange nfcMakesSpec)) nfcMakesCard

/-- THE SECOND FORM's CARD OF 'cedillalaw15.ExtractAngstrom'. -/
def extractAngstromUptoCard : Claim7 := { stood := { row := extractAngstromUptoRow, standIns := [], harness := (true, "5d7a753195255cb6754b058a2a3ffac7d4f6c71029d4ec912853f2a3f61b7ba4"), looks := true }, kinds := [], alts := [], laidByText := true, laidKinds := [.data, .data, .data, .data, .sentinel, .sentinel, .pinned, .pinned], laidTests := true, laidLooks := .later }
def ExtractAngstromUptoCardSaid : Prop := Claim7.holds Tryz.pinned (.plain (OpenSpec.upto extractAngstromSpec)) extractAngstromUptoCard

/-- THE SECOND FORM's CARD OF 'cedillalaw15.ExtractLoads'. -/
def extractLoadsUptoCard : Claim7 := { stood := { row := extractLoadsUptoRow, standIns := [], harness := (true, "5d7a753195255cb6754b058a2a3ffac7d4f6c71029d4ec912853f2a3f61b7ba4"), looks := true }, kinds := [], alts := [], laidByText := true, laidKinds := [.data, .data, .data, .data, .sentinel, .sentinel, .pinned, .pinned], laidTests := true, laidLooks := .later }
def ExtractLoadsUptoCardSaid : Prop := Claim7.holds Tryz.pinned (.plain (OpenSpec.upto extractLoadsSpec)) extractLoadsUptoCard

/-- THE SECOND FORM's CARD OF 'cedillalaw16.OrderSorts'. -/
def orderSortsUptoCard : Claim7 := { stood := { row := orderSortsUptoRow, standIns := [], harness := (true, "5d7a753195255cb6754b058a2a3ffac7d4f6c71029d4ec912853f2a3f61b7ba4"), looks := true }, kinds := [], alts := [], laidByText := true, laidKinds := [.data, .data, .data, .data, .sentinel, .sentinel, .pinned, .pinned], laidTests := true, laidLooks := .later }
def OrderSortsUptoCardSaid : Prop := Claim7.holds Tryz.pinned (.plain (OpenSpec.upto orderSortsSpec)) orderSortsUptoCard

/-- THE SECOND FORM's CARD OF 'cedillalaw16.OrderSwaps'. -/
def orderSwapsUptoCard : Claim7 := { stood := { row := orderSwapsUptoRow, standIns := [], harness := (true, "5d7a753195255cb6754b058a2a3ffac7d4f6c71029d4ec912853f2a3f61b7ba4"), looks := true }, kinds := [], alts := [], laidByText := true, laidKinds := [.data, .data, .data, .data, .sentinel, .sentinel, .pinned, .pinned], laidTests := true, laidLooks := .later }
def OrderSwapsUptoCardSaid : Prop := Claim7.holds Tryz.pinned (.plain (OpenSpec.upto orderSwapsSpec)) orderSwapsUptoCard

/-- THE SECOND FORM's CARD OF 'cedillalaw16.OrderJoins'. -/
def orderJoinsUptoCard : Claim7 := { stood := { row := orderJoinsUptoRow, standIns := [], harness := (true, "5d7a753195255cb6754b058a2a3ffac7d4f6c71029d4ec912853f2a3f61b7ba4"), looks := true }, kinds := [], alts := [], laidByText := true, laidKinds := [.data, .data, .data, .data, .sentinel, .sentinel, .pinned, .pinned], laidTests := true, laidLooks := .later }
def OrderJoinsUptoCardSaid : Prop := Claim7.holds Tryz.pinned (.plain (OpenSpec.upto orderJoinsSpec)) orderJoinsUptoCard

/-- THE SECOND FORM's CARD OF 'cedillalaw16.OrderRuns'. -/
def orderRunsUptoCard : Claim7 := { stood := { row := orderRunsUptoRow, standIns := [], harness := (true, "5d7a753195255cb6754b058a2a3ffac7d4f6c71029d4ec912853f2a3f61b7ba4"), looks := true }, kinds := [], alts := [], laidByText := true, laidKinds := [.data, .data, .data, .data, .sentinel, .sentinel, .pinned, .pinned], laidTests := true, laidLooks := .later }
def OrderRunsUptoCardSaid : Prop := Claim7.holds Tryz.pinned (.plain (OpenSpec.upto orderRunsSpec)) orderRunsUptoCard

/-- THE SECOND FORM's CARD OF 'cedillalaw17.NfdSteps'. -/
def nfdStepsUptoCard : Claim7 := { stood := { row := nfdStepsUptoRow, standIns := [], harness := (true, "5d7a753195255cb6754b058a2a3ffac7d4f6c71029d4ec912853f2a3f61b7ba4"), looks := true }, kinds := [], alts := [], laidByText := true, laidKinds := [.data, .data, .data, .data, .sentinel, .sentinel, .data, .pinned, .pinned], laidTests := true, laidLooks := .later }
def NfdStepsUptoCardSaid : Prop := Claim7.holds Tryz.pinned (.plain (OpenSpec.upto nfdStepsSpec)) nfdStepsUptoCard

/-- THE SECOND FORM's CARD OF 'cedillalaw17.NfdBytes'. -/
def nfdBytesUptoCard : Claim7 := { stood := { row := nfdBytesUptoRow, standIns := [], harness := (true, "5d7a753195255cb6754b058a2a3ffac7d4f6c71029d4ec912853f2a3f61b7ba4"), looks := true }, kinds := [], alts := [], laidByText := true, laidKinds := [.data, .data, .data, .data, .sentinel, .sentinel, .data, .pinned, .pinned], laidTests := true, laidLooks := .later }
def NfdBytesUptoCardSaid : Prop := Claim7.holds Tryz.pinned (.plain (OpenSpec.upto nfdBytesSpec)) nfdBytesUptoCard

/-- THE SECOND FORM's CARD OF 'cedillalaw17.NfdLong'. -/
def nfdLongUptoCard : Claim7 := { stood := { row := nfdLongUptoRow, standIns := [], harness := (true, "5d7a753195255cb6754b058a2a3ffac7d4f6c71029d4ec912853f2a3f61b7ba4"), looks := true }, kinds := [], alts := [], laidByText := true, laidKinds := [.data, .data, .data, .data, .sentinel, .sentinel, .data, .pinned, .pinned], laidTests := true, laidLooks := .later }
def NfdLongUptoCardSaid : Prop := Claim7.holds Tryz.pinned (.plain (OpenSpec.upto nfdLongSpec)) nfdLongUptoCard

/-- THE SECOND FORM's CARD OF 'cedillalaw17.NfdCounts'. -/
def nfdCountsUptoCard : Claim7 := { stood := { row := nfdCountsUptoRow, standIns := [], harness := (true, "5d7a753195255cb6754b058a2a3ffac7d4f6c71029d4ec912853f2a3f61b7ba4"), looks := true }, kinds := [], alts := [], laidByText := true, laidKinds := [.data, .data, .data, .data, .sentinel, .sentinel, .data, .pinned, .pinned], laidTests := true, laidLooks := .later }
def NfdCountsUptoCardSaid : Prop := Claim7.holds Tryz.pinned (.plain (OpenSpec.upto nfdCountsSpec)) nfdCountsUptoCard

/-- THE SECOND FORM's CARD OF 'cedillalaw17.NfdTakes'. -/
def nfdTakesUptoCard : Claim7 := { stood := { row := nfdTakesUptoRow, standIns := [], harness := (true, "5d7a753195255cb6754b058a2a3ffac7d4f6c71029d4ec912853f2a3f61b7ba4"), looks := true }, kinds := [], alts := [], laidByText := true, laidKinds := [.data, .data, .data, .data, .sentinel, .sentinel, .data, .pinned, .pinned], laidTests := true, laidLooks := .later }
def NfdTakesUptoCardSaid : Prop := Claim7.holds Tryz.pinned (.plain (OpenSpec.upto nfdTakesSpec)) nfdTakesUptoCard

/-- THE SECOND FORM's CARD OF 'cedillalaw18.NfcMakes'. -/
def nfcMakesUptoCard : Claim7 := { stood := { row := nfcMakesUptoRow, standIns := [], harness := (true, "5d7a753195255cb6754b058a2a3ffac7d4f6c71029d4ec912853f2a3f61b7ba4"), looks := true }, kinds := [], alts := [], laidByText := true, laidKinds := [.data, .data, .data, .data, .sentinel, .sentinel, .data, .pinned, .pinned], laidTests := true, laidLooks := .later }
def NfcMakesUptoCardSaid : Prop := Claim7.holds Tryz.pinned (.plain (OpenSpec.upto nfcMakesSpec)) nfcMakesUptoCard
end Rows
end Go.Proofs.YtbeakahjbkdeiaaGreatDoor
