/-
  DERIVED. GIVEN WITH THE SEED: THE CARDS: each row of YthikoangkdlebaaDoorRows.lean that lists a variable, with what it lists TIED to the program's text (the seventh form; the later family's looks); each row that meets fmt, with fmt's text TOLD by the authors' own Lean function (tested against real Go, not proved from fmt's source: count such statements apart). THE CARD IS WHAT COUNTS. Prove the row's statement (the work); the ties are given (YthikoangkdlebaaDoorTie.lean); close each card by the builder's one call (the guide's Derived/Test/ToyasCard.lean, 'card_holds'). Laid BY PROGRAM, IN A SANDBOX (cutbox-door.mjs). By AI agents, Wed Nov 11 2026. No macro, syntax, notation, axiom, sorry.
-/
import Derived.Test.YthikoangkdlebaaDoorRows
import GoSem.ClaimSeven
namespace Go.Proofs.YthikoangkdlebaaDoor
namespace Rows

/-- THE TIED CARD OF 'cedillalaw05.UtfEnds'. -/
def utfEndsCard : Claim7 := { stood := { row := utfEndsRow, standIns := [], harness := (true, "c6b3ca549c8a9b4c51419587f2ddff42d66b4b7080198552e84cc0adec59b8cb"), looks := false }, kinds := [], alts := [], laidByText := true, laidKinds := [.data], laidTests := true, laidLooks := .later }
def UtfEndsCardSaid : Prop := Claim7.holds Tryd.pinned (.plain (OpenSpec.ofChange utfEndsSpec)) utfEndsCard

/-- THE TIED CARD OF 'cedillalaw05.UtfJoins'. -/
def utfJoinsCard : Claim7 := { stood := { row := utfJoinsRow, standIns := [], harness := (true, "c6b3ca549c8a9b4c51419587f2ddff42d66b4b7080198552e84cc0adec59b8cb"), looks := false }, kinds := [], alts := [], laidByText := true, laidKinds := [.data], laidTests := true, laidLooks := .later }
def UtfJoinsCardSaid : Prop := Claim7.holds Tryd.pinned (.plain (OpenSpec.ofChange utfJoinsSpec)) utfJoinsCard

/-- THE TIED CARD OF 'cedillalaw05.UtfCompares'. -/
def utfComparesCard : Claim7 := { stood := { row := utfComparesRow, standIns := [], harness := (true, "c6b3ca549c8a9b4c51419587f2ddff42d66b4b7080198552e84cc0adec59b8cb"), looks := false }, kinds := [], alts := [], laidByText := true, laidKinds := [.data], laidTests := true, laidLooks := .later }
def UtfComparesCardSaid : Prop := Claim7.holds Tryd.pinned (.plain (OpenSpec.ofChange utfComparesSpec)) utfComparesCard

/-- THE TIED CARD OF 'cedillalaw05.UtfDecodes'. -/
def utfDecodesCard : Claim7 := { stood := { row := utfDecodesRow, standIns := [], harness := (true, "c6b3ca549c8a9b4c51419587f2ddff42d66b4b7080198552e84cc0adec59b8cb"), looks := false }, kinds := [], alts := [], laidByText := true, laidKinds := [.data], laidTests := true, laidLooks := .later }
def UtfDecodesCardSaid : Prop := Claim7.holds Tryd.pinned (.plain (OpenSpec.ofChange utfDecodesSpec)) utfDecodesCard

/-- THE TIED CARD OF 'cedillalaw05.UtfEncodes'. -/
def utfEncodesCard : Claim7 := { stood := { row := utfEncodesRow, standIns := [], harness := (true, "c6b3ca549c8a9b4c51419587f2ddff42d66b4b7080198552e84cc0adec59b8cb"), looks := false }, kinds := [], alts := [], laidByText := true, laidKinds := [.data], laidTests := true, laidLooks := .later }
def UtfEncodesCardSaid : Prop := Claim7.holds Tryd.pinned (.plain (OpenSpec.ofChange utfEncodesSpec)) utfEncodesCard

/-- THE SECOND FORM's CARD OF 'cedillalaw05.UtfEnds'. -/
def utfEndsUptoCard : Claim7 := { stood := { row := utfEndsUptoRow, standIns := [], harness := (true, "c6b3ca549c8a9b4c51419587f2ddff42d66b4b7080198552e84cc0adec59b8cb"), looks := false }, kinds := [], alts := [], laidByText := true, laidKinds := [.data], laidTests := true, laidLooks := .later }
def UtfEndsUptoCardSaid : Prop := Claim7.holds Tryd.pinned (.plain (OpenSpec.upto utfEndsSpec)) utfEndsUptoCard

/-- THE SECOND FORM's CARD OF 'cedillalaw05.UtfJoins'. -/
def utfJoinsUptoCard : Claim7 := { stood := { row := utfJoinsUptoRow, standIns := [], harness := (true, "c6b3ca549c8a9b4c51419587f2ddff42d66b4b7080198552e84cc0adec59b8cb"), looks := false }, kinds := [], alts := [], laidByText := true, laidKinds := [.data], laidTests := true, laidLooks := .later }
def UtfJoinsUptoCardSaid : Prop := Claim7.holds Tryd.pinned (.plain (OpenSpec.upto utfJoinsSpec)) utfJoinsUptoCard

/-- THE SECOND FORM's CARD OF 'cedillalaw05.UtfCompares'. -/
def utfComparesUptoCard : Claim7 := { stood := { row := utfComparesUptoRow, standIns := [], harness := (true, "c6b3ca549c8a9b4c51419587f2ddff42d66b4b7080198552e84cc0adec59b8cb"), looks := false }, kinds := [], alts := [], laidByText := true, laidKinds := [.data], laidTests := true, laidLooks := .later }
def UtfComparesUptoCardSaid : Prop := Claim7.holds Tryd.pinned (.plain (OpenSpec.upto utfComparesSpec)) utfComparesUptoCard

/-- THE SECOND FORM's CARD OF 'cedillalaw05.UtfDecodes'. -/
def utfDecodesUptoCard : Claim7 := { stood := { row := utfDecodesUptoRow, standIns := [], harness := (true, "c6b3ca549c8a9b4c51419587f2ddff42d66b4b7080198552e84cc0adec59b8cb"), looks := false }, kinds := [], alts := [], laidByText := true, laidKinds := [.data], laidTests := true, laidLooks := .later }
def UtfDecodesUptoCardSaid : Prop := Claim7.holds Tryd.pinned (.plain (OpenSpec.upto utfDecodesSpec)) utfDecodesUptoCard

/-- THE SECOND FORM's CARD OF 'cedillalaw05.UtfEncodes'. -/
def utfEncodesUptoCard : Claim7 := { stood := { row := utfEncodesUptoRow, standIns := [], harness := (true, "c6b3ca549c8a9b4c51419587f2ddff42d66b4b7080198552e84cc0adec59b8cb"), looks := false }, kinds := [], alts := [], laidByText := true, laidKinds := [.data], laidTests := true, laidLooks := .later }
def UtfEncodesUptoCardSaid : Prop := Claim7.holds Tryd.pinned (.plain (OpenSpec.upto utfEncodesSpec)) utfEncodesUptoCard
end Rows
end Go.Proofs.YthikoangkdlebaaDoor
