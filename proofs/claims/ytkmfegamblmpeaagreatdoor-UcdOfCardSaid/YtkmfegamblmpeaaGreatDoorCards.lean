/-
  DERIVED. GIVEN WITH THE SEED: THE CARDS: each row of YtkmfegamblmpeaaGreatDoorRows.lean that lists a variable, with what it lists TIED to the program's text (the seventh form; the later family's looks); each row that meets fmt, with fmt's text TOLD by the authors' own Lean function (tested against real Go, not proved from fmt's source: count such statements apart). THE CARD IS WHAT COUNTS. Prove the row's statement (the work); the ties are given (YtkmfegamblmpeaaGreatDoorTie.lean); close each card by the builder's one call (the guide's Derived/Test/ToyasCard.lean, 'card_holds'). Laid BY PROGRAM, IN A SANDBOX (cutbox-door.mjs). By AI agents, Wed Nov 11 2026. No macro, syntax, notation, axiom, sorry.
-/
import Derived.Test.YtkmfegamblmpeaaGreatDoorRows
import GoSem.ClaimSeven
namespace Go.Proofs.YtkmfegamblmpeaaGreatDoor
namespace Rows

/-- THE TIED CARD OF 'cedillalaw14.UcdLooks'. -/
def ucdLooksCard : Claim7 := { stood := { row := ucdLooksRow, standIns := [], harness := (true, "f54246834de8ddcaa452abf6268502c1072d08296bc6e14eb9e22e9c2083af7f"), looks := true }, kinds := [], alts := [], laidByText := true, laidKinds := [.data, .data, .data, .data, .sentinel, .sentinel, .pinned], laidTests := true, laidLooks := .later }
def UcdLooksCardSaid : Prop := Claim7.holds Tryz.pinned (.plain (OpenSpec.ofChange ucdLooksSpec)) ucdLooksCard

/-- THE TIED CARD OF 'cedillalaw14.UcdOf'. -/
def ucdOfCard : Claim7 := { stood := { row := ucdOfRow, standIns := [], harness := (true, "f54246834de8ddcaa452abf6268502c1072d08296bc6e14eb9e22e9c2083af7f"), looks := true }, kinds := [], alts := [], laidByText := true, laidKinds := [.data, .data, .data, .data, .handle, .sentinel, .sentinel, .pinned], laidTests := true, laidLooks := .later }
def UcdOfCardSaid : Prop := Claim7.holds Tryz.pinned (.plain (OpenSpec.ofChange ucdOfSpec)) ucdOfCard

/-- THE SECOND FORM's CARD OF 'cedillalaw14.UcdLooks'. -/
def ucdLooksUptoCard : Claim7 := { stood := { row := ucdLooksUptoRow, standIns := [], harness := (true, "f54246834de8ddcaa452abf6268502c1072d08296bc6e14eb9e22e9c2083af7f"), looks := true }, kinds := [], alts := [], laidByText := true, laidKinds := [.data, .data, .data, .data, .sentinel, .sentinel, .pinned], laidTests := true, laidLooks := .later }
def UcdLooksUptoCardSaid : Prop := Claim7.holds Tryz.pinned (.plain (OpenSpec.upto ucdLooksSpec)) ucdLooksUptoCard

/-- THE SECOND FORM's CARD OF 'cedillalaw14.UcdOf'. -/
def ucdOfUptoCard : Claim7 := { stood := { row := ucdOfUptoRow, standIns := [], harness := (true, "f54246834de8ddcaa452abf6268502c1072d08296bc6e14eb9e22e9c2083af7f"), looks := true }, kinds := [], alts := [], laidByText := true, laidKinds := [.data, .data, .data, .data, .handle, .sentinel, .sentinel, .pinned], laidTests := true, laidLooks := .later }
def UcdOfUptoCardSaid : Prop := Claim7.holds Tryz.pinned (.plain (OpenSpec.upto ucdOfSpec)) ucdOfUptoCard
end Rows
end Go.Proofs.YtkmfegamblmpeaaGreatDoor
