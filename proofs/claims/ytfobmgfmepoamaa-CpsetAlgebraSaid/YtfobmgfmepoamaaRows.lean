/-
  No cell of these rows narrows 'for every input' (looked for: loops, veiled, ifaces, maps, wideKeys, modest, calm, conditions, laid).
  DERIVED. THE GIVEN ROWS OF THIS SEAT. 5 by the template 'for every input the law returns true; each argument reads behind the call as it read before'; 0 by the template 'total and deterministic' (their statements: YtfobmgfmepoamaaTotals.lean).
  GIVEN WITH THE SEED: the statements are not yours to turn. If you find one false, say at which input.
  Laid BY PROGRAM, IN A SANDBOX (cutbox-rows.mjs): the forced cells as the released guide's own fill.sh prints them over the translation 9d56272dd70e88f7… (all of the seat's roots in one cut). By AI agents, Wed Nov 11 2026. No macro, syntax, notation, axiom, sorry.
-/
import Derived.Test.YtfobmgfmepoamaaChecked
import GoSem.Claim
import GoSem.ClaimJoined
import GoSem.ClaimMapViews
import Derived.JoinedTies
import Derived.KernelRfl
namespace Go.Proofs.Ytfobmgfmepoamaa
/- THE CELL 'sum', in the pinned program and in every row, IS THE sha256 OF THE DUMP (.gsa) THAT YtfobmgfmepoamaaProg.lean LOADS. Nothing in Lean hashes anything: it is a label: what it is worth is what the hold of that sum in a sandbox is worth. -/
noncomputable def Try.pinned : Pinned := { name := "ytfobmgfmepoamaa", sum := "9d56272dd70e88f7d3a4474675968ff98f2287fcc739f24c1ecfb17d62771daa", checked := Try.checked }
namespace Rows
def none {H : Type} : Left H := { results := [], args := [] }

/-- 'cedillalaw06.CpsetRanges': WHATEVER THE INPUT: true; the input reads as it did. -/
def cpsetRangesSpec : ChangeSpec := { name := "cpsetRanges", fn := fun _ => fun
  | [d1, d2] => { results := [.lit (.bool true)], args := [d1, d2] }
  | _ => none }
def cpsetRangesRow : OpenClaim := { program := "ytfobmgfmepoamaa", sum := "9d56272dd70e88f7d3a4474675968ff98f2287fcc739f24c1ecfb17d62771daa", func := "cedilla/cedillalaw06.CpsetRanges", spec := "cpsetRanges", unfollowed := true, recurses := true, apart := false }
def CpsetRangesSaid : Prop := cpsetRangesRow.holds Try.pinned (OpenSpec.ofChange cpsetRangesSpec)

/-- ITS FALSE NEIGHBOUR: 'it returns false'. Refute it at one input. -/
def cpsetRangesWrong : ChangeSpec := { name := "cpsetRanges", fn := fun _ => fun
  | [d1, d2] => { results := [.lit (.bool false)], args := [d1, d2] }
  | _ => none }
def CpsetRangesWrongFalsely : Prop := cpsetRangesRow.holds Try.pinned (OpenSpec.ofChange cpsetRangesWrong)

/-- 'cedillalaw06.CpsetMakes': WHATEVER THE INPUT: true; the input reads as it did. -/
def cpsetMakesSpec : ChangeSpec := { name := "cpsetMakes", fn := fun _ => fun
  | [d] => { results := [.lit (.bool true)], args := [d] }
  | _ => none }
def cpsetMakesRow : OpenClaim := { program := "ytfobmgfmepoamaa", sum := "9d56272dd70e88f7d3a4474675968ff98f2287fcc739f24c1ecfb17d62771daa", func := "cedilla/cedillalaw06.CpsetMakes", spec := "cpsetMakes", unfollowed := true, recurses := true, apart := false }
def CpsetMakesSaid : Prop := cpsetMakesRow.holds Try.pinned (OpenSpec.ofChange cpsetMakesSpec)

/-- ITS FALSE NEIGHBOUR: 'it returns false'. Refute it at one input. -/
def cpsetMakesWrong : ChangeSpec := { name := "cpsetMakes", fn := fun _ => fun
  | [d] => { results := [.lit (.bool false)], args := [d] }
  | _ => none }
def CpsetMakesWrongFalsely : Prop := cpsetMakesRow.holds Try.pinned (OpenSpec.ofChange cpsetMakesWrong)

/-- 'cedillalaw06.CpsetAlgebra': WHATEVER THE INPUT: true; the input reads as it did. -/
def cpsetAlgebraSpec : ChangeSpec := { name := "cpsetAlgebra", fn := fun _ => fun
  | [d1, d2] => { results := [.lit (.bool true)], args := [d1, d2] }
  | _ => none }
def cpsetAlgebraRow : OpenClaim := { program := "ytfobmgfmepoamaa", sum := "9d56272dd70e88f7d3a4474675968ff98f2287fcc739f24c1ecfb17d62771daa", func := "cedilla/cedillalaw06.CpsetAlgebra", spec := "cpsetAlgebra", unfollowed := true, recurses := true, apart := false }
def CpsetAlgebraSaid : Prop := cpsetAlgebraRow.holds Try.pinned (OpenSpec.ofChange cpsetAlgebraSpec)

/-- ITS FALSE NEIGHBOUR: 'it returns false'. Refute it at one input. -/
def cpsetAlgebraWrong : ChangeSpec := { name := "cpsetAlgebra", fn := fun _ => fun
  | [d1, d2] => { results := [.lit (.bool false)], args := [d1, d2] }
  | _ => none }
def CpsetAlgebraWrongFalsely : Prop := cpsetAlgebraRow.holds Try.pinned (OpenSpec.ofChange cpsetAlgebraWrong)

/-- 'cedillalaw06.CpsetPlaces': WHATEVER THE INPUT: true; the input reads as it did. -/
def cpsetPlacesSpec : ChangeSpec := { name := "cpsetPlaces", fn := fun _ => fun
  | [d1, d2, d3] => { results := [.lit (.bool true)], args := [d1, d2, d3] }
  | _ => none }
def cpsetPlacesRow : OpenClaim := { program := "ytfobmgfmepoamaa", sum := "9d56272dd70e88f7d3a4474675968ff98f2287fcc739f24c1ecfb17d62771daa", func := "cedilla/cedillalaw06.CpsetPlaces", spec := "cpsetPlaces", unfollowed := true, recurses := true, apart := false }
def CpsetPlacesSaid : Prop := cpsetPlacesRow.holds Try.pinned (OpenSpec.ofChange cpsetPlacesSpec)

/-- ITS FALSE NEIGHBOUR: 'it returns false'. Refute it at one input. -/
def cpsetPlacesWrong : ChangeSpec := { name := "cpsetPlaces", fn := fun _ => fun
  | [d1, d2, d3] => { results := [.lit (.bool false)], args := [d1, d2, d3] }
  | _ => none }
def CpsetPlacesWrongFalsely : Prop := cpsetPlacesRow.holds Try.pinned (OpenSpec.ofChange cpsetPlacesWrong)

/-- 'cedillalaw06.CpsetChars': WHATEVER THE INPUT: true; the input reads as it did. -/
def cpsetCharsSpec : ChangeSpec := { name := "cpsetChars", fn := fun _ => fun
  | [d] => { results := [.lit (.bool true)], args := [d] }
  | _ => none }
def cpsetCharsRow : OpenClaim := { program := "ytfobmgfmepoamaa", sum := "9d56272dd70e88f7d3a4474675968ff98f2287fcc739f24c1ecfb17d62771daa", func := "cedilla/cedillalaw06.CpsetChars", spec := "cpsetChars", unfollowed := true, recurses := true, apart := false }
def CpsetCharsSaid : Prop := cpsetCharsRow.holds Try.pinned (OpenSpec.ofChange cpsetCharsSpec)

/-- ITS FALSE NEIGHBOUR: 'it returns false'. Refute it at one input. -/
def cpsetCharsWrong : ChangeSpec := { name := "cpsetChars", fn := fun _ => fun
  | [d] => { results := [.lit (.bool false)], args := [d] }
  | _ => none }
def CpsetCharsWrongFalsely : Prop := cpsetCharsRow.holds Try.pinned (OpenSpec.ofChange cpsetCharsWrong)

/- THE SECOND FORM. 'bulk': how many values and letters a reading holds, each counted each time it is reached (what is shared counts as often as it is met; a slice's spare places count too). A statement '..UptoSaid' is the law's where the arguments, and the package variables that the reading takes, are together of bulk at most 1048576: NARROWER than '..Said'. Prove '..Said' where nothing that the law and all that it calls make is longer than what came in: it says more and counts as full. Else prove '..UptoSaid'. A law counts once. -/
mutual
def uptoBulk {H : Type} : DataW H → Nat
  | .lit (.string bytes) => bytes.length + 1
  | .lit _ => 1
  | .nil => 1
  | .ptr d => uptoBulk d + 1
  | .slice elems spare => uptoBulkAll elems + uptoBulkAll spare + 1
  | .agg parts => uptoBulkAll parts + 1
  | .iface _ d => uptoBulk d + 1
  | .map entries => uptoBulkEntries entries + 1
  | .held _ => 1
def uptoBulkAll {H : Type} : List (DataW H) → Nat
  | [] => 0
  | d :: r => uptoBulk d + uptoBulkAll r
def uptoBulkEntries {H : Type} : List (Lit × DataW H) → Nat
  | [] => 0
  | x :: r => uptoBulkEntry x + uptoBulkEntries r
def uptoBulkEntry {H : Type} : Lit × DataW H → Nat
  | (.string bytes, d) => bytes.length + uptoBulk d + 1
  | (_, d) => uptoBulk d + 1
 end
def uptoSmall : (H : Type) → List (DataW H) → Bool := fun _ ds => decide (uptoBulkAll ds ≤ 1048576)
def OpenSpec.upto (s : _root_.Go.ChangeSpec) : _root_.Go.OpenSpec := { _root_.Go.OpenSpec.ofChange s with cond := some uptoSmall }

/-- 'cedillalaw06.CpsetRanges', WHERE WHAT IT READS IS OF BULK AT MOST 1048576: true; the input reads as it did. -/
def cpsetRangesUptoRow : OpenClaim := { program := "ytfobmgfmepoamaa", sum := "9d56272dd70e88f7d3a4474675968ff98f2287fcc739f24c1ecfb17d62771daa", func := "cedilla/cedillalaw06.CpsetRanges", spec := "cpsetRanges", unfollowed := true, recurses := true, apart := false, narrowed := true }
def CpsetRangesUptoSaid : Prop := cpsetRangesUptoRow.holds Try.pinned (OpenSpec.upto cpsetRangesSpec)

/-- 'cedillalaw06.CpsetMakes', WHERE WHAT IT READS IS OF BULK AT MOST 1048576: true; the input reads as it did. -/
def cpsetMakesUptoRow : OpenClaim := { program := "ytfobmgfmepoamaa", sum := "9d56272dd70e88f7d3a4474675968ff98f2287fcc739f24c1ecfb17d62771daa", func := "cedilla/cedillalaw06.CpsetMakes", spec := "cpsetMakes", unfollowed := true, recurses := true, apart := false, narrowed := true }
def CpsetMakesUptoSaid : Prop := cpsetMakesUptoRow.holds Try.pinned (OpenSpec.upto cpsetMakesSpec)

/-- 'cedillalaw06.CpsetAlgebra', WHERE WHAT IT READS IS OF BULK AT MOST 1048576: true; the input reads as it did. -/
def cpsetAlgebraUptoRow : OpenClaim := { program := "ytfobmgfmepoamaa", sum := "9d56272dd70e88f7d3a4474675968ff98f2287fcc739f24c1ecfb17d62771daa", func := "cedilla/cedillalaw06.CpsetAlgebra", spec := "cpsetAlgebra", unfollowed := true, recurses := true, apart := false, narrowed := true }
def CpsetAlgebraUptoSaid : Prop := cpsetAlgebraUptoRow.holds Try.pinned (OpenSpec.upto cpsetAlgebraSpec)

/-- 'cedillalaw06.CpsetPlaces', WHERE WHAT IT READS IS OF BULK AT MOST 1048576: true; the input reads as it did. -/
def cpsetPlacesUptoRow : OpenClaim := { program := "ytfobmgfmepoamaa", sum := "9d56272dd70e88f7d3a4474675968ff98f2287fcc739f24c1ecfb17d62771daa", func := "cedilla/cedillalaw06.CpsetPlaces", spec := "cpsetPlaces", unfollowed := true, recurses := true, apart := false, narrowed := true }
def CpsetPlacesUptoSaid : Prop := cpsetPlacesUptoRow.holds Try.pinned (OpenSpec.upto cpsetPlacesSpec)

/-- 'cedillalaw06.CpsetChars', WHERE WHAT IT READS IS OF BULK AT MOST 1048576: true; the input reads as it did. -/
def cpsetCharsUptoRow : OpenClaim := { program := "ytfobmgfmepoamaa", sum := "9d56272dd70e88f7d3a4474675968ff98f2287fcc739f24c1ecfb17d62771daa", func := "cedilla/cedillalaw06.CpsetChars", spec := "cpsetChars", unfollowed := true, recurses := true, apart := false, narrowed := true }
def CpsetCharsUptoSaid : Prop := cpsetCharsUptoRow.holds Try.pinned (OpenSpec.upto cpsetCharsSpec)

end Rows
end Go.Proofs.Ytfobmgfmepoamaa
