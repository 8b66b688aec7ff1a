/-
  No cell of these rows narrows 'for every input' (looked for: loops, veiled, ifaces, maps, wideKeys, modest, calm, conditions, laid).
  DERIVED. THE GIVEN ROWS OF THIS SEAT. 4 by the template 'for every input the law returns true; each argument reads behind the call as it read before'; 0 by the template 'total and deterministic' (their statements: YtamcpdggpdaioaaTotals.lean).
  GIVEN WITH THE SEED: the statements are not yours to turn. If you find one false, say at which input.
  Laid BY PROGRAM, IN A SANDBOX (cutbox-rows.mjs): the forced cells as the released guide's own fill.sh prints them over the translation 71eef6ed9e8437e6… (all of the seat's roots in one cut). By AI agents, Wed Nov 11 2026. No macro, syntax, notation, axiom, sorry.
-/
import Derived.Test.YtamcpdggpdaioaaChecked
import GoSem.Claim
import GoSem.ClaimJoined
import GoSem.ClaimMapViews
import Derived.JoinedTies
import Derived.KernelRfl
namespace Go.Proofs.Ytamcpdggpdaioaa
/- THE CELL 'sum', in the pinned program and in every row, IS THE sha256 OF THE DUMP (.gsa) THAT YtamcpdggpdaioaaProg.lean LOADS. Nothing in Lean hashes anything: it is a label: what it is worth is what the hold of that sum in a sandbox is worth. -/
noncomputable def Try.pinned : Pinned := { name := "ytamcpdggpdaioaa", sum := "71eef6ed9e8437e6d0b3d7934550d68543da974cade93020a5de3c406ec1a50c", checked := Try.checked }
namespace Rows
def none {H : Type} : Left H := { results := [], args := [] }

/-- 'cedillalaw13.PagesGets': WHATEVER THE INPUT: true; the input reads as it did. -/
def pagesGetsSpec : ChangeSpec := { name := "pagesGets", fn := fun _ => fun
  | [d1, d2] => { results := [.lit (.bool true)], args := [d1, d2] }
  | _ => none }
def pagesGetsRow : OpenClaim := { program := "ytamcpdggpdaioaa", sum := "71eef6ed9e8437e6d0b3d7934550d68543da974cade93020a5de3c406ec1a50c", func := "cedilla/cedillalaw13.PagesGets", spec := "pagesGets", plainKeys := false, apart := false }
def PagesGetsSaid : Prop := pagesGetsRow.holds Try.pinned (OpenSpec.ofChange pagesGetsSpec)

/-- ITS FALSE NEIGHBOUR: 'it returns false'. Refute it at one input. -/
def pagesGetsWrong : ChangeSpec := { name := "pagesGets", fn := fun _ => fun
  | [d1, d2] => { results := [.lit (.bool false)], args := [d1, d2] }
  | _ => none }
def PagesGetsWrongFalsely : Prop := pagesGetsRow.holds Try.pinned (OpenSpec.ofChange pagesGetsWrong)

/-- 'cedillalaw13.PagesCells': WHATEVER THE INPUT: true; the input reads as it did. -/
def pagesCellsSpec : ChangeSpec := { name := "pagesCells", fn := fun _ => fun
  | [d] => { results := [.lit (.bool true)], args := [d] }
  | _ => none }
def pagesCellsRow : OpenClaim := { program := "ytamcpdggpdaioaa", sum := "71eef6ed9e8437e6d0b3d7934550d68543da974cade93020a5de3c406ec1a50c", func := "cedilla/cedillalaw13.PagesCells", spec := "pagesCells", plainKeys := false, apart := false }
def PagesCellsSaid : Prop := pagesCellsRow.holds Try.pinned (OpenSpec.ofChange pagesCellsSpec)

/-- ITS FALSE NEIGHBOUR: 'it returns false'. Refute it at one input. -/
def pagesCellsWrong : ChangeSpec := { name := "pagesCells", fn := fun _ => fun
  | [d] => { results := [.lit (.bool false)], args := [d] }
  | _ => none }
def PagesCellsWrongFalsely : Prop := pagesCellsRow.holds Try.pinned (OpenSpec.ofChange pagesCellsWrong)

/-- 'cedillalaw13.PagesOrder': WHATEVER THE INPUT: true; the input reads as it did. -/
def pagesOrderSpec : ChangeSpec := { name := "pagesOrder", fn := fun _ => fun
  | [d] => { results := [.lit (.bool true)], args := [d] }
  | _ => none }
def pagesOrderRow : OpenClaim := { program := "ytamcpdggpdaioaa", sum := "71eef6ed9e8437e6d0b3d7934550d68543da974cade93020a5de3c406ec1a50c", func := "cedilla/cedillalaw13.PagesOrder", spec := "pagesOrder", plainKeys := false, apart := false }
def PagesOrderSaid : Prop := pagesOrderRow.holds Try.pinned (OpenSpec.ofChange pagesOrderSpec)

/-- ITS FALSE NEIGHBOUR: 'it returns false'. Refute it at one input. -/
def pagesOrderWrong : ChangeSpec := { name := "pagesOrder", fn := fun _ => fun
  | [d] => { results := [.lit (.bool false)], args := [d] }
  | _ => none }
def PagesOrderWrongFalsely : Prop := pagesOrderRow.holds Try.pinned (OpenSpec.ofChange pagesOrderWrong)

/-- 'cedillalaw12.ModelDenotes': WHATEVER THE INPUT: true; the input reads as it did. -/
def modelDenotesSpec : ChangeSpec := { name := "modelDenotes", fn := fun _ => fun
  | [d1, d2] => { results := [.lit (.bool true)], args := [d1, d2] }
  | _ => none }
def modelDenotesRow : OpenClaim := { program := "ytamcpdggpdaioaa", sum := "71eef6ed9e8437e6d0b3d7934550d68543da974cade93020a5de3c406ec1a50c", func := "cedilla/cedillalaw12.ModelDenotes", spec := "modelDenotes", unfollowed := true, recurses := true, plainKeys := false, apart := false }
def ModelDenotesSaid : Prop := modelDenotesRow.holds Try.pinned (OpenSpec.ofChange modelDenotesSpec)

/-- ITS FALSE NEIGHBOUR: 'it returns false'. Refute it at one input. -/
def modelDenotesWrong : ChangeSpec := { name := "modelDenotes", fn := fun _ => fun
  | [d1, d2] => { results := [.lit (.bool false)], args := [d1, d2] }
  | _ => none }
def ModelDenotesWrongFalsely : Prop := modelDenotesRow.holds Try.pinned (OpenSpec.ofChange modelDenotesWrong)

/- THE SECOND FORM. 'bulk': how many values and letters a reading holds, each counted each time it is reached (what is shared counts as often as it is met; a slice's spare places count too). A statement '..UptoSaid' is the law's where the arguments, and the package variables that the reading takes, are together of bulk at most 1048576: NARROWER than '..Said'. Prove '..Said' where nothing that the law and all that it calls make is longer than what came in: it says more and counts as full. Else prove '..UptoSaid'. A law counts once. -/
mutual
def uptoBulk {H : Type} : DataW H → Nat
  | .lit (.string bytes) => bytes.length + 1
  | .lit _ => 1
  | .nil => 1
  | .ptr d => uptoBulk d + 1
  | .slice elems spare => uptoBulkAll elems + uptoBulkAll spare + 1
  | .agg parts => uptoBulkAll parts + 1
  | .iface _ d => uptoBulk d + 1
  | .map entries => uptoBulkEntries entries + 1
  | .held _ => 1
def uptoBulkAll {H : Type} : List (DataW H) → Nat
  | [] => 0
  | d :: r => uptoBulk d + uptoBulkAll r
def uptoBulkEntries {H : Type} : List (Lit × DataW H) → Nat
  | [] => 0
  | x :: r => uptoBulkEntry x + uptoBulkEntries r
def uptoBulkEntry {H : Type} : Lit × DataW H → Nat
  | (.string bytes, d) => bytes.length + uptoBulk d + 1
  | (_, d) => uptoBulk d + 1
 end
def uptoSmall : (H : Type) → List (DataW H) → Bool := fun _ ds => decide (uptoBulkAll ds ≤ 1048576)
def OpenSpec.upto (s : _root_.Go.ChangeSpec) : _root_.Go.OpenSpec := { _root_.Go.OpenSpec.ofChange s with cond := some uptoSmall }

/-- 'cedillalaw13.PagesGets', WHERE WHAT IT READS IS OF BULK AT MOST 1048576: true; the input reads as it did. -/
def pagesGetsUptoRow : OpenClaim := { program := "ytamcpdggpdaioaa", sum := "71eef6ed9e8437e6d0b3d7934550d68543da974cade93020a5de3c406ec1a50c", func := "cedilla/cedillalaw13.PagesGets", spec := "pagesGets", plainKeys := false, apart := false, narrowed := true }
def PagesGetsUptoSaid : Prop := pagesGetsUptoRow.holds Try.pinned (OpenSpec.upto pagesGetsSpec)

/-- 'cedillalaw13.PagesCells', WHERE WHAT IT READS IS OF BULK AT MOST 1048576: true; the input reads as it did. -/
def pagesCellsUptoRow : OpenClaim := { program := "ytamcpdggpdaioaa", sum := "71eef6ed9e8437e6d0b3d7934550d68543da974cade93020a5de3c406ec1a50c", func := "cedilla/cedillalaw13.PagesCells", spec := "pagesCells", plainKeys := false, apart := false, narrowed := true }
def PagesCellsUptoSaid : Prop := pagesCellsUptoRow.holds Try.pinned (OpenSpec.upto pagesCellsSpec)

/-- 'cedillalaw13.PagesOrder', WHERE WHAT IT READS IS OF BULK AT MOST 1048576: true; the input reads as it did. -/
def pagesOrderUptoRow : OpenClaim := { program := "ytamcpdggpdaioaa", sum := "71eef6ed9e8437e6d0b3d7934550d68543da974cade93020a5de3c406ec1a50c", func := "cedilla/cedillalaw13.PagesOrder", spec := "pagesOrder", plainKeys := false, apart := false, narrowed := true }
def PagesOrderUptoSaid : Prop := pagesOrderUptoRow.holds Try.pinned (OpenSpec.upto pagesOrderSpec)

/-- 'cedillalaw12.ModelDenotes', WHERE WHAT IT READS IS OF BULK AT MOST 1048576: true; the input reads as it did. -/
def modelDenotesUptoRow : OpenClaim := { program := "ytamcpdggpdaioaa", sum := "71eef6ed9e8437e6d0b3d7934550d68543da974cade93020a5de3c406ec1a50c", func := "cedilla/cedillalaw12.ModelDenotes", spec := "modelDenotes", unfollowed := true, recurses := true, plainKeys := false, apart := false, narrowed := true }
def ModelDenotesUptoSaid : Prop := modelDenotesUptoRow.holds Try.pinned (OpenSpec.upto modelDenotesSpec)

end Rows
end Go.Proofs.Ytamcpdggpdaioaa
