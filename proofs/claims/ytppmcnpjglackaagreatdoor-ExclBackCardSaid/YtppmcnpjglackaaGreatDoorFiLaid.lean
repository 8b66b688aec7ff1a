/- What the rows' list gives: MaxLen holds a number, math/bits' table is as its text lays it; and that a world meets the list. -/
import Derived.Test.YtppmcnpjglackaaGreatDoorFiBits
import Derived.Test.YtppmcnpjglackaaGreatDoorRows
import Derived.ProofKit
import Derived.OpenShut
import Derived.Deep.DeepHandedRow
import Derived.Lib.LaidTab
import Derived.Lib.LaidU8
import Derived.LaidMore
import Derived.LaidLaws
import Derived.Lay
import Derived.Shelf.Vars
import Derived.MakeChecks
namespace Go.Proofs.YtppmcnpjglackaaGreatDoor
open Go.ChangeShapes Go.WideShapes Go.ChangeAt Go.RowKit
set_option maxRecDepth 100000
set_option linter.unusedVariables false
set_option linter.unusedSimpArgs false

theorem Fi.gMax (w : World) (h : w.ShapedOpen Tryz.prog) : ∃ m : Int, w.cell? ⟨2, 0, none⟩ = some (.int .i64 m) :=
  cell_of_shapedOpen_int h (of_decide_eq_true (by kernel_rfl)) (by kernel_rfl : ((begin Tryz.prog (fun _ _ => 0) default).world.heap[2]?).bind Obj.row? = some (#[.int .i64 0], 3)) (by kernel_rfl) (by kernel_rfl) (by kernel_rfl) Tryz.underlying3
def Fi.zs64 : List Int := [0, 1, 56, 2, 57, 49, 28, 3, 61, 58, 42, 50, 38, 29, 17, 4, 62, 47, 59, 36, 45, 43, 51, 22, 53, 39, 33, 30, 24, 18, 12, 5, 63, 55, 48, 27, 60, 41, 37, 16, 46, 35, 44, 21, 52, 32, 23, 11, 54, 26, 40, 15, 34, 20, 31, 10, 25, 14, 19, 9, 13, 8, 7, 6]
theorem Fi.gTab : Tryz.prog.globalNamed "math/bits.deBruijn64tab" = some 6 := by kernel_rfl
theorem Fi.tTab : (Tryz.prog.globals[6]?).map (·.type) = some 204 := by kernel_rfl
theorem Fi.cTab : Tryz.prog.cellsOf 204 = 64 := by kernel_rfl
theorem Fi.cU8 : Tryz.prog.cellsOf 5 = 1 := by kernel_rfl
theorem Fi.tabData {H : Type} : (Rows.laid_math_bits_deBruijn64tab : DataW H) = Lib.tabData .u8 Fi.zs64 := rfl

theorem Fi.laid_of {laid : List (String × DataW Unit)} (hp : (laid.all fun x => x.2.handleName?.isNone) = true) (hm : ("math/bits.deBruijn64tab", Rows.laid_math_bits_deBruijn64tab) ∈ laid) {W : World} (h : laidMetH Tryz.prog laid W) (hsh : W.ShapedOpen Tryz.prog) : Fi.Laid W := by
  rw [MakeChecks.laidMetH_plain _ _ _ hp] at h
  refine ⟨Fi.gMax W hsh, ?_⟩
  obtain ⟨g, t, cs, fuel, p, h1, h2, h3, h4⟩ := Lib.laidMet.reads h hm
  obtain rfl := Option.some.inj (Fi.gTab.symm.trans h1)
  obtain rfl := Option.some.inj (Fi.tTab.symm.trans h2)
  rw [Fi.tabData] at h4
  have hT : Lib.TabIs Tryz.prog W "math/bits.deBruijn64tab" .u8 Fi.zs64 := by
    unfold Lib.TabIs
    rw [h3, ← Lib.cells_of_tab Tryz.underlying204 Tryz.underlying5 Fi.cU8 Fi.cTab h4]
  exact hT.cell Fi.gTab 15 (by decide)

/-- 'There is an input that fits': the world is the one in which the listed variables are laid. -/
theorem Fi.witness {H : Type} {enc : TypeId × Value → H} (os : Os) {f : FuncId} {fn : Func} {s : OpenSpec} {conds : List PathCond} {apart : Bool} {laid : List (String × DataW Unit)} (args : Array Value)
    (hsh : (World.laidAll Tryz.prog os laid).Shaped Tryz.prog)
    (hok : Input.okWideB Tryz.prog ((World.laidAll Tryz.prog os laid).forCall (fun _ _ => 0) ⟨#[], args, []⟩) f ⟨#[], args, []⟩ = true)
    (hrow : s.preRow enc Tryz.prog fn conds apart laid ((World.laidAll Tryz.prog os laid).forCall (fun _ _ => 0) ⟨#[], args, []⟩).memory args) :
    ∃ (w : World) (tape : Tape) (i : Input), w.os = os ∧ (w.forCall tape i).Shaped Tryz.prog ∧ i.vars = [] ∧ Input.okWide Tryz.prog (w.forCall tape i) .any w.heap.size f i ∧
      s.preRow enc Tryz.prog fn conds apart laid (w.forCall tape i).memory i.args ∧ ({} : Assume).holds Tryz.prog (lone (Frame.enter Tryz.prog f i.args .normal) [] (w.forCall tape i)) :=
  ⟨World.laidAll Tryz.prog os laid, fun _ _ => 0, ⟨#[], args, []⟩, World.laidAll_os _ _ _, hsh, (Input.okWide_of_okWideB (base := 0) hok).1, (Input.okWide_of_okWideB hok).2, hrow, by
    simp only [Assume.holds]
    exact ⟨by simp, by simp, fun _ => Modest.zero, by simp, by simp⟩⟩
end Go.Proofs.YtppmcnpjglackaaGreatDoor
