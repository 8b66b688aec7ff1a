/- What the rows' list gives to the law of numbers: strconv's table and its two errors. -/
import Derived.Test.YtbhocnfjpiifiaaGreatDoorFiLaid
import Derived.Test.YtbhocnfjpiifiaaGreatDoorFiNumbers
import Derived.LaidHandle
namespace Go.Proofs.YtbhocnfjpiifiaaGreatDoor
open Go.ChangeShapes Go.WideShapes Go.ChangeAt Go.RowKit
set_option maxRecDepth 100000
set_option linter.unusedVariables false
set_option linter.unusedSimpArgs false

theorem Fi.gPow : Tryz.prog.globalNamed "internal/strconv.uint64pow10" = some 4 := by kernel_rfl
theorem Fi.tPow : (Tryz.prog.globals[4]?).map (·.type) = some 115 := by kernel_rfl
theorem Fi.cPow : Tryz.prog.cellsOf 115 = 20 := by kernel_rfl
theorem Fi.cU64 : Tryz.prog.cellsOf 91 = 1 := by kernel_rfl
theorem Fi.powData {H : Type} : (Rows.laid_internal_strconv_uint64pow10 : DataW H) = Lib.tabData .u64 Lib.pow10Tab := rfl
theorem Fi.tSyn : (Tryz.prog.globals[1]?).map (·.type) = some 40 := by kernel_rfl
theorem Fi.tRng : (Tryz.prog.globals[2]?).map (·.type) = some 40 := by kernel_rfl

theorem Fi.laidF_of {laid : List (String × DataW Unit)} (hp : (laid.all fun x => x.2.handleName?.isNone) = true) (hm : ("math/bits.deBruijn64tab", Rows.laid_math_bits_deBruijn64tab) ∈ laid)
    (hm2 : ("internal/strconv.uint64pow10", Rows.laid_internal_strconv_uint64pow10) ∈ laid) (hm3 : ("strconv.ErrSyntax", Rows.laid_strconv_ErrSyntax) ∈ laid) (hm4 : ("strconv.ErrRange", Rows.laid_strconv_ErrRange) ∈ laid)
    {W : World} (h : laidMetH Tryz.prog laid W) (hsh : W.ShapedOpen Tryz.prog) : Fi.LaidF W := by
  refine ⟨Fi.laid_of hp hm h hsh, ?_, ?_, ?_⟩
  · rw [MakeChecks.laidMetH_plain _ _ _ hp] at h
    obtain ⟨g, t, cs, fuel, p, h1, h2, h3, h4⟩ := Lib.laidMet.reads h hm2
    obtain rfl := Option.some.inj (Fi.gPow.symm.trans h1)
    obtain rfl := Option.some.inj (Fi.tPow.symm.trans h2)
    rw [Fi.powData] at h4
    unfold Lib.TabIs
    rw [h3, ← Lib.cells_of_tab Tryz.underlying115 Tryz.underlying91 Fi.cU64 Fi.cPow h4]
  · rw [MakeChecks.laidMetH_plain _ _ _ hp] at h
    obtain ⟨g, t, cs, fuel, p, h1, h2, h3, h4⟩ := Lib.laidMet.reads h hm3
    obtain rfl := Option.some.inj (Fi.gSyn.symm.trans h1)
    obtain rfl := Option.some.inj (Fi.tSyn.symm.trans h2)
    obtain ⟨f', u, v, hcs, _, _⟩ := iface_of_trod Tryz.underlying40 h4
    exact ⟨u, v, by rw [h3, Array.eq_one_of_toList hcs]⟩
  · rw [MakeChecks.laidMetH_plain _ _ _ hp] at h
    obtain ⟨g, t, cs, fuel, p, h1, h2, h3, h4⟩ := Lib.laidMet.reads h hm4
    obtain rfl := Option.some.inj (Fi.gRng.symm.trans h1)
    obtain rfl := Option.some.inj (Fi.tRng.symm.trans h2)
    obtain ⟨f', u, v, hcs, _, _⟩ := iface_of_trod Tryz.underlying40 h4
    exact ⟨u, v, by rw [h3, Array.eq_one_of_toList hcs]⟩
end Go.Proofs.YtbhocnfjpiifiaaGreatDoor
