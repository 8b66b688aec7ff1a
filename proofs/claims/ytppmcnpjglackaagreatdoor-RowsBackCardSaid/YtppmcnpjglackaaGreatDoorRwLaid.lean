/- What the rows' list gives to the layer rows: MaxLen, math/bits' and strconv's tables, strconv's two errors. -/
import Derived.Test.YtppmcnpjglackaaGreatDoorFiLaid
import Derived.Test.YtppmcnpjglackaaGreatDoorRwLine
import Derived.LaidHandle
namespace Go.Proofs.YtppmcnpjglackaaGreatDoor
open Go.ChangeShapes Go.WideShapes Go.ChangeAt Go.RowKit
set_option maxRecDepth 100000
set_option linter.unusedVariables false
set_option linter.unusedSimpArgs false

theorem Rw.gPow : Tryz.prog.globalNamed "internal/strconv.uint64pow10" = some 1 := by kernel_rfl
theorem Rw.tPow : (Tryz.prog.globals[1]?).map (·.type) = some 174 := by kernel_rfl
theorem Rw.cPow : Tryz.prog.cellsOf 174 = 20 := by kernel_rfl
theorem Rw.cU64 : Tryz.prog.cellsOf 135 = 1 := by kernel_rfl
theorem Rw.powData {H : Type} : (Rows.laid_internal_strconv_uint64pow10 : DataW H) = Lib.tabData .u64 Lib.pow10Tab := rfl
theorem Rw.tSyn : (Tryz.prog.globals[7]?).map (·.type) = some 36 := by kernel_rfl
theorem Rw.tRng : (Tryz.prog.globals[8]?).map (·.type) = some 36 := by kernel_rfl

theorem Rw.laid_of {laid : List (String × DataW Unit)} (hp : (laid.all fun x => x.2.handleName?.isNone) = true) (hm : ("math/bits.deBruijn64tab", Rows.laid_math_bits_deBruijn64tab) ∈ laid)
    (hm2 : ("internal/strconv.uint64pow10", Rows.laid_internal_strconv_uint64pow10) ∈ laid) (hm3 : ("strconv.ErrSyntax", Rows.laid_strconv_ErrSyntax) ∈ laid) (hm4 : ("strconv.ErrRange", Rows.laid_strconv_ErrRange) ∈ laid)
    {W : World} (h : laidMetH Tryz.prog laid W) (hsh : W.ShapedOpen Tryz.prog) : Rw.Laid W := by
  refine ⟨Fi.laid_of hp hm h hsh, ?_, ?_, ?_⟩
  · rw [MakeChecks.laidMetH_plain _ _ _ hp] at h
    obtain ⟨g, t, cs, fuel, p, h1, h2, h3, h4⟩ := Lib.laidMet.reads h hm2
    obtain rfl := Option.some.inj (Rw.gPow.symm.trans h1)
    obtain rfl := Option.some.inj (Rw.tPow.symm.trans h2)
    rw [Rw.powData] at h4
    unfold Lib.TabIs
    rw [h3, ← Lib.cells_of_tab Tryz.underlying174 Tryz.underlying135 Rw.cU64 Rw.cPow h4]
  · rw [MakeChecks.laidMetH_plain _ _ _ hp] at h
    obtain ⟨g, t, cs, fuel, p, h1, h2, h3, h4⟩ := Lib.laidMet.reads h hm3
    obtain rfl := Option.some.inj (Fi.gSyn.symm.trans h1)
    obtain rfl := Option.some.inj (Rw.tSyn.symm.trans h2)
    obtain ⟨f', u, v, hcs, _, _⟩ := iface_of_trod Tryz.underlying36 h4
    exact ⟨u, v, by rw [h3, Array.eq_one_of_toList hcs]⟩
  · rw [MakeChecks.laidMetH_plain _ _ _ hp] at h
    obtain ⟨g, t, cs, fuel, p, h1, h2, h3, h4⟩ := Lib.laidMet.reads h hm4
    obtain rfl := Option.some.inj (Fi.gRng.symm.trans h1)
    obtain rfl := Option.some.inj (Rw.tRng.symm.trans h2)
    obtain ⟨f', u, v, hcs, _, _⟩ := iface_of_trod Tryz.underlying36 h4
    exact ⟨u, v, by rw [h3, Array.eq_one_of_toList hcs]⟩
end Go.Proofs.YtppmcnpjglackaaGreatDoor
