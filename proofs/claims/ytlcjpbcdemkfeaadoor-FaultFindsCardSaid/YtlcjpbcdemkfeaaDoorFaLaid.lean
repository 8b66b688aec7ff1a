/- What the rows' list gives: errors' type 'error', strconv's table; and a world that meets the list. -/
import Derived.Test.YtlcjpbcdemkfeaaDoorFaLib
import Derived.ProofKit
import Derived.OpenShut
import Derived.Deep.DeepHandedRow
import Derived.Lib.LaidTab
import Derived.LaidMore
import Derived.LaidLaws
import Derived.LaidHandle
namespace Go.Proofs.YtlcjpbcdemkfeaaDoor
open Go.ChangeShapes Go.WideShapes Go.ChangeAt Go.RowKit
set_option linter.unusedVariables false
set_option linter.unusedSimpArgs false

theorem F.gType : Tryd.prog.globalNamed "errors.errorType" = some 0 := by kernel_rfl
theorem F.gPow : Tryd.prog.globalNamed "internal/strconv.uint64pow10" = some 1 := by kernel_rfl
theorem F.tPow : (Tryd.prog.globals[1]?).map (·.type) = some 124 := by kernel_rfl
theorem F.cPow : Tryd.prog.cellsOf 124 = 20 := by kernel_rfl
theorem F.cU64 : Tryd.prog.cellsOf 95 = 1 := by kernel_rfl
theorem F.rtype : (Tryd.prog.cutTypes.find? (·.1 == "internal/reflectlite.rtype")).map (·.2) = some 99 := by kernel_rfl
theorem F.oneRow : ((List.range 159).filter fun t => Tryd.prog.rowNamed t [101, 114, 114, 111, 114]) = [27] := by kernel_rfl
theorem F.typesSize : Tryd.prog.types.size = 159 := by kernel_rfl
theorem F.powData {H : Type} : (Rows.laid_internal_strconv_uint64pow10 : DataW H) = Lib.tabData .u64 Lib.pow10Tab := rfl

theorem F.laid_of {W : World} (h : laidMetH Tryd.prog [("math/bits.deBruijn32tab", Rows.laid_math_bits_deBruijn32tab), ("math/bits.deBruijn64tab", Rows.laid_math_bits_deBruijn64tab), ("internal/strconv.uint64pow10", Rows.laid_internal_strconv_uint64pow10), ("errors.errorType", Rows.laid_errors_errorType)] W) : F.Laid W := by
  have h' : laidMet Tryd.prog [("math/bits.deBruijn32tab", Rows.laid_math_bits_deBruijn32tab), ("math/bits.deBruijn64tab", Rows.laid_math_bits_deBruijn64tab), ("internal/strconv.uint64pow10", Rows.laid_internal_strconv_uint64pow10)] W ∧ handlesMet Tryd.prog [("errors.errorType", Rows.laid_errors_errorType)] W := h
  obtain ⟨⟨ps, hV, _⟩, hH⟩ := h'
  constructor
  · obtain ⟨name, u, ty, e1, e2, e3, e4, e5⟩ := hH _ (List.mem_singleton.2 rfl)
    have en : name = [101, 114, 114, 111, 114] := (Option.some.inj e1).symm
    subst en
    obtain rfl := Option.some.inj (F.rtype.symm.trans e2)
    have hm : ty ∈ (List.range 159).filter fun t => Tryd.prog.rowNamed t [101, 114, 114, 111, 114] := List.mem_filter.2 ⟨List.mem_range.2 (by rw [← F.typesSize]; exact e3), e4⟩
    rw [F.oneRow] at hm
    obtain rfl := List.mem_singleton.1 hm
    have hh : typeHandle Tryd.prog 27 = .pointer (some ⟨5, 27, none⟩) := by kernel_rfl
    rw [hh] at e5
    simpa using World.var?_cell F.gType e5 0
  · obtain ⟨_, _, _, _, _, _, _, _, _, _, hV2, _⟩ := hV
    obtain ⟨_, _, _, _, _, _, _, _, _, _, hV3, _⟩ := hV2
    obtain ⟨g', t', cs, fuel, p, q, hg', ht', hvar, hd, _, _⟩ := hV3
    obtain rfl := Option.some.inj (F.gPow.symm.trans hg')
    obtain rfl := Option.some.inj (F.tPow.symm.trans ht')
    rw [F.powData] at hd
    unfold Lib.TabIs
    rw [hvar, ← Lib.cells_of_tab Tryd.underlying124 Tryd.underlying95 F.cU64 F.cPow hd]

def F.cellsD : DataW Unit → Array Value
  | .agg l => (l.map fun | .lit (.int k z) => Value.int k z | _ => .nilIface).toArray
  | _ => #[]
def F.putCells (h : Array Obj) (g : Nat) (cs : Array Value) : Array Obj := h.modify g fun
  | .cells _ t frozen => .cells cs t frozen
  | o => o
noncomputable def laidWorld (os : Os) : World :=
  { World.holding Tryd.prog os ⟨#[], #[], []⟩ with heap := F.putCells (F.putCells (F.putCells (F.putCells (World.holding Tryd.prog os ⟨#[], #[], []⟩).heap 0 #[.iface 99 (.agg #[.pointer (some ⟨5, 27, none⟩)])]) 1 (F.cellsD Rows.laid_internal_strconv_uint64pow10)) 3 (F.cellsD Rows.laid_math_bits_deBruijn32tab)) 4 (F.cellsD Rows.laid_math_bits_deBruijn64tab) }
theorem F.laid_data (os : Os) (args : Array Value) : laidMet Tryd.prog [("math/bits.deBruijn32tab", Rows.laid_math_bits_deBruijn32tab), ("math/bits.deBruijn64tab", Rows.laid_math_bits_deBruijn64tab), ("internal/strconv.uint64pow10", Rows.laid_internal_strconv_uint64pow10)] ((laidWorld os).forCall (fun _ _ => 0) ⟨#[], args, []⟩).memory :=
  laidMet_of_run' 8 (by kernel_rfl) (by kernel_rfl)
theorem laid_met (os : Os) (args : Array Value) : laidMetH Tryd.prog [("math/bits.deBruijn32tab", Rows.laid_math_bits_deBruijn32tab), ("math/bits.deBruijn64tab", Rows.laid_math_bits_deBruijn64tab), ("internal/strconv.uint64pow10", Rows.laid_internal_strconv_uint64pow10), ("errors.errorType", Rows.laid_errors_errorType)] ((laidWorld os).forCall (fun _ _ => 0) ⟨#[], args, []⟩).memory :=
  laidMetH_of_parts (F.laid_data os args) (by kernel_rfl)
end Go.Proofs.YtlcjpbcdemkfeaaDoor
