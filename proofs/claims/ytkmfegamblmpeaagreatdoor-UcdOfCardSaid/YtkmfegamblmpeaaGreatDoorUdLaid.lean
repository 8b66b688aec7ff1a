/- A document's table that came in. -/
import Derived.Test.YtkmfegamblmpeaaGreatDoorRwOpen
import Derived.Lib.SmallJoins
import Derived.Test.YtkmfegamblmpeaaGreatDoorUdOfLaw
import Derived.Test.YtkmfegamblmpeaaGreatDoorFiBits
import Derived.Test.YtkmfegamblmpeaaGreatDoorRows
import Derived.ProofKit
import Derived.OpenShut
import Derived.Deep.DeepHandedRow
import Derived.Lib.LaidTab
import Derived.Lib.LaidU8
import Derived.LaidMore
import Derived.LaidLaws
import Derived.Lay
import Derived.Shelf.Vars
import Derived.MakeChecks
import Derived.Test.YtkmfegamblmpeaaGreatDoorRwLine
import Derived.LaidHandle
import Derived.Test.YtkmfegamblmpeaaGreatDoorFaChain
namespace Go.Proofs.YtkmfegamblmpeaaGreatDoor
open Go.ChangeShapes Go.WideShapes Go.RowKit Go.Deep Go.Joins
set_option linter.unusedVariables false

theorem Md.one_slice {H : Type} {enc : TypeId × Value → H} {P : Program} {w : World} {t e : TypeId} {fuel : Nat} {v : Value} {x : DataW H × List MemPlace} (ht : P.underlying t = some (.slice e)) (h : DataW.trod enc P w 0 (fun _ => true) true fuel t [v] = some x) :
    ∃ a len cap, v = .slice a len cap := by
  rcases open_slice ht h with ⟨hcs, _⟩ | ⟨ad, l, c, m, n, D, Pl, hcs, _⟩
  · simp only [List.cons.injEq, and_true] at hcs
    exact ⟨_, _, _, hcs⟩
  · simp only [List.cons.injEq, and_true] at hcs
    exact ⟨_, _, _, hcs⟩
theorem Md.isRow_of {H : Type} {enc : TypeId × Value → H} {P : Program} {w : World} {t q : TypeId} {fuel : Nat} {a : Option Addr} {len cap : Nat} {x : DataW H × List MemPlace} (k2 : P.underlying t = some (.slice q)) (k3 : P.underlying q = some (.int .i64)) (c3 : P.cellsOf q = 1)
    (h : DataW.trod enc P w 0 (fun _ => true) true fuel t [.slice a len cap] = some x) : ∃ zs, IsRow .i64 w a len cap zs := by
  rcases open_ints k2 k3 c3 h with ⟨hcs, _⟩ | ⟨x, l, c, zs, hcs, _, hl, hm, hz, _, hcell, hwz⟩
  · simp only [List.cons.injEq, Value.slice.injEq, and_true] at hcs
    obtain ⟨rfl, rfl, rfl⟩ := hcs
    exact ⟨[], .inl ⟨rfl, rfl, rfl, rfl⟩⟩
  · simp only [List.cons.injEq, Value.slice.injEq, and_true] at hcs
    obtain ⟨rfl, rfl, rfl⟩ := hcs
    exact ⟨zs, .inr ⟨_, rfl, hl, hm, by simpa using hz, hcell, hwz⟩⟩
set_option maxRecDepth 100000 in
theorem Md.open_tab {H : Type} {enc : TypeId × Value → H} {W : World} {v : Value} {d : DataW H} {p : List MemPlace} (hv : Value.okWide Tryz.prog W .any 0 25 v) (h : DataW.Trod enc Tryz.prog W 0 (fun _ => true) true 25 v d p) :
    ∃ A n c XA xn xc l zs, v = .agg #[.slice A n c, .slice XA xn xc] ∧ Rw.IsRows W A n c l ∧ IsRow .i64 W XA xn xc zs := by
  obtain ⟨c0, c1, y0, y1, m, rfl, rfl, rfl, hy0, hy1⟩ := open_agg2 Tryz.underlying25 (by kernel_rfl) (by kernel_rfl) hv h
  obtain ⟨A, n, c, rfl⟩ := Md.one_slice Tryz.underlying22 hy0
  obtain ⟨XA, xn, xc, rfl⟩ := Md.one_slice Tryz.underlying23 hy1
  obtain ⟨l, hl⟩ := Rw.isRows_of (q := 3) Tryz.underlying22 Tryz.underlying59 (by kernel_rfl) rfl rfl rfl (by kernel_rfl) (by kernel_rfl) (by kernel_rfl) (by kernel_rfl) (by kernel_rfl) (by kernel_rfl) (by kernel_rfl) (by kernel_rfl) hy0
  obtain ⟨zs, hzs⟩ := Md.isRow_of Tryz.underlying23 Tryz.underlying3 (by kernel_rfl) hy1
  exact ⟨A, n, c, XA, xn, xc, l, zs, rfl, hl, hzs⟩
end Go.Proofs.YtkmfegamblmpeaaGreatDoor

/- The law UcdOf, of the arguments as they come in. -/
namespace Go.Proofs.YtkmfegamblmpeaaGreatDoor
open Go.RowKit
set_option linter.unusedVariables false
theorem Ud.of_row (w : World) (A : Option Addr) (n c : Nat) (XA : Option Addr) (xn xc : Nat) (l : List Rw.Row) (zs : List Int) (hI : Rw.IsRows w A n c l) (hR : IsRow .i64 w XA xn xc zs) (hL : Rw.Laid w ∧ F.LaidE w) :
    Calls Tryz.prog 4 #[.agg #[.slice A n c, .slice XA xn xc]] w fun e w' => e = .returned (.bool true) ∧ Below w.heap.size w w' := by
  obtain ⟨ads, hads, hlen, hlc, hcm, hS, hSm, hbd⟩ := hI
  obtain ⟨q1, q2, q3⟩ := hR.len_le
  exact Ud.ucdof_any A XA n c xn xc l (zs.take xn) w hlen (by rw [List.length_take]; omega) (by omega) (by omega) hbd ⟨ads, hads, hS, hSm⟩ (hR.sl xn (Nat.le_refl _)) hL.1 hL.2
end Go.Proofs.YtkmfegamblmpeaaGreatDoor

/- What the rows' list gives: MaxLen holds a number, math/bits' table is as its text lays it; and that a world meets the list. -/
namespace Go.Proofs.YtkmfegamblmpeaaGreatDoor
open Go.ChangeShapes Go.WideShapes Go.ChangeAt Go.RowKit
set_option maxRecDepth 100000
set_option linter.unusedVariables false
set_option linter.unusedSimpArgs false

theorem Fi.gMax (w : World) (h : w.ShapedOpen Tryz.prog) : ∃ m : Int, w.cell? ⟨1, 0, none⟩ = some (.int .i64 m) :=
  cell_of_shapedOpen_int h (of_decide_eq_true (by kernel_rfl)) (by kernel_rfl : ((begin Tryz.prog (fun _ _ => 0) default).world.heap[1]?).bind Obj.row? = some (#[.int .i64 0], 3)) (by kernel_rfl) (by kernel_rfl) (by kernel_rfl) Tryz.underlying3
def Fi.zs64 : List Int := [0, 1, 56, 2, 57, 49, 28, 3, 61, 58, 42, 50, 38, 29, 17, 4, 62, 47, 59, 36, 45, 43, 51, 22, 53, 39, 33, 30, 24, 18, 12, 5, 63, 55, 48, 27, 60, 41, 37, 16, 46, 35, 44, 21, 52, 32, 23, 11, 54, 26, 40, 15, 34, 20, 31, 10, 25, 14, 19, 9, 13, 8, 7, 6]
theorem Fi.gTab : Tryz.prog.globalNamed "math/bits.deBruijn64tab" = some 8 := by kernel_rfl
theorem Fi.tTab : (Tryz.prog.globals[8]?).map (·.type) = some 288 := by kernel_rfl
theorem Fi.cTab : Tryz.prog.cellsOf 288 = 64 := by kernel_rfl
theorem Fi.cU8 : Tryz.prog.cellsOf 5 = 1 := by kernel_rfl
theorem Fi.tabData {H : Type} : (Rows.laid_math_bits_deBruijn64tab : DataW H) = Lib.tabData .u8 Fi.zs64 := rfl

theorem Fi.laid_of {laid : List (String × DataW Unit)} (hp : (laid.all fun x => x.2.handleName?.isNone) = true) (hm : ("math/bits.deBruijn64tab", Rows.laid_math_bits_deBruijn64tab) ∈ laid) {W : World} (h : laidMetH Tryz.prog laid W) (hsh : W.ShapedOpen Tryz.prog) : Fi.Laid W := by
  rw [MakeChecks.laidMetH_plain _ _ _ hp] at h
  refine ⟨Fi.gMax W hsh, ?_⟩
  obtain ⟨g, t, cs, fuel, p, h1, h2, h3, h4⟩ := Lib.laidMet.reads h hm
  obtain rfl := Option.some.inj (Fi.gTab.symm.trans h1)
  obtain rfl := Option.some.inj (Fi.tTab.symm.trans h2)
  rw [Fi.tabData] at h4
  have hT : Lib.TabIs Tryz.prog W "math/bits.deBruijn64tab" .u8 Fi.zs64 := by
    unfold Lib.TabIs
    rw [h3, ← Lib.cells_of_tab Tryz.underlying288 Tryz.underlying5 Fi.cU8 Fi.cTab h4]
  exact hT.cell Fi.gTab 15 (by decide)

end Go.Proofs.YtkmfegamblmpeaaGreatDoor

/- What the rows' list gives to the layer rows: MaxLen, math/bits' and strconv's tables, strconv's two errors. -/
namespace Go.Proofs.YtkmfegamblmpeaaGreatDoor
open Go.ChangeShapes Go.WideShapes Go.ChangeAt Go.RowKit
set_option maxRecDepth 100000
set_option linter.unusedVariables false
set_option linter.unusedSimpArgs false

theorem Rw.gPow : Tryz.prog.globalNamed "internal/strconv.uint64pow10" = some 6 := by kernel_rfl
theorem Rw.tPow : (Tryz.prog.globals[6]?).map (·.type) = some 285 := by kernel_rfl
theorem Rw.cPow : Tryz.prog.cellsOf 285 = 20 := by kernel_rfl
theorem Rw.cU64 : Tryz.prog.cellsOf 190 = 1 := by kernel_rfl
theorem Rw.powData {H : Type} : (Rows.laid_internal_strconv_uint64pow10 : DataW H) = Lib.tabData .u64 Lib.pow10Tab := rfl
theorem Rw.tSyn : (Tryz.prog.globals[4]?).map (·.type) = some 45 := by kernel_rfl
theorem Rw.tRng : (Tryz.prog.globals[5]?).map (·.type) = some 45 := by kernel_rfl

theorem Rw.laid_of {laid : List (String × DataW Unit)} (hp : (laid.all fun x => x.2.handleName?.isNone) = true) (hm : ("math/bits.deBruijn64tab", Rows.laid_math_bits_deBruijn64tab) ∈ laid)
    (hm2 : ("internal/strconv.uint64pow10", Rows.laid_internal_strconv_uint64pow10) ∈ laid) (hm3 : ("strconv.ErrSyntax", Rows.laid_strconv_ErrSyntax) ∈ laid) (hm4 : ("strconv.ErrRange", Rows.laid_strconv_ErrRange) ∈ laid)
    {W : World} (h : laidMetH Tryz.prog laid W) (hsh : W.ShapedOpen Tryz.prog) : Rw.Laid W := by
  refine ⟨Fi.laid_of hp hm h hsh, ?_, ?_, ?_⟩
  · rw [MakeChecks.laidMetH_plain _ _ _ hp] at h
    obtain ⟨g, t, cs, fuel, p, h1, h2, h3, h4⟩ := Lib.laidMet.reads h hm2
    obtain rfl := Option.some.inj (Rw.gPow.symm.trans h1)
    obtain rfl := Option.some.inj (Rw.tPow.symm.trans h2)
    rw [Rw.powData] at h4
    unfold Lib.TabIs
    rw [h3, ← Lib.cells_of_tab Tryz.underlying285 Tryz.underlying190 Rw.cU64 Rw.cPow h4]
  · rw [MakeChecks.laidMetH_plain _ _ _ hp] at h
    obtain ⟨g, t, cs, fuel, p, h1, h2, h3, h4⟩ := Lib.laidMet.reads h hm3
    obtain rfl := Option.some.inj (Fi.gSyn.symm.trans h1)
    obtain rfl := Option.some.inj (Rw.tSyn.symm.trans h2)
    obtain ⟨f', u, v, hcs, _, _⟩ := iface_of_trod Tryz.underlying45 h4
    exact ⟨u, v, by rw [h3, Array.eq_one_of_toList hcs]⟩
  · rw [MakeChecks.laidMetH_plain _ _ _ hp] at h
    obtain ⟨g, t, cs, fuel, p, h1, h2, h3, h4⟩ := Lib.laidMet.reads h hm4
    obtain rfl := Option.some.inj (Fi.gRng.symm.trans h1)
    obtain rfl := Option.some.inj (Rw.tRng.symm.trans h2)
    obtain ⟨f', u, v, hcs, _, _⟩ := iface_of_trod Tryz.underlying45 h4
    exact ⟨u, v, by rw [h3, Array.eq_one_of_toList hcs]⟩
end Go.Proofs.YtkmfegamblmpeaaGreatDoor

/- What the rows' list gives: errors' type 'error'; and a world that meets the list. -/
namespace Go.Proofs.YtkmfegamblmpeaaGreatDoor
open Go.ChangeShapes Go.WideShapes Go.ChangeAt Go.RowKit
set_option linter.unusedVariables false
set_option linter.unusedSimpArgs false

theorem F.gType : Tryz.prog.globalNamed "errors.errorType" = some 0 := by kernel_rfl
theorem F.rtype : (Tryz.prog.cutTypes.find? (·.1 == "internal/reflectlite.rtype")).map (·.2) = some 196 := by kernel_rfl
theorem F.oneRow : ((List.range 316).filter fun t => Tryz.prog.rowNamed t [101, 114, 114, 111, 114]) = [45] := by kernel_rfl
theorem F.typesSize : Tryz.prog.types.size = 316 := by kernel_rfl
theorem F.laidE_of {W : World} (h : laidMetH Tryz.prog [("errors.errorType", Rows.laid_errors_errorType)] W) : F.LaidE W := by
  have h' : laidMet Tryz.prog [] W ∧ handlesMet Tryz.prog [("errors.errorType", Rows.laid_errors_errorType)] W := h
  obtain ⟨_, hH⟩ := h'
  obtain ⟨name, u, ty, e1, e2, e3, e4, e5⟩ := hH _ (List.mem_singleton.2 rfl)
  have en : name = [101, 114, 114, 111, 114] := (Option.some.inj e1).symm
  subst en
  obtain rfl := Option.some.inj (F.rtype.symm.trans e2)
  have hm : ty ∈ (List.range 316).filter fun t => Tryz.prog.rowNamed t [101, 114, 114, 111, 114] := List.mem_filter.2 ⟨List.mem_range.2 (by rw [← F.typesSize]; exact e3), e4⟩
  rw [F.oneRow] at hm
  obtain rfl := List.mem_singleton.1 hm
  have hh : typeHandle Tryz.prog 45 = .pointer (some ⟨9, 45, none⟩) := by kernel_rfl
  rw [hh] at e5
  simpa [F.LaidE] using World.var?_cell F.gType e5 0

def F.putCells (h : Array Obj) (g : Nat) (cs : Array Value) : Array Obj := h.modify g fun
  | .cells _ t frozen => .cells cs t frozen
  | o => o
noncomputable def laidWorld (os : Os) : World :=
  { World.holding Tryz.prog os ⟨#[], #[], []⟩ with heap := F.putCells (World.holding Tryz.prog os ⟨#[], #[], []⟩).heap 0 #[.iface 196 (.agg #[.pointer (some ⟨9, 45, none⟩)])] }
end Go.Proofs.YtkmfegamblmpeaaGreatDoor

/- What the rows' list gives where errors' type 'error' is listed beside the library's data: both; and a world that meets such a list. -/
namespace Go.Proofs.YtkmfegamblmpeaaGreatDoor
open Go.ChangeShapes Go.WideShapes Go.ChangeAt Go.RowKit
set_option maxRecDepth 100000
set_option linter.unusedVariables false
set_option linter.unusedSimpArgs false
theorem Ud.laidE_of {laid : List (String × DataW Unit)} (hs : (laid.filter fun x => x.2.handleName?.isSome) = [("errors.errorType", Rows.laid_errors_errorType)]) {W : World} (h : laidMetH Tryz.prog laid W) :
    laidMetH Tryz.prog (laid.filter fun x => x.2.handleName?.isNone) W ∧ F.LaidE W := by
  unfold laidMetH at h
  rw [hs] at h
  obtain ⟨h1, h2⟩ := h
  refine ⟨?_, ?_⟩
  · rw [MakeChecks.laidMetH_plain _ _ _ (List.all_eq_true.2 fun x hx => (List.mem_filter.1 hx).2)]
    exact h1
  · exact F.laidE_of (W := W) (show laidMet Tryz.prog [] W ∧ handlesMet Tryz.prog [("errors.errorType", Rows.laid_errors_errorType)] W from ⟨⟨[], rfl, List.nodup_nil, fun _ _ h => by cases h⟩, h2⟩)
theorem Ud.laid_both {laid : List (String × DataW Unit)} (hs : (laid.filter fun x => x.2.handleName?.isSome) = [("errors.errorType", Rows.laid_errors_errorType)])
    (hm : ("math/bits.deBruijn64tab", Rows.laid_math_bits_deBruijn64tab) ∈ (laid.filter fun x => x.2.handleName?.isNone)) (hm2 : ("internal/strconv.uint64pow10", Rows.laid_internal_strconv_uint64pow10) ∈ (laid.filter fun x => x.2.handleName?.isNone))
    (hm3 : ("strconv.ErrSyntax", Rows.laid_strconv_ErrSyntax) ∈ (laid.filter fun x => x.2.handleName?.isNone)) (hm4 : ("strconv.ErrRange", Rows.laid_strconv_ErrRange) ∈ (laid.filter fun x => x.2.handleName?.isNone))
    {W : World} (h : laidMetH Tryz.prog laid W) (hsh : W.ShapedOpen Tryz.prog) : Rw.Laid W ∧ F.LaidE W := by
  obtain ⟨h1, h2⟩ := Ud.laidE_of hs h
  exact ⟨Rw.laid_of (List.all_eq_true.2 fun x hx => (List.mem_filter.1 hx).2) hm hm2 hm3 hm4 h1 hsh, h2⟩
/-- The world in which errors' type is laid. -/
noncomputable def Ud.w0 (os : Os) : World :=
  { World.holding Tryz.prog os ⟨#[], #[], []⟩ with heap := F.putCells (World.holding Tryz.prog os ⟨#[], #[], []⟩).heap 0 #[.iface 196 (.agg #[.pointer (some ⟨9, 45, none⟩)])] }
/-- And the data besides. -/
noncomputable def Ud.laidE (os : Os) (dl : List (String × DataW Unit)) : World := (Ud.w0 os).layVars Tryz.prog dl
theorem Ud.laidMet_E {os : Os} {laid : List (String × DataW Unit)} (args : Array Value)
    (hf : (Ud.w0 os).layFits Tryz.prog laid [] = true) (hi : (Ud.w0 os).layIfaces Tryz.prog laid (Ud.laidE os laid) = true) :
    laidMet Tryz.prog laid ((Ud.laidE os laid).forCall (fun _ _ => 0) ⟨#[], args, []⟩).memory := by
  have e1 : (laid.filter fun x => (laid.map (·.1)).contains x.1) = laid := List.filter_eq_self.2 fun x hx => List.contains_iff_mem.2 (List.mem_map.2 ⟨x, hx, rfl⟩)
  have e2 : (laid.filter fun x => !(laid.map (·.1)).contains x.1) = [] := List.filter_eq_nil_iff.2 fun x hx => by rw [List.contains_iff_mem.2 (List.mem_map.2 ⟨x, hx, rfl⟩)]; simp
  have h : laidMet Tryz.prog laid (Ud.laidE os laid) := laidMet_layVars (w0 := Ud.w0 os) (laid.map (·.1)) [] (by rw [e1]; rfl) (by rw [e1]; exact hf) (by rw [e1]; exact hi) (by rw [e2]; exact LaidIn.none)
  exact h.of_heap (by simp [World.memory, World.forCall, Input.heap])
theorem Ud.witness {H : Type} {enc : TypeId × Value → H} (os : Os) {f : FuncId} {fn : Func} {s : OpenSpec} {conds : List PathCond} {apart : Bool} {laid dl : List (String × DataW Unit)} (args : Array Value)
    (hsh : (Ud.laidE os dl).Shaped Tryz.prog)
    (hok : Input.okWideB Tryz.prog ((Ud.laidE os dl).forCall (fun _ _ => 0) ⟨#[], args, []⟩) f ⟨#[], args, []⟩ = true)
    (hrow : s.preRow enc Tryz.prog fn conds apart laid ((Ud.laidE os dl).forCall (fun _ _ => 0) ⟨#[], args, []⟩).memory args) :
    ∃ (w : World) (tape : Tape) (i : Input), w.os = os ∧ (w.forCall tape i).Shaped Tryz.prog ∧ i.vars = [] ∧ Input.okWide Tryz.prog (w.forCall tape i) .any w.heap.size f i ∧
      s.preRow enc Tryz.prog fn conds apart laid (w.forCall tape i).memory i.args ∧ ({} : Assume).holds Tryz.prog (lone (Frame.enter Tryz.prog f i.args .normal) [] (w.forCall tape i)) :=
  ⟨Ud.laidE os dl, fun _ _ => 0, ⟨#[], args, []⟩, World.layVars_os _ _ _, hsh, (Input.okWide_of_okWideB (base := 0) hok).1, (Input.okWide_of_okWideB hok).2, hrow, by
    simp only [Assume.holds]
    exact ⟨by simp, by simp, fun _ => Modest.zero, by simp, by simp⟩⟩
end Go.Proofs.YtkmfegamblmpeaaGreatDoor
