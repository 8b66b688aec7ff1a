/- What the row's list gives: the table 'heads' in its block. -/
import Derived.Test.YtgfkcbckddpbaaaDoorUtf
import Derived.ProofKit
import Derived.OpenShut
import Derived.Deep.DeepHandedRow
import Derived.Lib.LaidTab
import Derived.Deep.Strs
import Derived.LaidMore
namespace Go.Proofs.YtgfkcbckddpbaaaDoor
open Go.ChangeShapes Go.WideShapes Go.ChangeAt Go.RowKit
set_option linter.unusedVariables false

theorem gHeads : Tryd.prog.globalNamed "cedilla/utf.heads" = some 0 := by kernel_rfl
theorem tHeads : (Tryd.prog.globals[0]?).map (·.type) = some 96 := by kernel_rfl
theorem cHeads : Tryd.prog.cellsOf 96 = 12 := by kernel_rfl
theorem cHead : Tryd.prog.cellsOf 95 = 3 := by kernel_rfl
theorem cU8 : Tryd.prog.cellsOf 5 = 1 := by kernel_rfl
theorem cI32 : Tryd.prog.cellsOf 21 = 1 := by kernel_rfl

theorem head_row {H : Type} {enc : TypeId × Value → H} {W : World} {base : Nat} {spare : Nat → Bool} {held : Bool} {fuel : Nat} {a b c : Value} {x : DataW H × List MemPlace} {p q r : Int}
    (h : DataW.trod enc Tryd.prog W base spare held fuel 95 [a, b, c] = some x) (hx : x.1 = .agg [.lit (.int .u8 p), .lit (.int .u8 q), .lit (.int .i32 r)]) :
    a = .int .u8 p ∧ b = .int .u8 q ∧ c = .int .i32 r := by
  obtain ⟨y0, y1, y2, n, rfl, _, h0, h1, h2⟩ := Deep.trod_struct3 Tryd.underlying95 h
  simp only [cU8, cI32, List.drop_zero, List.drop_succ_cons, List.take_succ_cons, List.take_zero] at h0 h1 h2
  obtain ⟨k0, e0, f0, _⟩ := DataW.trod_int Tryd.underlying5 h0
  obtain ⟨k1, e1, f1, _⟩ := DataW.trod_int Tryd.underlying5 h1
  obtain ⟨k2, e2, f2, _⟩ := DataW.trod_int Tryd.underlying21 h2
  subst f0 f1 f2
  simp only [DataW.agg.injEq, List.cons.injEq, DataW.lit.injEq, Lit.int.injEq, true_and, and_true] at hx
  simp at e0 e1 e2
  obtain ⟨rfl, rfl, rfl⟩ := hx
  exact ⟨e0, e1, e2⟩

theorem heads_of_laid {W : World} (h : laidMetH Tryd.prog [("cedilla/utf.heads", Rows.laid_cedilla_utf_heads)] W) : Heads W := by
  rw [MakeChecks.laidMetH_plain _ _ _ (by kernel_rfl)] at h
  obtain ⟨ps, ⟨g0, t0, cs0, f0, p0, q0, hg0, ht0, hv0, hd0, _, _⟩, _, _⟩ := h
  obtain rfl := Option.some.inj (gHeads.symm.trans hg0)
  obtain rfl := Option.some.inj (tHeads.symm.trans ht0)
  obtain ⟨xs, m, rfl, hx1, hlen, hn, hel⟩ := DataW.trod_array Tryd.underlying96 hd0
  rw [cHeads] at hlen
  rw [cHead] at hel
  obtain ⟨l⟩ := cs0
  simp only [] at hlen hel
  rcases l with _ | ⟨c0, _ | ⟨c1, _ | ⟨c2, _ | ⟨c3, _ | ⟨c4, _ | ⟨c5, _ | ⟨c6, _ | ⟨c7, _ | ⟨c8, _ | ⟨c9, _ | ⟨c10, _ | ⟨c11, _ | ⟨c12, l⟩⟩⟩⟩⟩⟩⟩⟩⟩⟩⟩⟩⟩ <;> simp at hlen
  rcases xs with _ | ⟨x0, _ | ⟨x1, _ | ⟨x2, _ | ⟨x3, _ | ⟨x4, xs⟩⟩⟩⟩⟩ <;> simp at hn
  simp only [Rows.laid_cedilla_utf_heads, Prod.mk.injEq, DataW.agg.injEq, List.map_cons, List.map_nil, List.cons.injEq, and_true] at hx1
  obtain ⟨⟨z0, z1, z2, z3⟩, _⟩ := hx1
  obtain ⟨rfl, rfl, rfl⟩ := head_row (hel 0 (by decide)) z0.symm
  obtain ⟨rfl, rfl, rfl⟩ := head_row (hel 1 (by decide)) z1.symm
  obtain ⟨rfl, rfl, rfl⟩ := head_row (hel 2 (by decide)) z2.symm
  obtain ⟨rfl, rfl, rfl⟩ := head_row (hel 3 (by decide)) z3.symm
  simp only [World.var?, gHeads, Option.bind_some] at hv0
  split at hv0
  · rename_i cs t fr hb
    simp only [Option.some.injEq] at hv0
    subst hv0
    exact ⟨t, fr, hb⟩
  · cases hv0

noncomputable def laidWorld (os : Os) : World :=
  { World.holding Tryd.prog os ⟨#[], #[], []⟩ with heap := (World.holding Tryd.prog os ⟨#[], #[], []⟩).heap.modify 0 fun
      | .cells _ t frozen => .cells U.row t frozen
      | o => o }
theorem laid_met (os : Os) (args : Array Value) : laidMet Tryd.prog [("cedilla/utf.heads", Rows.laid_cedilla_utf_heads)] ((laidWorld os).forCall (fun _ _ => 0) ⟨#[], args, []⟩).memory :=
  laidMet_of_run' 8 (by kernel_rfl) (by kernel_rfl)
end Go.Proofs.YtgfkcbckddpbaaaDoor
