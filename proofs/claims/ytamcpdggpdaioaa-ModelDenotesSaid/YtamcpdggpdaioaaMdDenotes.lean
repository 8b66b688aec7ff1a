/- A document's table that came in. -/
import Derived.Test.YtamcpdggpdaioaaChar
import Derived.Lib.SmallJoins
import Derived.Test.YtamcpdggpdaioaaMdDenWalk
namespace Go.Proofs.Ytamcpdggpdaioaa
open Go.ChangeShapes Go.WideShapes Go.RowKit Go.Deep Go.Joins
set_option linter.unusedVariables false

theorem Md.one_slice {H : Type} {enc : TypeId × Value → H} {P : Program} {w : World} {t e : TypeId} {fuel : Nat} {v : Value} {x : DataW H × List MemPlace} (ht : P.underlying t = some (.slice e)) (h : DataW.trod enc P w 0 (fun _ => true) true fuel t [v] = some x) :
    ∃ a len cap, v = .slice a len cap := by
  rcases open_slice ht h with ⟨hcs, _⟩ | ⟨ad, l, c, m, n, D, Pl, hcs, _⟩
  · simp only [List.cons.injEq, and_true] at hcs
    exact ⟨_, _, _, hcs⟩
  · simp only [List.cons.injEq, and_true] at hcs
    exact ⟨_, _, _, hcs⟩
theorem Md.isRow_of {H : Type} {enc : TypeId × Value → H} {P : Program} {w : World} {t q : TypeId} {fuel : Nat} {a : Option Addr} {len cap : Nat} {x : DataW H × List MemPlace} (k2 : P.underlying t = some (.slice q)) (k3 : P.underlying q = some (.int .i64)) (c3 : P.cellsOf q = 1)
    (h : DataW.trod enc P w 0 (fun _ => true) true fuel t [.slice a len cap] = some x) : ∃ zs, IsRow .i64 w a len cap zs := by
  rcases open_ints k2 k3 c3 h with ⟨hcs, _⟩ | ⟨x, l, c, zs, hcs, _, hl, hm, hz, _, hcell, hwz⟩
  · simp only [List.cons.injEq, Value.slice.injEq, and_true] at hcs
    obtain ⟨rfl, rfl, rfl⟩ := hcs
    exact ⟨[], .inl ⟨rfl, rfl, rfl, rfl⟩⟩
  · simp only [List.cons.injEq, Value.slice.injEq, and_true] at hcs
    obtain ⟨rfl, rfl, rfl⟩ := hcs
    exact ⟨zs, .inr ⟨_, rfl, hl, hm, by simpa using hz, hcell, hwz⟩⟩
set_option maxRecDepth 100000 in
theorem Md.open_tab {H : Type} {enc : TypeId × Value → H} {W : World} {v : Value} {d : DataW H} {p : List MemPlace} (hv : Value.okWide Try.prog W .any 0 44 v) (h : DataW.Trod enc Try.prog W 0 (fun _ => true) true 44 v d p) :
    ∃ A n c XA xn xc l zs, v = .agg #[.slice A n c, .slice XA xn xc] ∧ Rw.IsRows W A n c l ∧ IsRow .i64 W XA xn xc zs := by
  obtain ⟨c0, c1, y0, y1, m, rfl, rfl, rfl, hy0, hy1⟩ := open_agg2 Try.underlying44 (by kernel_rfl) (by kernel_rfl) hv h
  obtain ⟨A, n, c, rfl⟩ := Md.one_slice Try.underlying42 hy0
  obtain ⟨XA, xn, xc, rfl⟩ := Md.one_slice Try.underlying29 hy1
  obtain ⟨l, hl⟩ := Rw.isRows_of (q := 3) Try.underlying42 Try.underlying58 (by kernel_rfl) rfl rfl rfl (by kernel_rfl) (by kernel_rfl) (by kernel_rfl) (by kernel_rfl) (by kernel_rfl) (by kernel_rfl) (by kernel_rfl) (by kernel_rfl) hy0
  obtain ⟨zs, hzs⟩ := Md.isRow_of Try.underlying29 Try.underlying3 (by kernel_rfl) hy1
  exact ⟨A, n, c, XA, xn, xc, l, zs, rfl, hl, hzs⟩
end Go.Proofs.Ytamcpdggpdaioaa

/- The law ModelDenotes, of the arguments as they come in. -/
namespace Go.Proofs.Ytamcpdggpdaioaa
open Go.RowKit
set_option linter.unusedVariables false
theorem Md.denotes_law (w : World) (A : Option Addr) (n c : Nat) (XA : Option Addr) (xn xc : Nat) (l : List Rw.Row) (zs : List Int) (hI : Rw.IsRows w A n c l) (hR : IsRow .i64 w XA xn xc zs) (k : Int) (h1 : -9223372036854775808 ≤ k) (h2 : k ≤ 9223372036854775807) :
    Calls Try.prog 6 #[.agg #[.slice A n c, .slice XA xn xc], .int .i64 k] w fun e w' => e = .returned (.bool true) ∧ Below w.heap.size w w' := by
  obtain ⟨ads, hads, hlen, hlc, hcm, hS, hSm, hbd⟩ := hI
  obtain ⟨q1, q2, q3⟩ := hR.len_le
  exact Md.denotes_any A XA n c xn xc l (zs.take xn) k w hlen (by rw [List.length_take]; omega) (by omega) (by omega) hbd ⟨ads, hads, hS, hSm⟩ (hR.sl xn (Nat.le_refl _))
end Go.Proofs.Ytamcpdggpdaioaa
