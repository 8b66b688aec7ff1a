/- Rows of digits that came in; and that a world meets the rows' list. -/
import Derived.Test.YthcdecncnppjaaaDoorNmLaw
import Derived.Test.YthcdecncnppjaaaDoorLib3
import Derived.Test.YthcdecncnppjaaaDoorRows
import Derived.ProofKit
import Derived.OpenShut
import Derived.Deep.DeepHandedRow
import Derived.Deep.Slices
import Derived.LaidMore
import Derived.LaidLaws
import Derived.Lay
import Derived.MakeChecks
namespace Go.Proofs.YthcdecncnppjaaaDoor
open Go.ChangeShapes Go.WideShapes Go.ChangeAt Go.RowKit Go.Deep
set_option maxRecDepth 100000
set_option linter.unusedVariables false
set_option linter.unusedSimpArgs false
theorem Nm.row_lim {w : World} {A : Option Addr} {n c : Nat} {zs : List Int} (h : IsRow .u32 w A n c zs) : ∃ l : List Nat, l.length = n ∧ n ≤ c ∧ c ≤ maxLen ∧ Nm.Ok l ∧ Sl w w.heap.size A (Nm.u32s l) := by
  obtain ⟨h1, h2, h3⟩ := h.len_le
  have hb : ∀ z ∈ zs.take n, 0 ≤ z ∧ z ≤ 4294967295 := fun z hz => bounds_u32 (h.wf z (List.mem_of_mem_take hz))
  refine ⟨(zs.take n).map Int.toNat, by rw [List.length_map, List.length_take]; omega, h1, h2, ?_, ?_⟩
  · intro d hd
    obtain ⟨z, hz, rfl⟩ := List.mem_map.1 hd
    have := hb z hz
    omega
  · have h4 := h.sl n (Nat.le_refl _)
    have : Nm.u32s ((zs.take n).map Int.toNat) = (zs.take n).map (Value.int .u32) := by
      unfold Nm.u32s
      rw [List.map_map]
      refine List.map_congr_left fun z hz => ?_
      have := hb z hz
      show Value.int .u32 ((z.toNat : Nat) : Int) = Value.int .u32 z
      rw [Int.toNat_of_nonneg this.1]
    rw [this]
    exact h4
theorem Nm.arr_of {H : Type} {enc : TypeId × Value → H} {w : World} {fuel : Nat} {a : Option Addr} {len cap : Nat} {x : DataW H × List MemPlace} (h : DataW.trod enc Tryd.prog w 0 (fun _ => true) true fuel 22 [.slice a len cap] = some x) : ∃ rs, Nm.Arr w a len cap rs := by
  rcases open_slice1 Tryd.underlying22 (by kernel_rfl) h with ⟨hcs, _⟩ | ⟨ad, l, c, m, n, V, D, Pl, hcs, hb, hl, hm, hmm, _, hx⟩
  · simp only [List.cons.injEq, Value.slice.injEq, and_true] at hcs
    obtain ⟨rfl, rfl, rfl⟩ := hcs
    exact ⟨[], rfl, Sl.nil _ _ _, fun r hr => by cases hr⟩
  · simp only [List.cons.injEq, Value.slice.injEq, and_true] at hcs
    obtain ⟨rfl, rfl, rfl⟩ := hcs
    have hlm : len ≤ m := by rw [hmm]; split <;> omega
    have each : ∀ i, i < len → ∃ q : Nm.Lim, w.cell? (ad.add i) = some (Value.slice q.1 q.2.1 q.2.2.1) ∧ (q.2.2.2.length = q.2.1 ∧ q.2.1 ≤ q.2.2.1 ∧ q.2.2.1 ≤ maxLen ∧ Nm.Ok q.2.2.2 ∧ Sl w w.heap.size q.1 (Nm.u32s q.2.2.2)) := by
      intro i hi
      obtain ⟨h1, h2⟩ := hx i (by omega)
      rcases open_ints Tryd.underlying25 Tryd.underlying47 (by kernel_rfl) h2 with ⟨hcs, _⟩ | ⟨y, l', c', zs, hcs, _, hl', hm', hz', _, hcell, hwz⟩
      · simp only [List.cons.injEq, and_true] at hcs
        exact ⟨(none, 0, 0, []), by rw [h1, hcs], rfl, Nat.le_refl _, Nat.zero_le _, (fun d hd => absurd hd (by simp) : Nm.Ok []), Sl.nil _ _ _⟩
      · simp only [List.cons.injEq, and_true] at hcs
        obtain ⟨lr, g1, g2, g3, g4, g5⟩ := Nm.row_lim (w := w) (A := some y) (n := l') (c := c') (zs := zs) (.inr ⟨y, rfl, hl', hm', by simpa using hz', hcell, hwz⟩)
        exact ⟨(some y, l', c', lr), by rw [h1, hcs], g1, g2, g3, g4, g5⟩
    obtain ⟨q, hq⟩ := choose_lt each
    refine ⟨(List.range len).map q, by simp, ?_, ?_⟩
    · intro hne
      rw [List.length_map, List.length_map, List.length_range] at hne
      obtain ⟨b, off, spot⟩ := ad
      have hc0 := (hq 0 hne).1
      have hspot : spot = none := by simpa [Addr.add] using World.cell?_spot hc0
      subst hspot
      have hadd : ∀ i, (⟨b, off, none⟩ : Addr).add i = ⟨b, off + i, none⟩ := by
        intro i; unfold Addr.add; split <;> simp_all
      refine ⟨b, off, rfl, ?_, fun j hj => ?_⟩
      · rw [hadd] at hc0
        exact World.block_lt_of_cell? w _ hc0
      · rw [List.length_map, List.length_map, List.length_range] at hj
        have := (hq j hj).1
        rw [hadd] at this
        rw [this]
        simp [hj]
    · intro r hr
      obtain ⟨i, hi, rfl⟩ := List.mem_map.1 hr
      exact (hq i (List.mem_range.1 hi)).2
/-- 'There is an input that fits': the world is the one in which the listed variables are laid. -/
theorem Nm.witness {H : Type} {enc : TypeId × Value → H} (os : Os) {f : FuncId} {fn : Func} {s : OpenSpec} {conds : List PathCond} {apart : Bool} {laid : List (String × DataW Unit)} (args : Array Value)
    (hsh : (World.laidAll Tryd.prog os laid).Shaped Tryd.prog)
    (hok : Input.okWideB Tryd.prog ((World.laidAll Tryd.prog os laid).forCall (fun _ _ => 0) ⟨#[], args, []⟩) f ⟨#[], args, []⟩ = true)
    (hrow : s.preRow enc Tryd.prog fn conds apart laid ((World.laidAll Tryd.prog os laid).forCall (fun _ _ => 0) ⟨#[], args, []⟩).memory args) :
    ∃ (w : World) (tape : Tape) (i : Input), w.os = os ∧ (w.forCall tape i).Shaped Tryd.prog ∧ i.vars = [] ∧ Input.okWide Tryd.prog (w.forCall tape i) .any w.heap.size f i ∧
      s.preRow enc Tryd.prog fn conds apart laid (w.forCall tape i).memory i.args ∧ ({} : Assume).holds Tryd.prog (lone (Frame.enter Tryd.prog f i.args .normal) [] (w.forCall tape i)) :=
  ⟨World.laidAll Tryd.prog os laid, fun _ _ => 0, ⟨#[], args, []⟩, World.laidAll_os _ _ _, hsh, (Input.okWide_of_okWideB (base := 0) hok).1, (Input.okWide_of_okWideB hok).2, hrow, by
    simp only [Assume.holds]
    exact ⟨by simp, by simp, fun _ => Modest.zero, by simp, by simp⟩⟩
end Go.Proofs.YthcdecncnppjaaaDoor
