/- Slices whose block's type is known. -/
import Derived.Test.YthcdecncnppjaaaDoorLib4
namespace Go.Proofs.YthcdecncnppjaaaDoor
open Go.RowKit
set_option linter.unusedSimpArgs false
set_option linter.unusedVariables false

/-- A slice's cells: the list xs; its block is of the type t. -/
def Slt (w : World) (t : TypeId) (A : Option Addr) (xs : List Value) : Prop :=
  0 < xs.length → ∃ b o cs, A = some ⟨b, o, none⟩ ∧ w.heap[b]? = some (.cells cs t (0, 0)) ∧ ∀ i, i < xs.length → cs[o + i]? = xs[i]?
theorem Slt.nil (w : World) (t : TypeId) (A : Option Addr) : Slt w t A [] := fun h => absurd h (by simp)
theorem Slt.sl {w : World} {t : TypeId} {A : Option Addr} {xs : List Value} (h : Slt w t A xs) : Sl w w.heap.size A xs := by
  intro hx
  obtain ⟨b, o, cs, hA, hb, hc⟩ := h hx
  exact ⟨b, o, hA, heap_lt hb, fun i hi => by rw [← hc i hi]; simp [World.cell?, hb]⟩
theorem Slt.frozen {w : World} {t : TypeId} {b o : Nat} {xs : List Value} (h : Slt w t (some ⟨b, o, none⟩) xs) (hx : 0 < xs.length) (i : Nat) : w.frozen? ⟨b, i, none⟩ = false := by
  obtain ⟨b', o', cs, hA, hb, _⟩ := h hx
  simp only [Option.some.injEq, Addr.mk.injEq] at hA
  obtain ⟨rfl, rfl, _⟩ := hA
  simp [World.frozen?, hb]
theorem Slt.grown {w w' : World} {t : TypeId} {A : Option Addr} {xs : List Value} {row : Option Nat} (h : Slt w t A xs) (hg : w.grownBy w' row) (hr : ∀ k, row = some k → ∀ cs z, w.heap[k]? ≠ some (.cells cs t z)) : Slt w' t A xs := by
  intro hx
  obtain ⟨b, o, cs, hA, hb, hc⟩ := h hx
  exact ⟨b, o, cs, hA, (hg.block b (heap_lt hb) fun e => hr b e.symm cs (0, 0) hb).trans hb, hc⟩
theorem Slt.below {w w' : World} {t : TypeId} {A : Option Addr} {xs : List Value} (h : Slt w t A xs) (hb : Below w.heap.size w w') : Slt w' t A xs := by
  intro hx
  obtain ⟨b, o, cs, hA, hh, hc⟩ := h hx
  exact ⟨b, o, cs, hA, (hb.block b (heap_lt hh)).trans hh, hc⟩
theorem Slt.of_own {w : World} {base : Nat} {e : TypeId} {size n c : Nat} {A : Option Addr} {xs : List Value} (h : w.ownsRow base e size (.slice A n c) n xs) : Slt w e A xs := by
  intro hx
  obtain ⟨hl, h⟩ := h
  rcases h with ⟨hv, hn⟩ | ⟨g, cap, cur, hv, _, hg, _, _, _, htake⟩
  · subst hn; simp at hl; rw [hl] at hx; simp at hx
  · simp only [Value.slice.injEq] at hv
    obtain ⟨hA, _, _⟩ := hv
    refine ⟨g, 0, cur, hA, hg, fun i hi => ?_⟩
    rw [← htake]
    simp [List.getElem?_take, ← hl, hi]

end Go.Proofs.YthcdecncnppjaaaDoor
