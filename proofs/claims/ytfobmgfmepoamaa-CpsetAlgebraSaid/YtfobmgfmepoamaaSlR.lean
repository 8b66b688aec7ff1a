/- A slice that is read, with the bounds of its block: stores elsewhere leave it. -/
import Derived.Test.YtfobmgfmepoamaaLib4
namespace Go.Proofs.Ytfobmgfmepoamaa
open Go.RowKit
set_option linter.unusedSimpArgs false
set_option linter.unusedVariables false

/-- As Sl, with the block's lower bound, too. -/
def SlR (w : World) (lo hi : Nat) (A : Option Addr) (xs : List Value) : Prop :=
  0 < xs.length → ∃ b o, A = some ⟨b, o, none⟩ ∧ lo ≤ b ∧ b < hi ∧ ∀ i, i < xs.length → w.cell? ⟨b, o + i, none⟩ = xs[i]?
theorem SlR.sl {w : World} {lo hi B : Nat} {A : Option Addr} {xs : List Value} (h : SlR w lo hi A xs) (hB : hi ≤ B) : Sl w B A xs := by
  intro hx
  obtain ⟨b, o, hA, _, hlt, hc⟩ := h hx
  exact ⟨b, o, hA, by omega, hc⟩
theorem SlR.of_own {w : World} {base : Nat} {e : TypeId} {size n c : Nat} {A : Option Addr} {xs : List Value} (h : w.ownsRow base e size (.slice A n c) n xs) : SlR w base w.heap.size A xs := by
  intro hx
  obtain ⟨b, o, rfl, hlt, hc⟩ := Sl.of_own h hx
  refine ⟨b, o, rfl, ?_, hlt, hc⟩
  rcases h.2 with ⟨hv, _⟩ | ⟨g, cap, cur, hv, hg, _⟩
  · cases hv
  · simp only [Value.slice.injEq, Option.some.injEq, Addr.mk.injEq] at hv
    obtain ⟨⟨rfl, _⟩, _⟩ := hv
    exact hg
theorem SlR.below {w w' : World} {lo hi B : Nat} {A : Option Addr} {xs : List Value} (h : SlR w lo hi A xs) (hb : Below B w w') (hB : hi ≤ B) : SlR w' lo hi A xs := by
  intro hx
  obtain ⟨b, o, hA, hl, hlt, hc⟩ := h hx
  exact ⟨b, o, hA, hl, hlt, fun i hi => by rw [← hc i hi]; exact hb.cell (p := ⟨b, o + i, none⟩) (by show b < B; omega)⟩
theorem SlR.alloc {w : World} {lo hi : Nat} {A : Option Addr} {xs : List Value} (h : SlR w lo hi A xs) (ob : Obj) : SlR (w.alloc ob) lo hi A xs := by
  intro hx
  obtain ⟨b, o, hA, hl, hlt, hc⟩ := h hx
  refine ⟨b, o, hA, hl, hlt, fun i hi => ?_⟩
  have h0 := hc i hi
  rw [List.getElem?_eq_getElem hi] at h0
  rw [← hc i hi]
  have hlt' : b < w.heap.size := World.block_lt_of_cell? w _ h0
  exact ((Below.refl w.heap.size w).alloc (Nat.le_refl _) ob).cell (p := ⟨b, o + i, none⟩) hlt'
theorem SlR.set {w : World} {lo hi : Nat} {A : Option Addr} {xs : List Value} (h : SlR w lo hi A xs) {p : Addr} (hp : p.block < lo ∨ hi ≤ p.block) (v : Value) : SlR (w.setCell p v) lo hi A xs := by
  intro hx
  obtain ⟨b, o, hA, hl, hlt, hc⟩ := h hx
  refine ⟨b, o, hA, hl, hlt, fun i hi => ?_⟩
  rw [← hc i hi]
  refine World.cell?_of_block (Below.heap_setCell w p v b (by omega))
theorem SlR.own {w : World} {base lo : Nat} {e : TypeId} {size n c : Nat} {A : Option Addr} {xs : List Value} (h : w.ownsRow base e size (.slice A n c) n xs) (hl : lo ≤ base) : SlR w lo w.heap.size A xs := by
  intro hx
  obtain ⟨b, o, hA, h1, h2, hc⟩ := SlR.of_own h hx
  exact ⟨b, o, hA, by omega, h2, hc⟩
theorem SlR.more {w : World} {lo hi hi' : Nat} {A : Option Addr} {xs : List Value} (h : SlR w lo hi A xs) (hh : hi ≤ hi') : SlR w lo hi' A xs := by
  intro hx
  obtain ⟨b, o, hA, h1, h2, hc⟩ := h hx
  exact ⟨b, o, hA, h1, by omega, hc⟩
end Go.Proofs.Ytfobmgfmepoamaa
