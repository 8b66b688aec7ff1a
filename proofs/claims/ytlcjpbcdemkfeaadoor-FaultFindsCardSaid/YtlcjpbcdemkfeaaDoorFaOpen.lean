/- A slice of links, and one of strings, that came in. -/
import Derived.Test.YtlcjpbcdemkfeaaDoorFaLinks
import Derived.Deep.SlicePairs
import Derived.Deep.Strs
import Derived.ProofKit
import Derived.OpenShut
namespace Go.Proofs.YtlcjpbcdemkfeaaDoor
open Go.ChangeShapes Go.WideShapes Go.RowKit Go.Deep
set_option linter.unusedSimpArgs false
set_option linter.unusedVariables false

/-- Links that came in: nil; or a row. -/
def IsLinks (w : World) (a : Option Addr) (len cap : Nat) (l : List (Int × Int × ByteArray)) : Prop :=
  l.length = len ∧ len ≤ cap ∧ cap ≤ maxLen ∧ Sl w w.heap.size a (F.fl l) ∧ ∀ x ∈ l, (-9223372036854775808 ≤ x.1 ∧ x.1 ≤ 9223372036854775807) ∧ (-9223372036854775808 ≤ x.2.1 ∧ x.2.1 ≤ 9223372036854775807) ∧ x.2.2.size ≤ maxLen
def IsStrs (w : World) (a : Option Addr) (len cap : Nat) (l : List ByteArray) : Prop :=
  l.length = len ∧ len ≤ cap ∧ cap ≤ maxLen ∧ Sl w w.heap.size a (l.map Value.string) ∧ ∀ x ∈ l, x.size ≤ maxLen

theorem F.getD_get {α : Type} {n : Nat} {f : Nat → α} {i : Nat} {x : α} (h : ((List.range n).map f)[i]? = some x) : i < n ∧ f i = x := by
  have hlt := (List.getElem?_eq_some_iff.1 h).1
  simp at hlt
  rw [List.getElem?_map, List.getElem?_range hlt] at h
  simp at h
  exact ⟨hlt, h⟩
theorem F.fl_cell {w : World} {b o : Nat} : ∀ (l : List (Int × Int × ByteArray)) (k : Nat), (∀ i c n s, l[i]? = some (c, n, s) → w.cell? ⟨b, o + (k + i) * 3, none⟩ = some (.int .i64 c) ∧ w.cell? ⟨b, o + (k + i) * 3 + 1, none⟩ = some (.int .i64 n) ∧ w.cell? ⟨b, o + (k + i) * 3 + 2, none⟩ = some (.string s)) →
    ∀ j, j < (F.fl l).length → w.cell? ⟨b, o + k * 3 + j, none⟩ = (F.fl l)[j]?
  | [], k, _, j, hj => by simp [F.fl] at hj
  | (c, n, s) :: t, k, h, j, hj => by
    obtain ⟨h0, h1, h2⟩ := h 0 c n s rfl
    rw [Nat.add_zero] at h0 h1 h2
    have ih := F.fl_cell t (k + 1) (fun i c' n' s' hi => by
      have := h (i + 1) c' n' s' (by simpa using hi)
      rw [show k + (i + 1) = k + 1 + i by omega] at this
      exact this)
    rcases j with _ | _ | _ | j
    · exact h0
    · rw [show o + k * 3 + (0 + 1) = o + k * 3 + 1 by omega]; exact h1
    · rw [show o + k * 3 + (0 + 1 + 1) = o + k * 3 + 2 by omega]; exact h2
    · have := ih j (by simp only [F.fl, List.length_cons] at hj; omega)
      rw [show o + k * 3 + (j + 1 + 1 + 1) = o + (k + 1) * 3 + j by omega, this]
      rfl

theorem isLinks_of {H : Type} {enc : TypeId × Value → H} {P : Program} {w : World} {base : Nat} {spare : Nat → Bool} {held : Bool} {t e : TypeId} {f0 f1 f2 : Field} {fuel : Nat} {a : Option Addr} {len cap : Nat} {x : DataW H × List MemPlace} (ht : P.underlying t = some (.slice e)) (he : P.underlying e = some (.struct #[f0, f1, f2]))
    (ce : P.cellsOf e = 3) (o0 : f0.offset = 0) (o1 : f1.offset = 1) (o2 : f2.offset = 2) (c0 : P.cellsOf f0.type = 1) (c1 : P.cellsOf f1.type = 1) (c2 : P.cellsOf f2.type = 1) (k0 : P.underlying f0.type = some (.int .i64)) (k1 : P.underlying f1.type = some (.int .i64)) (k2 : P.underlying f2.type = some .string)
    (h : DataW.trod enc P w base spare held fuel t [.slice a len cap] = some x) : ∃ l, IsLinks w a len cap l := by
  rcases open_slice ht h with ⟨hcs, _⟩ | ⟨ad, l, c, m, n, D, Pl, hcs, hb, hl, hm, hmm, _, hx⟩
  · simp only [List.cons.injEq, Value.slice.injEq, and_true] at hcs
    obtain ⟨rfl, rfl, rfl⟩ := hcs
    exact ⟨[], rfl, Nat.le_refl _, by decide, Sl.nil _ _ _, by simp⟩
  · simp only [List.cons.injEq, Value.slice.injEq, and_true] at hcs
    obtain ⟨rfl, rfl, rfl⟩ := hcs
    have hlm : len ≤ m := by rw [hmm]; split <;> omega
    have each : ∀ i, i < len → ∃ q : Int × Int × ByteArray, w.cell? (ad.add (i * 3)) = some (.int .i64 q.1) ∧ w.cell? (ad.add (i * 3 + 1)) = some (.int .i64 q.2.1) ∧ w.cell? (ad.add (i * 3 + 2)) = some (.string q.2.2) ∧ ((-9223372036854775808 ≤ q.1 ∧ q.1 ≤ 9223372036854775807) ∧ (-9223372036854775808 ≤ q.2.1 ∧ q.2.1 ≤ 9223372036854775807) ∧ q.2.2.size ≤ maxLen) := by
      intro i hi
      obtain ⟨cs', h1, h2⟩ := hx i (by omega)
      rw [ce] at h1
      obtain ⟨_, hlen, hcell⟩ := World.cells?_some h1
      obtain ⟨y0, y1, y2, n', _, _, g0, g1, g2⟩ := trod_struct3 he h2
      match cs', hlen with
      | [v0, v1, v2], _ =>
        simp [o0, o1, o2, c0, c1, c2] at g0 g1 g2
        obtain ⟨z0, e0, _, w0⟩ := DataW.trod_int k0 g0
        obtain ⟨z1, e1, _, w1⟩ := DataW.trod_int k1 g1
        obtain ⟨z2, e2, _, w2⟩ := DataW.trod_string k2 g2
        simp only [List.cons.injEq, and_true] at e0 e1 e2
        have d0 := hcell 0 (by omega)
        have d1 := hcell 1 (by omega)
        have d2 := hcell 2 (by omega)
        rw [add_add] at d0 d1 d2
        refine ⟨(z0, z1, z2), ?_, ?_, ?_, bounds_i64 w0, bounds_i64 w1, w2⟩
        · rw [← e0]; simpa using d0
        · rw [← e1]; simpa using d1
        · rw [← e2]; simpa using d2
    obtain ⟨q, hq⟩ := choose_lt each
    refine ⟨(List.range len).map q, by simp, hl, hm, ?_, ?_⟩
    · intro hne
      rw [F.fl_len, List.length_map, List.length_range] at hne
      obtain ⟨b, off, spot⟩ := ad
      have hc0 := (hq 0 (by omega)).1
      have hspot : spot = none := by simpa [Addr.add] using World.cell?_spot hc0
      subst hspot
      have hadd : ∀ i, (⟨b, off, none⟩ : Addr).add i = ⟨b, off + i, none⟩ := by
        intro i; unfold Addr.add; split <;> simp_all
      refine ⟨b, off, rfl, ?_, fun j hj => ?_⟩
      · rw [hadd] at hc0
        exact World.block_lt_of_cell? w _ hc0
      · have := F.fl_cell (w := w) (b := b) (o := off) ((List.range len).map q) 0 (fun i c n s hi => by
          obtain ⟨hi', he'⟩ := F.getD_get hi
          obtain ⟨a0, a1, a2, _⟩ := hq i hi'
          rw [he', hadd] at a0 a1 a2
          rw [Nat.zero_add]
          exact ⟨a0, a1, a2⟩) j hj
        simpa using this
    · intro x hx
      obtain ⟨i, hi, rfl⟩ := List.mem_map.1 hx
      exact (hq i (List.mem_range.1 hi)).2.2.2

theorem isStrs_of {H : Type} {enc : TypeId × Value → H} {P : Program} {w : World} {base : Nat} {spare : Nat → Bool} {held : Bool} {t e : TypeId} {fuel : Nat} {a : Option Addr} {len cap : Nat} {x : DataW H × List MemPlace} (ht : P.underlying t = some (.slice e)) (he : P.underlying e = some .string)
    (ce : P.cellsOf e = 1) (h : DataW.trod enc P w base spare held fuel t [.slice a len cap] = some x) : ∃ l, IsStrs w a len cap l := by
  rcases open_slice ht h with ⟨hcs, _⟩ | ⟨ad, l, c, m, n, D, Pl, hcs, hb, hl, hm, hmm, _, hx⟩
  · simp only [List.cons.injEq, Value.slice.injEq, and_true] at hcs
    obtain ⟨rfl, rfl, rfl⟩ := hcs
    exact ⟨[], rfl, Nat.le_refl _, by decide, Sl.nil _ _ _, by simp⟩
  · simp only [List.cons.injEq, Value.slice.injEq, and_true] at hcs
    obtain ⟨rfl, rfl, rfl⟩ := hcs
    have hlm : len ≤ m := by rw [hmm]; split <;> omega
    have each : ∀ i, i < len → ∃ q : ByteArray, w.cell? (ad.add i) = some (.string q) ∧ q.size ≤ maxLen := by
      intro i hi
      obtain ⟨cs', h1, h2⟩ := hx i (by omega)
      rw [ce, Nat.mul_one] at h1
      obtain ⟨_, hlen, hcell⟩ := World.cells?_some h1
      obtain ⟨z, e0, _, w0⟩ := DataW.trod_string he h2
      subst e0
      have d0 := hcell 0 (by omega)
      rw [add_add] at d0
      exact ⟨z, by simpa using d0, w0⟩
    obtain ⟨q, hq⟩ := choose_lt each
    refine ⟨(List.range len).map q, by simp, hl, hm, ?_, ?_⟩
    · intro hne
      rw [List.length_map, List.length_map, List.length_range] at hne
      obtain ⟨b, off, spot⟩ := ad
      have hc0 := (hq 0 (by omega)).1
      have hspot : spot = none := by simpa [Addr.add] using World.cell?_spot hc0
      subst hspot
      have hadd : ∀ i, (⟨b, off, none⟩ : Addr).add i = ⟨b, off + i, none⟩ := by
        intro i; unfold Addr.add; split <;> simp_all
      refine ⟨b, off, rfl, ?_, fun j hj => ?_⟩
      · rw [hadd] at hc0
        exact World.block_lt_of_cell? w _ hc0
      · rw [List.length_map, List.length_map, List.length_range] at hj
        have := (hq j hj).1
        rw [hadd] at this
        rw [this]
        simp [hj]
    · intro x hx
      obtain ⟨i, hi, rfl⟩ := List.mem_map.1 hx
      exact (hq i (List.mem_range.1 hi)).2
end Go.Proofs.YtlcjpbcdemkfeaaDoor
