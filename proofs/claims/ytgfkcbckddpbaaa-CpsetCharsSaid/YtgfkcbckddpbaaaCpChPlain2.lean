/- A row that is in order, each number once: it rises, and has the same numbers. -/
import Derived.Test.YtgfkcbckddpbaaaCpChPlain
import Derived.Lib.SlicesCompact
namespace Go.Proofs.Ytgfkcbckddpbaaa
set_option linter.unusedSimpArgs false
set_option linter.unusedVariables false

theorem C.arr_get {l : List Int} {j : Nat} (h : j < l.length) : l.toArray[j]! = l[j] := by
  rw [getElem!_pos l.toArray j (by simpa using h)]; simp
theorem C.le_of {l : List Int} (hs : l.Pairwise (· ≤ ·)) {i j : Nat} (hij : i ≤ j) (hj : j < l.length) : l[i]'(by omega) ≤ l[j] := by
  rcases Nat.lt_or_ge i j with h | h
  · exact List.pairwise_iff_getElem.1 hs i j (by omega) hj h
  · obtain rfl : i = j := by omega
    exact Int.le_refl _
theorem C.cmp_spec (l : List Int) (hs : l.Pairwise (· ≤ ·)) : ∀ m, m ≤ l.length → C.srt (Lib.compactUpTo l.toArray m) ∧ ∀ z, z ∈ Lib.compactUpTo l.toArray m ↔ z ∈ l.take m
  | 0, _ => ⟨by simp [Lib.compactUpTo, C.srt], by simp [Lib.compactUpTo]⟩
  | m + 1, hm => by
    obtain ⟨h1, h2⟩ := C.cmp_spec l hs m (by omega)
    have hlt : m < l.length := by omega
    have et : l.take (m + 1) = l.take m ++ [l[m]] := by rw [List.take_succ_eq_append_getElem hlt]
    have eg := C.arr_get hlt
    rw [Lib.compactUpTo_succ]
    by_cases hk : m = 0 ∨ l[m] ≠ l[m - 1]'(by omega)
    · have hkk : Lib.keeps l.toArray m = true := by
        unfold Lib.keeps
        rw [decide_eq_true_iff, eg, C.arr_get (show m - 1 < l.length by omega)]
        exact hk
      rw [if_pos hkk, eg]
      refine ⟨C.srt_snoc h1 fun y hy => ?_, fun z => by rw [List.mem_append, h2, et, List.mem_append]⟩
      obtain ⟨j, hj, rfl⟩ := List.getElem_of_mem ((h2 y).1 hy)
      have hjm : j < m := by rw [List.length_take] at hj; omega
      rw [List.getElem_take]
      rcases hk with rfl | hk
      · omega
      · have a1 := C.le_of hs (i := j) (j := m - 1) (by omega) (by omega)
        have a2 := C.le_of hs (i := m - 1) (j := m) (by omega) hlt
        omega
    · have h0 : m ≠ 0 := fun h => hk (.inl h)
      have he : l[m] = l[m - 1]'(by omega) := by
        rcases Int.decEq l[m] (l[m - 1]'(by omega)) with h | h
        · exact absurd (.inr h) hk
        · exact h
      have hkk : Lib.keeps l.toArray m = false := by
        unfold Lib.keeps
        rw [decide_eq_false_iff_not, eg, C.arr_get (show m - 1 < l.length by omega)]
        exact hk
      rw [hkk]
      refine ⟨by simpa using h1, fun z => ?_⟩
      rw [et]
      simp only [Bool.false_eq_true, if_false, List.append_nil]
      rw [h2, List.mem_append]
      constructor
      · exact .inl
      · rintro (h | h)
        · exact h
        · rw [List.mem_singleton] at h
          subst h
          rw [he]
          have : l[m - 1]'(by omega) = (l.take m)[m - 1]'(by rw [List.length_take]; omega) := by rw [List.getElem_take]
          rw [this]
          exact List.getElem_mem _
/-- The characters of any numbers: put in order, each once. -/
def C.once (l : List Int) : List Int := Lib.compactUpTo (l.mergeSort fun x y => decide (x ≤ y)).toArray l.length
theorem C.once_spec (l : List Int) : C.srt (C.once l) ∧ ∀ z, z ∈ C.once l ↔ z ∈ l := by
  have hs : (l.mergeSort fun x y => decide (x ≤ y)).Pairwise (· ≤ ·) := by
    have h := List.pairwise_mergeSort (le := fun x y : Int => decide (x ≤ y)) (by intro a b c h1 h2; simp at *; omega) (by intro a b; simp; omega) l
    exact h.imp (by intro a b h; simpa using h)
  obtain ⟨h1, h2⟩ := C.cmp_spec _ hs l.length (by simp)
  refine ⟨h1, fun z => ?_⟩
  unfold C.once
  rw [h2, List.take_of_length_le (by simp)]
  exact (List.mergeSort_perm l _).mem_iff
def C.chars (l : List Int) : List Int := C.chF (C.once l) []
theorem C.chars_spec (l : List Int) : C.ok (C.chars l) ∧ ∀ d, C.mem (C.chars l) d = (decide (d ∈ l) && C.isC d) := by
  obtain ⟨h1, h2⟩ := C.once_spec l
  obtain ⟨h3, h4⟩ := C.ch_spec (C.once l) h1
  refine ⟨h3, fun d => ?_⟩
  show C.mem (C.chF (C.once l) []) d = _
  rw [h4 d]
  congr 1
  rw [decide_eq_decide]
  exact h2 d
end Go.Proofs.Ytgfkcbckddpbaaa
