/- The layer cpset in plain Lean: the number of a character, and the character of a number. -/
import Derived.Test.YtgfkcbckddpbaaaDoorCpPlainC
import Derived.Test.YtgfkcbckddpbaaaDoorCpFind
namespace Go.Proofs.YtgfkcbckddpbaaaDoor
set_option linter.unusedSimpArgs false
set_option linter.unusedVariables false

theorem C.idx_mono : ∀ (l : List Int), C.srt l → ∀ (x y : Int), x ≤ y → C.idx l x ≤ C.idx l y
  | [], _, _, _, _ => Int.le_refl _
  | [a], _, _, _, _ => Int.le_refl _
  | a :: b :: t, hs, x, y, h => by
    have := C.idx_mono t (C.srt_tail (C.srt_tail hs)) x y h
    have hab := C.srt_head hs b (by simp)
    show (if a < x then min x b - a else 0) + C.idx t x ≤ (if a < y then min y b - a else 0) + C.idx t y
    split <;> split <;> omega
theorem C.idx_lt {l : List Int} (h : C.ok l) {x y : Int} (hm : C.mem l x = true) (hxy : x < y) : C.idx l x + 1 ≤ C.idx l y := by
  have h1 := C.idx_step l h.1 h.2.2 x
  rw [hm] at h1
  have h2 := C.idx_mono l h.1 (x + 1) y (by omega)
  simp at h1
  omega
theorem C.idx_bd {l : List Int} (h : C.ok l) (x : Int) : 0 ≤ C.idx l x ∧ C.idx l x ≤ C.count l := by
  constructor
  · rcases Int.lt_or_le x 0 with hx | hx
    · rw [C.idx_low l x (fun z hz => by have := h.2.1 z hz; omega)]; omega
    · have := C.idx_mono l h.1 0 x hx
      rw [C.idx_low l 0 (fun z hz => (h.2.1 z hz).1)] at this
      exact this
  · rcases Int.lt_or_le x 1114112 with hx | hx
    · have := C.idx_mono l h.1 x 1114112 (by omega)
      rw [C.idx_count l 1114112 h.1 (fun z hz => (h.2.1 z hz).2)] at this
      exact this
    · rw [C.idx_count l x h.1 (fun z hz => by have := h.2.1 z hz; omega)]; omega
theorem C.at_in {l : List Int} (h : C.ok l) {i : Int} (h0 : 0 ≤ i) (h1 : i < C.count l) : ∃ d, C.at l i = (d, true) ∧ C.mem l d = true ∧ C.idx l d = i ∧ 0 ≤ d ∧ d ≤ 1114111 := by
  obtain ⟨a1, a2, a3, ⟨z, hz, hz'⟩, ⟨z2, hz2, hz2'⟩⟩ := C.atK_yes l i h.1 h.2.2 h0 h1
  have := h.2.1 z hz
  have := h.2.1 z2 hz2
  refine ⟨(C.atK l i).1, ?_, a2, a3, by omega, by omega⟩
  rw [C.at_pos l (by omega), ← a1]
theorem C.at_out {l : List Int} (h : C.ok l) {i : Int} (h1 : ¬ (0 ≤ i ∧ i < C.count l)) : C.at l i = (0, false) := by
  rcases Int.lt_or_le i 0 with h0 | h0
  · exact C.at_neg l h0
  · rw [C.at_pos l (by omega)]
    exact C.atK_no l i h.1 h.2.2 (by omega)

end Go.Proofs.YtgfkcbckddpbaaaDoor
