/- The layer cpset in plain Lean, more: range by range. -/
import Derived.Test.YtamcpdggpdaioaaCpPlainB
namespace Go.Proofs.Ytamcpdggpdaioaa
set_option linter.unusedSimpArgs false
set_option linter.unusedVariables false

/-- The members of the first ranges. -/
def C.part : List Int → Nat → Int
  | _, 0 => 0
  | x :: y :: t, i + 1 => y - x + C.part t i
  | _, _ => 0
theorem C.part0 (l : List Int) : C.part l 0 = 0 := by unfold C.part; rfl
theorem C.ok_tail {x y : Int} {t : List Int} (h : C.ok (x :: y :: t)) : C.ok t :=
  ⟨C.srt_tail (C.srt_tail h.1), fun z hz => h.2.1 z (by simp [hz]), by have := h.2.2; simp at this; omega⟩
theorem C.part_step : ∀ {l : List Int} {i : Nat} {r : Int × Int}, C.ok l → (C.rngs l)[i]? = some r → C.part l (i + 1) = C.part l i + (r.2 - r.1 + 1)
  | [], i, r, _, h => by simp [C.rngs] at h
  | [x], i, r, _, h => by simp [C.rngs] at h
  | x :: y :: t, 0, r, _, h => by
    simp [C.rngs] at h
    subst h
    show y - x + C.part t 0 = 0 + (y - 1 - x + 1)
    rw [show C.part t 0 = 0 by cases t <;> rfl]
    omega
  | x :: y :: t, i + 1, r, hk, h => by
    have := C.part_step (C.ok_tail hk) (show (C.rngs t)[i]? = some r from h)
    show y - x + C.part t (i + 1) = y - x + C.part t i + _
    rw [this]; omega
theorem C.part_all : ∀ l : List Int, C.part l (C.rngs l).length = C.count l
  | [] => rfl
  | [x] => rfl
  | x :: y :: t => by
    show y - x + C.part t (C.rngs t).length = y - x + C.count t
    rw [C.part_all t]
theorem C.part_bd : ∀ {l : List Int} (_ : C.ok l) (i : Nat), 0 ≤ C.part l i ∧ C.part l i ≤ C.count l
  | [], _, i => by cases i <;> exact ⟨Int.le_refl _, Int.le_refl _⟩
  | [x], h, _ => by have := h.2.2; simp at this
  | x :: y :: t, h, 0 => ⟨Int.le_refl _, (C.count_bd h).1⟩
  | x :: y :: t, h, i + 1 => by
    have hxy := C.srt_head h.1 y (by simp)
    have := C.part_bd (C.ok_tail h) i
    show 0 ≤ y - x + C.part t i ∧ y - x + C.part t i ≤ y - x + C.count t
    omega
theorem C.rng_bd : ∀ {l : List Int} {i : Nat} {r : Int × Int}, C.ok l → (C.rngs l)[i]? = some r → 0 ≤ r.1 ∧ r.1 ≤ r.2 ∧ r.2 ≤ 1114111 ∧ r.1 ≤ 1114111
  | [], i, r, _, h => by simp [C.rngs] at h
  | [x], i, r, _, h => by simp [C.rngs] at h
  | x :: y :: t, 0, r, hk, h => by
    simp [C.rngs] at h
    subst h
    have hxy := C.srt_head hk.1 y (by simp)
    have h1 := hk.2.1 x (by simp)
    have h2 := hk.2.1 y (by simp)
    dsimp only
    omega
  | x :: y :: t, i + 1, r, hk, h => C.rng_bd (C.ok_tail hk) (show (C.rngs t)[i]? = some r from h)

/-- Members less than d, in the first ranges. -/
def C.idxP : List Int → Int → Nat → Int
  | _, _, 0 => 0
  | x :: y :: t, d, i + 1 => (if x < d then min d y - x else 0) + C.idxP t d i
  | _, _, _ => 0
theorem C.idxP0 (l : List Int) (d : Int) : C.idxP l d 0 = 0 := by unfold C.idxP; rfl
theorem C.idxP_all : ∀ (l : List Int) (d : Int), C.idxP l d (C.rngs l).length = C.idx l d
  | [], _ => rfl
  | [x], _ => rfl
  | x :: y :: t, d => by
    show (if x < d then min d y - x else 0) + C.idxP t d (C.rngs t).length = (if x < d then min d y - x else 0) + C.idx t d
    rw [C.idxP_all t d]
theorem C.idxP_in : ∀ {l : List Int} {d : Int} {i : Nat} {r : Int × Int}, C.ok l → (C.rngs l)[i]? = some r → r.1 < d → C.idxP l d (i + 1) = C.idxP l d i + (min (d - 1) r.2 - r.1 + 1)
  | [], d, i, r, _, h, _ => by simp [C.rngs] at h
  | [x], d, i, r, _, h, _ => by simp [C.rngs] at h
  | x :: y :: t, d, 0, r, _, h, hd => by
    simp [C.rngs] at h
    subst h
    show (if x < d then min d y - x else 0) + C.idxP t d 0 = 0 + (min (d - 1) (y - 1) - x + 1)
    rw [C.idxP0, if_pos hd]
    omega
  | x :: y :: t, d, i + 1, r, hk, h, hd => by
    have := C.idxP_in (C.ok_tail hk) (show (C.rngs t)[i]? = some r from h) hd
    show _ + C.idxP t d (i + 1) = _ + C.idxP t d i + _
    rw [this]; omega
theorem C.idxP_out : ∀ {l : List Int} {d : Int} {i : Nat} {r : Int × Int}, C.ok l → (C.rngs l)[i]? = some r → ¬ r.1 < d → C.idxP l d (i + 1) = C.idxP l d i
  | [], d, i, r, _, h, _ => by simp [C.rngs] at h
  | [x], d, i, r, _, h, _ => by simp [C.rngs] at h
  | x :: y :: t, d, 0, r, _, h, hd => by
    simp [C.rngs] at h
    subst h
    show (if x < d then min d y - x else 0) + C.idxP t d 0 = 0
    rw [C.idxP0, if_neg hd]
    rfl
  | x :: y :: t, d, i + 1, r, hk, h, hd => by
    have := C.idxP_out (C.ok_tail hk) (show (C.rngs t)[i]? = some r from h) hd
    show _ + C.idxP t d (i + 1) = _ + C.idxP t d i
    rw [this]
theorem C.idxP_bd : ∀ {l : List Int} (_ : C.ok l) (d : Int) (i : Nat), 0 ≤ C.idxP l d i ∧ C.idxP l d i ≤ C.count l
  | [], _, d, i => by cases i <;> exact ⟨Int.le_refl _, Int.le_refl _⟩
  | [x], h, _, _ => by have := h.2.2; simp at this
  | x :: y :: t, h, d, 0 => ⟨Int.le_refl _, (C.count_bd h).1⟩
  | x :: y :: t, h, d, i + 1 => by
    have hxy := C.srt_head h.1 y (by simp)
    have := C.idxP_bd (C.ok_tail h) d i
    show 0 ≤ (if x < d then min d y - x else 0) + C.idxP t d i ∧ (if x < d then min d y - x else 0) + C.idxP t d i ≤ y - x + C.count t
    split <;> omega
/-- The one of a number. -/
def C.at (l : List Int) (q : Int) : Int × Bool := if q < 0 then (0, false) else C.atK l q
theorem C.at_neg (l : List Int) {q : Int} (h : q < 0) : C.at l q = (0, false) := if_pos h
theorem C.at_pos (l : List Int) {q : Int} (h : ¬ q < 0) : C.at l q = C.atK l q := if_neg h
theorem C.rngs_drop : ∀ {l : List Int} {i : Nat} {r : Int × Int}, (C.rngs l)[i]? = some r → ∃ t, l.drop (2 * i) = r.1 :: (r.2 + 1) :: t ∧ l.drop (2 * (i + 1)) = t
  | [], i, r, h => by simp [C.rngs] at h
  | [x], i, r, h => by simp [C.rngs] at h
  | x :: y :: t, 0, r, h => by
    simp [C.rngs] at h
    subst h
    exact ⟨t, by simp, rfl⟩
  | x :: y :: t, i + 1, r, h => by
    obtain ⟨t', h1, h2⟩ := C.rngs_drop (show (C.rngs t)[i]? = some r from h)
    exact ⟨t', by rw [show 2 * (i + 1) = 2 * i + 1 + 1 by omega]; exact h1, by rw [show 2 * (i + 1 + 1) = 2 * (i + 1) + 1 + 1 by omega]; exact h2⟩
end Go.Proofs.Ytamcpdggpdaioaa
