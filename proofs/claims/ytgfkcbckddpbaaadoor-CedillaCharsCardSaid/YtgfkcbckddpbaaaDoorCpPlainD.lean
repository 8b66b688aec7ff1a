/- The layer cpset in plain Lean, more: places found. -/
import Derived.Test.YtgfkcbckddpbaaaDoorCpPlainC
namespace Go.Proofs.YtgfkcbckddpbaaaDoor
set_option linter.unusedSimpArgs false
set_option linter.unusedVariables false

/-- How many are less; is one of them it? -/
def C.ltN : List Int → Int → Nat
  | [], _ => 0
  | x :: t, d => if x < d then C.ltN t d + 1 else 0
def C.hit (l : List Int) (d : Int) : Bool := l[C.ltN l d]? == some d
theorem C.ltN_le : ∀ (l : List Int) (d : Int), C.ltN l d ≤ l.length
  | [], _ => Nat.le_refl _
  | x :: t, d => by
    show (if x < d then C.ltN t d + 1 else 0) ≤ t.length + 1
    have := C.ltN_le t d
    split <;> omega
theorem C.ltN_lt : ∀ {l : List Int} (_ : C.srt l) {k : Nat} {x : Int}, l[k]? = some x → ∀ d, (x < d ↔ k < C.ltN l d)
  | [], _, k, x, h, d => by simp at h
  | y :: t, hs, 0, x, h, d => by
    simp at h
    subst h
    show _ ↔ 0 < (if y < d then C.ltN t d + 1 else 0)
    split <;> simp_all
  | y :: t, hs, k + 1, x, h, d => by
    have h' : t[k]? = some x := by simpa using h
    have := C.ltN_lt (C.srt_tail hs) h' d
    have hy := C.srt_head hs x (List.mem_of_getElem? h')
    show _ ↔ k + 1 < (if y < d then C.ltN t d + 1 else 0)
    split
    · rw [this]; omega
    · constructor
      · intro hx; omega
      · intro hx; omega
/-- A member: the number of places up to it is odd. -/
theorem C.mem_par : ∀ {l : List Int} (_ : C.srt l) (d : Int), C.mem l d = (((C.ltN l d + (if C.hit l d = true then 1 else 0)) % 2) == 1)
  | [], _, d => rfl
  | x :: t, hs, d => by
    have ih := C.mem_par (C.srt_tail hs) d
    rw [C.mem_cons]
    rcases Int.lt_trichotomy x d with h | h | h
    · have e1 : C.ltN (x :: t) d = C.ltN t d + 1 := by show (if x < d then _ else _) = _; rw [if_pos h]
      have e2 : C.hit (x :: t) d = C.hit t d := by unfold C.hit; rw [e1]; simp
      rw [decide_eq_true (by omega), e1, e2, ih]
      generalize (if C.hit t d = true then 1 else 0) = q
      rcases Nat.mod_two_eq_zero_or_one (C.ltN t d + q) with h0 | h0
      · rw [h0, show (C.ltN t d + 1 + q) % 2 = 1 by omega]; rfl
      · rw [h0, show (C.ltN t d + 1 + q) % 2 = 0 by omega]; rfl
    · subst h
      have e1 : C.ltN (x :: t) x = 0 := by show (if x < x then _ else _) = _; rw [if_neg (by omega)]
      have e2 : C.hit (x :: t) x = true := by unfold C.hit; rw [e1]; simp
      rw [decide_eq_true (by omega), C.mem_low' hs (by omega), e1, e2]; rfl
    · have e1 : C.ltN (x :: t) d = 0 := by show (if x < d then _ else _) = _; rw [if_neg (by omega)]
      have e2 : C.hit (x :: t) d = false := by unfold C.hit; rw [e1]; simp; omega
      rw [decide_eq_false (by omega), e1, e2]; rfl
end Go.Proofs.YtgfkcbckddpbaaaDoor
