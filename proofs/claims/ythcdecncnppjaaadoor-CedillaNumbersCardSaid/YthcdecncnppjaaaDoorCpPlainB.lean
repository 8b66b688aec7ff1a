/- The layer cpset in plain Lean, more: ranges, counts, places, a set made again of marks. -/
import Derived.Test.YthcdecncnppjaaaDoorCpPlain
namespace Go.Proofs.YthcdecncnppjaaaDoor
set_option linter.unusedSimpArgs false
set_option linter.unusedVariables false

def C.rngs : List Int → List (Int × Int)
  | x :: y :: t => (x, y - 1) :: C.rngs t
  | _ => []
def C.count : List Int → Int
  | x :: y :: t => y - x + C.count t
  | _ => 0
/-- How many members are less than c. -/
def C.idx : List Int → Int → Int
  | x :: y :: t, c => (if x < c then min c y - x else 0) + C.idx t c
  | _, _ => 0
def C.atK : List Int → Int → Int × Bool
  | x :: y :: t, i => if i < y - x then (x + i, true) else C.atK t (i - (y - x))
  | _, _ => (0, false)
def C.cnt (p : Int → Bool) : Nat → Nat
  | 0 => 0
  | n + 1 => C.cnt p n + (if p n then 1 else 0)

theorem C.cnt_succ (p : Int → Bool) (n : Nat) : C.cnt p (n + 1) = C.cnt p n + (if p n then 1 else 0) := rfl
theorem C.cnt_mono (p : Int → Bool) {m n : Nat} (h : m ≤ n) : C.cnt p m ≤ C.cnt p n := by
  induction n with
  | zero => obtain rfl : m = 0 := by omega
            exact Nat.le_refl _
  | succ n ih =>
    rcases Nat.eq_or_lt_of_le h with rfl | hlt
    · exact Nat.le_refl _
    · rw [C.cnt_succ]; have := ih (by omega); omega
theorem C.cnt_congr {p q : Int → Bool} {n : Nat} (h : ∀ i : Nat, i < n → p i = q i) : C.cnt p n = C.cnt q n := by
  induction n with
  | zero => rfl
  | succ n ih => rw [C.cnt_succ, C.cnt_succ, ih (fun i hi => h i (by omega)), h n (by omega)]
theorem C.cnt_add {p q r : Int → Bool} {n : Nat} (h : ∀ i : Nat, i < n → (r i = (p i || q i)) ∧ (p i && q i) = false) : C.cnt p n + C.cnt q n = C.cnt r n := by
  induction n with
  | zero => rfl
  | succ n ih =>
    rw [C.cnt_succ, C.cnt_succ, C.cnt_succ, ← ih (fun i hi => h i (by omega))]
    obtain ⟨h1, h2⟩ := h n (by omega)
    rw [h1]
    cases hp : p n <;> cases hq : q n <;> simp_all <;> omega

theorem C.idx_step : ∀ (l : List Int), C.srt l → l.length % 2 = 0 → ∀ c : Int, C.idx l (c + 1) = C.idx l c + (if C.mem l c then 1 else 0)
  | [], _, _, _ => rfl
  | [x], _, h, _ => by simp at h
  | x :: y :: t, hs, hl, c => by
    have ht := C.srt_tail (C.srt_tail hs)
    have hxy := C.srt_head hs y (by simp)
    have ih := C.idx_step t ht (by simp at hl; omega) c
    show (if x < c + 1 then min (c + 1) y - x else 0) + C.idx t (c + 1) = (if x < c then min c y - x else 0) + C.idx t c + _
    rw [ih, C.mem_cons, C.mem_cons]
    by_cases h1 : x ≤ c
    · by_cases h2 : y ≤ c
      · rw [decide_eq_true h1, decide_eq_true h2]
        rw [if_pos (show x < c + 1 by omega)]
        by_cases h3 : x < c
        · rw [if_pos h3]; simp only [Bool.true_and, Bool.not_not]; omega
        · omega
      · have hm : C.mem t c = false := C.mem_low' (C.srt_tail hs) (by omega)
        rw [decide_eq_true h1, decide_eq_false h2, hm, if_pos (show x < c + 1 by omega)]
        by_cases h3 : x < c
        · rw [if_pos h3]; simp; omega
        · rw [if_neg h3]; simp; omega
    · have hm : C.mem t c = false := C.mem_low' (C.srt_tail hs) (by omega)
      rw [decide_eq_false h1, hm, if_neg (show ¬ x < c + 1 by omega), if_neg (show ¬ x < c by omega)]
      simp
theorem C.idx_low : ∀ (l : List Int) (c : Int), (∀ x ∈ l, c ≤ x) → C.idx l c = 0
  | [], _, _ => rfl
  | [x], _, _ => rfl
  | x :: y :: t, c, h => by
    show (if x < c then min c y - x else 0) + C.idx t c = 0
    rw [if_neg (by have := h x (by simp); omega), C.idx_low t c (fun z hz => h z (by simp [hz]))]
    rfl
theorem C.idx_cnt {l : List Int} (h : C.ok l) (n : Nat) : C.idx l (n : Int) = C.cnt (C.mem l) n := by
  induction n with
  | zero => exact C.idx_low l 0 (fun x hx => (h.2.1 x hx).1)
  | succ n ih =>
    rw [show ((n + 1 : Nat) : Int) = (n : Int) + 1 by omega, C.idx_step l h.1 h.2.2, ih, C.cnt_succ]
    split <;> simp
theorem C.idx_count : ∀ (l : List Int) (c : Int), C.srt l → (∀ x ∈ l, x ≤ c) → C.idx l c = C.count l
  | [], _, _, _ => rfl
  | [x], _, _, _ => rfl
  | x :: y :: t, c, hs, h => by
    have hxy := C.srt_head hs y (by simp)
    have hy := h y (by simp)
    show (if x < c then min c y - x else 0) + C.idx t c = y - x + C.count t
    rw [if_pos (by omega), C.idx_count t c (C.srt_tail (C.srt_tail hs)) (fun z hz => h z (by simp [hz]))]
    omega
theorem C.count_cnt {l : List Int} (h : C.ok l) : C.count l = C.cnt (C.mem l) 1114112 := by
  rw [← C.idx_cnt h]
  exact (C.idx_count l _ h.1 (fun x hx => (h.2.1 x hx).2)).symm
theorem C.cnt_le (p : Int → Bool) (n : Nat) : C.cnt p n ≤ n := by
  induction n with
  | zero => exact Nat.le_refl _
  | succ n ih => rw [C.cnt_succ]; split <;> omega
theorem C.count_bd {l : List Int} (h : C.ok l) : 0 ≤ C.count l ∧ C.count l ≤ 1114112 := by
  rw [C.count_cnt h]
  have := C.cnt_le (C.mem l) 1114112
  omega
theorem C.atK_no : ∀ (l : List Int) (i : Int), C.srt l → l.length % 2 = 0 → C.count l ≤ i → C.atK l i = (0, false)
  | [], _, _, _, _ => rfl
  | [x], _, _, _, _ => rfl
  | x :: y :: t, i, hs, hl, h => by
    have hxy := C.srt_head hs y (by simp)
    have hc : 0 ≤ C.count t := by
      have : ∀ l : List Int, C.srt l → 0 ≤ C.count l := by
        intro l
        induction l using C.count.induct with
        | case1 x y t ih => intro hs; have := ih (C.srt_tail (C.srt_tail hs)); have := C.srt_head hs y (by simp); show 0 ≤ y - x + C.count t; omega
        | case2 l h => intro _; unfold C.count; split <;> simp_all
      exact this t (C.srt_tail (C.srt_tail hs))
    change y - x + C.count t ≤ i at h
    show (if i < y - x then _ else _) = _
    rw [if_neg (by omega)]
    exact C.atK_no t _ (C.srt_tail (C.srt_tail hs)) (by simp at hl; omega) (by omega)
theorem C.atK_yes : ∀ (l : List Int) (i : Int), C.srt l → l.length % 2 = 0 → 0 ≤ i → i < C.count l → (C.atK l i).2 = true ∧ C.mem l (C.atK l i).1 = true ∧ C.idx l (C.atK l i).1 = i ∧ (∃ x ∈ l, x ≤ (C.atK l i).1) ∧ ∃ x ∈ l, (C.atK l i).1 < x
  | [], i, _, _, h0, h => by change i < 0 at h; omega
  | [x], i, _, _, h0, h => by change i < 0 at h; omega
  | x :: y :: t, i, hs, hl, h0, h => by
    have hxy := C.srt_head hs y (by simp)
    change i < y - x + C.count t at h
    have ht := C.srt_tail (C.srt_tail hs)
    by_cases hi : i < y - x
    · rw [show C.atK (x :: y :: t) i = (x + i, true) from by show (if i < y - x then _ else _) = _; rw [if_pos hi]]
      have hm : C.mem t (x + i) = false := C.mem_low' (C.srt_tail hs) (by omega)
      refine ⟨rfl, ?_, ?_, ⟨x, by simp, by show x ≤ x + i; omega⟩, ⟨y, by simp, by show x + i < y; omega⟩⟩
      · rw [C.mem_cons, C.mem_cons, decide_eq_true (show x ≤ x + i by omega), decide_eq_false (show ¬ y ≤ x + i by omega)]; rfl
      · show (if x < x + i then min (x + i) y - x else 0) + C.idx t (x + i) = i
        rw [C.idx_low t (x + i) (fun z hz => by have := C.srt_head (C.srt_tail hs) z hz; omega)]
        split <;> omega
    · rw [show C.atK (x :: y :: t) i = C.atK t (i - (y - x)) from by show (if i < y - x then _ else _) = _; rw [if_neg hi]]
      obtain ⟨h1, h2, h3, ⟨z, hz, hz'⟩, ⟨z2, hz2, hz2'⟩⟩ := C.atK_yes t (i - (y - x)) ht (by simp at hl; omega) (by omega) (by omega)
      have hyz := C.srt_head (C.srt_tail hs) z hz
      refine ⟨h1, ?_, ?_, ⟨z, by simp [hz], hz'⟩, ⟨z2, by simp [hz2], hz2'⟩⟩
      · rw [C.mem_cons, C.mem_cons, decide_eq_true (show x ≤ _ by omega), decide_eq_true (show y ≤ _ by omega), h2]; rfl
      · show (if x < _ then min _ y - x else 0) + C.idx t _ = i
        rw [h3, if_pos (by omega)]
        omega

theorem C.rngs_len : ∀ l : List Int, (C.rngs l).length = l.length / 2
  | [] => rfl
  | [x] => by simp [C.rngs]
  | x :: y :: t => by
    show (C.rngs t).length + 1 = (t.length + 1 + 1) / 2
    rw [C.rngs_len t]; omega
theorem C.rngs_get : ∀ (l : List Int) (k : Nat) (hk : 2 * k + 1 < l.length), (C.rngs l)[k]? = some (l[2 * k]'(by omega), l[2 * k + 1]'hk - 1)
  | [], k, hk => by simp at hk
  | [x], k, hk => by simp at hk
  | x :: y :: t, 0, hk => rfl
  | x :: y :: t, k + 1, hk => by
    have := C.rngs_get t k (by simp at hk; omega)
    show (C.rngs t)[k]? = _
    rw [this]
    simp only [show 2 * (k + 1) = 2 * k + 1 + 1 by omega, show 2 * (k + 1) + 1 = (2 * k + 1) + 1 + 1 by omega, List.getElem_cons_succ]

/-- All characters. -/
def C.all : List Int := [0, 55296, 57344, 1114112]
theorem C.all_ok : C.ok C.all := by
  refine ⟨?_, ?_, rfl⟩
  · unfold C.srt C.all; decide
  · unfold C.all; simp
def C.isC (c : Int) : Bool := decide (0 ≤ c ∧ c ≤ 1114111 ∧ (c < 55296 ∨ 57343 < c))
theorem C.all_mem (c : Int) : C.mem C.all c = C.isC c := by
  unfold C.all C.isC
  simp only [C.mem_cons, show C.mem [] c = false from rfl]
  rw [Bool.eq_iff_iff]
  simp
  omega
theorem C.nil_ok : C.ok [] := ⟨List.Pairwise.nil, by simp, rfl⟩
/-- One range's places. -/
theorem C.one_ok (a b : Int) (h1 : 0 ≤ a) (h2 : a ≤ b) (h3 : b ≤ 1114111) : C.ok [a, b + 1] := by
  refine ⟨?_, ?_, by simp⟩
  · unfold C.srt; simp; omega
  · simp; omega
theorem C.one_mem (a b c : Int) (h : a ≤ b) : C.mem [a, b + 1] c = decide (a ≤ c ∧ c ≤ b) := by
  simp only [C.mem_cons, show C.mem [] c = false from rfl]
  rw [Bool.eq_iff_iff]
  simp
  omega
end Go.Proofs.YthcdecncnppjaaaDoor
