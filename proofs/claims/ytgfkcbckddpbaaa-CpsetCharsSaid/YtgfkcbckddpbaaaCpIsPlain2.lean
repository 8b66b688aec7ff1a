/- The law's Is in plain Lean, more: the ranges that are made, mark by mark; what does not change between marks. -/
import Derived.Test.YtgfkcbckddpbaaaCpIsPlain
namespace Go.Proofs.Ytgfkcbckddpbaaa
set_option linter.unusedSimpArgs false
set_option linter.unusedVariables false

theorem C.rngs_snoc2 : ∀ (l : List Int) (a b : Int), l.length % 2 = 0 → C.rngs (l ++ [a, b]) = C.rngs l ++ [(a, b - 1)]
  | [], a, b, _ => rfl
  | [x], a, b, h => by simp at h
  | x :: y :: t, a, b, h => by
    show (x, y - 1) :: C.rngs (t ++ [a, b]) = (x, y - 1) :: C.rngs t ++ [(a, b - 1)]
    rw [C.rngs_snoc2 t a b (by simp at h; omega)]; rfl
theorem C.count_snoc2 : ∀ (l : List Int) (a b : Int), l.length % 2 = 0 → C.count (l ++ [a, b]) = C.count l + (b - a)
  | [], a, b, _ => by show b - a + C.count [] = C.count [] + (b - a); omega
  | [x], a, b, h => by simp at h
  | x :: y :: t, a, b, h => by
    show y - x + C.count (t ++ [a, b]) = y - x + C.count t + (b - a)
    rw [C.count_snoc2 t a b (by simp at h; omega)]; omega
/-- An even row that is not empty ends in a pair. -/
theorem C.even_end {l : List Int} (h : l.length % 2 = 0) (hne : l ≠ []) : ∃ l2 s e, l = l2 ++ [s, e] ∧ l2.length % 2 = 0 := by
  rcases List.eq_nil_or_concat l with rfl | ⟨l1, e, rfl⟩
  · exact absurd rfl hne
  · rcases List.eq_nil_or_concat l1 with rfl | ⟨l2, s, rfl⟩
    · simp at h
    · exact ⟨l2, s, e, by simp, by simp at h; omega⟩
/-- A step's ranges: the last one is made longer, or one is put behind; or nothing. -/
theorem C.step_end {p : Int → Bool} {l2 : List Int} {s a b : Int} (hp : p a = true) : C.step p (l2 ++ [s, a]) a b = l2 ++ [s, b] := by
  unfold C.step
  rw [if_pos hp, if_pos (by simp)]
  have : l2 ++ [s, a] = (l2 ++ [s]) ++ [a] := by simp
  rw [this, List.dropLast_concat]
  simp
theorem C.step_new {p : Int → Bool} {acc : List Int} {a b : Int} (hp : p a = true) (h : acc.getLast? ≠ some a) : C.step p acc a b = acc ++ [a, b] := by
  unfold C.step
  rw [if_pos hp, if_neg h]
theorem C.step_no {p : Int → Bool} {acc : List Int} {a b : Int} (hp : p a = false) : C.step p acc a b = acc := by
  unfold C.step
  rw [if_neg (by simp [hp])]
theorem C.step_count {p : Int → Bool} {acc : List Int} {a b : Int} (h : acc.length % 2 = 0) : C.count (C.step p acc a b) = C.count acc + (if p a = true then b - a else 0) := by
  rcases hp : p a with _ | _
  · rw [C.step_no hp]; simp
  · by_cases hl : acc.getLast? = some a
    · obtain ⟨l2, s, e, rfl, h2⟩ := C.even_end h (by rintro rfl; simp at hl)
      have he : e = a := by simpa using hl
      subst he
      rw [C.step_end hp, C.count_snoc2 _ _ _ h2, C.count_snoc2 _ _ _ h2]
      simp
      omega
    · rw [C.step_new hp hl, C.count_snoc2 _ _ _ h]; simp

/-- Mark by mark. -/
def C.wantK (p : Int → Bool) (M : List Int) : Nat → List Int
  | 0 => []
  | k + 1 => C.step p (C.wantK p M k) (M.getD k 0) (M.getD (k + 1) 0)
theorem C.wantK_upto {p : Int → Bool} {M : List Int} (hs : C.srt M) (h0 : ∀ c, c < M.getD 0 0 → p c = false) (hne : M ≠ [])
    (hp : ∀ a c, a ∈ M → a ≤ c → (∀ z ∈ M, z ≤ a ∨ c < z) → p c = p a) : ∀ k, k < M.length → C.upto p (C.wantK p M k) (M.getD k 0)
  | 0, _ => by
    refine ⟨List.Pairwise.nil, rfl, by simp [C.wantK], fun c => ?_⟩
    by_cases hc : c < M.getD 0 0
    · rw [h0 c hc]; rfl
    · rw [decide_eq_false hc, Bool.and_false]; rfl
  | k + 1, hk => by
    have ih := C.wantK_upto hs h0 hne hp k (by omega)
    have ek : M.getD k 0 = M[k]'(by omega) := by simp [List.getD, show k < M.length by omega]
    have ek1 : M.getD (k + 1) 0 = M[k + 1]'hk := by simp [List.getD, hk]
    have hlt : M[k]'(by omega) < M[k + 1]'hk := List.pairwise_iff_getElem.1 hs k (k + 1) (by omega) hk (by omega)
    refine C.upto_step ih (by rw [ek, ek1]; exact hlt) ?_
    intro c h1 h2
    rw [ek] at h1 ⊢
    rw [ek1] at h2
    refine hp _ c (List.getElem_mem _) h1 fun z hz => ?_
    obtain ⟨j, hj, rfl⟩ := List.getElem_of_mem hz
    rcases Nat.lt_or_ge k j with h' | h'
    · right
      rcases Nat.lt_or_ge (k + 1) j with h'' | h''
      · have := List.pairwise_iff_getElem.1 hs (k + 1) j hk hj h''
        omega
      · obtain rfl : j = k + 1 := by omega
        exact h2
    · left
      rcases Nat.lt_or_ge j k with h'' | h''
      · have := List.pairwise_iff_getElem.1 hs j k hj (by omega) h''
        omega
      · obtain rfl : j = k := by omega
        exact Int.le_refl _
end Go.Proofs.Ytgfkcbckddpbaaa
