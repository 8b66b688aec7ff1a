/- Plain laws of the long division, as the loop goes. -/
import Derived.Test.YthcdecncnppjaaaDoorNmPlain2
namespace Go.Proofs.YthcdecncnppjaaaDoor
set_option linter.unusedVariables false
set_option linter.unusedSimpArgs false
/-- A divisor made right: its highest digit is at least half of what it may be. -/
theorem Nm.norm {l : List Nat} {n t b : Nat} (h : Nm.Ok l) (hn : l.length = n + 1) (ht : l.getD n 0 = t) (hb : b ≤ 31) (h1 : 2 ^ (31 - b) ≤ t) (h2 : t < 2 ^ (32 - b)) :
    2147483648 * 4294967296 ^ n ≤ Nm.val l * 2 ^ b ∧ Nm.val l * 2 ^ b < 4294967296 * 4294967296 ^ n ∧ 2 ^ b * 4294967296 ^ n ≤ Nm.val l * 2 ^ b := by
  have e1 : Nm.val l = Nm.val (l.take n) + 4294967296 ^ n * t := by
    have := Nm.take_succ (l := l) (k := n)
    rw [List.take_of_length_le (by omega), ht] at this
    exact this
  have e2 : Nm.val (l.take n) < 4294967296 ^ n := by
    have := Nm.val_lt (l := l.take n) (fun x hx => h x (List.mem_of_mem_take hx))
    rwa [List.length_take, show min n l.length = n by omega] at this
  generalize Nm.val (l.take n) = a at *
  generalize 4294967296 ^ n = P at *
  have e3 : (2147483648 : Nat) = 2 ^ (31 - b) * 2 ^ b := by rw [← Nat.pow_add, show 31 - b + b = 31 by omega]
  have e4 : (4294967296 : Nat) = 2 ^ (32 - b) * 2 ^ b := by rw [← Nat.pow_add, show 32 - b + b = 32 by omega]
  have hZ : 0 < 2 ^ b := Nat.pow_pos (by decide)
  have h31 : 0 < 2 ^ (31 - b) := Nat.pow_pos (by decide)
  generalize 2 ^ b = Z at *
  generalize 2 ^ (31 - b) = R at *
  generalize 2 ^ (32 - b) = S at *
  rw [e1, e3, e4]
  refine ⟨?_, ?_, ?_⟩
  · have : R * (P * Z) ≤ t * (P * Z) := Nat.mul_le_mul_right _ h1
    have e5 : (a + P * t) * Z = a * Z + t * (P * Z) := by grind
    have e6 : R * Z * P = R * (P * Z) := by grind
    omega
  · have h5 : (a + P * t) < S * P := by
      have : (t + 1) * P ≤ S * P := Nat.mul_le_mul_right _ h2
      rw [Nat.succ_mul, Nat.mul_comm t] at this
      omega
    have h6 : (a + P * t) * Z < S * P * Z := Nat.mul_lt_mul_of_pos_right h5 hZ
    have e6 : S * Z * P = S * P * Z := by grind
    omega
  · have h5 : 1 * (P * Z) ≤ t * (P * Z) := Nat.mul_le_mul_right _ (by omega)
    have e5 : (a + P * t) * Z = a * Z + t * (P * Z) := by grind
    have e6 : Z * P = P * Z := Nat.mul_comm _ _
    omega
theorem Nm.powB (n : Nat) : 4294967296 * 4294967296 ^ n = 4294967296 ^ (n + 1) := by rw [Nat.pow_succ, Nat.mul_comm]
/-- What is left at the beginning. -/
theorem Nm.long_start {l : List Nat} {m n b V : Nat} (h : Nm.Ok l) (hl : l.length = m + n + 1) (hV : 2 ^ b * 4294967296 ^ n ≤ V) : Nm.val l * 2 ^ b < 4294967296 ^ (m + 1) * V := by
  have h1 := Nm.val_lt h
  rw [hl] at h1
  have h2 : Nm.val l * 2 ^ b < 4294967296 ^ (m + n + 1) * 2 ^ b := Nat.mul_lt_mul_of_pos_right h1 (Nat.pow_pos (by decide))
  have h3 : 4294967296 ^ (m + 1) * (2 ^ b * 4294967296 ^ n) ≤ 4294967296 ^ (m + 1) * V := Nat.mul_le_mul_left _ hV
  have h4 : 4294967296 ^ (m + 1) * (2 ^ b * 4294967296 ^ n) = 4294967296 ^ (m + n + 1) * 2 ^ b := by
    rw [show m + n + 1 = (m + 1) + n by omega, Nat.pow_add 4294967296 (m + 1) n]
    generalize 4294967296 ^ (m + 1) = A
    generalize 4294967296 ^ n = C
    generalize 2 ^ b = Z
    grind
  omega
/-- Three digits from the top. -/
theorem Nm.three_digits {U i : Nat} (h : U / 4294967296 ^ i < 79228162514264337593543950336) :
    U / 4294967296 ^ i = U / 4294967296 ^ (i + 2) % 4294967296 * 18446744073709551616 + U / 4294967296 ^ (i + 1) % 4294967296 * 4294967296 + U / 4294967296 ^ i % 4294967296 := by
  have h1 := Nm.high U i
  have h2 : U / 4294967296 ^ (i + 1) = U / 4294967296 ^ (i + 1) % 4294967296 + 4294967296 * (U / 4294967296 ^ (i + 2)) := Nm.high U (i + 1)
  have h3 : U / 4294967296 ^ (i + 2) < 4294967296 := by omega
  rw [Nat.mod_eq_of_lt h3]
  generalize U / 4294967296 ^ (i + 2) = a at *
  generalize U / 4294967296 ^ (i + 1) = b at *
  generalize U / 4294967296 ^ i = c at *
  generalize c % 4294967296 = x at *
  generalize hy : b % 4294967296 = y at *
  have h4 : b = y + 4294967296 * a := h2
  have h5 : c = x + 4294967296 * b := h1
  rw [h5, h4]
  grind
/-- The guess, put to use: the numbers as they lie. -/
theorem Nm.guess_use {U V j n q : Nat} (hU : U < 4294967296 ^ (j + 1) * V) (hV1 : 2147483648 * 4294967296 ^ (n + 1) ≤ V) (hV2 : V < 4294967296 ^ (n + 2))
    {u2 u1 u0 v1 v0 : Nat} (e2 : U / 4294967296 ^ (j + n + 2) % 4294967296 = u2) (e1 : U / 4294967296 ^ (j + n + 1) % 4294967296 = u1) (e0 : U / 4294967296 ^ (j + n) % 4294967296 = u0)
    (f1 : V / 4294967296 ^ (n + 1) % 4294967296 = v1) (f0 : V / 4294967296 ^ n % 4294967296 = v0) :
    2147483648 ≤ v1 ∧ u2 ≤ v1 ∧ U / 4294967296 ^ j < 4294967296 * V ∧ (q ≤ 4294967296 → q * (v1 * 4294967296 + v0) ≤ u2 * 18446744073709551616 + u1 * 4294967296 + u0 → ((u2 * 18446744073709551616 + u1 * 4294967296 + u0) / (v1 * 4294967296 + v0) ≤ q ∨ 4294967295 ≤ q) → U / 4294967296 ^ j / V ≤ q ∧ q ≤ U / 4294967296 ^ j / V + 1) := by
  have hP : 0 < 4294967296 ^ j := Nat.pow_pos (by decide)
  have hUw : U / 4294967296 ^ j < 4294967296 * V := by
    rw [Nat.div_lt_iff_lt_mul hP]
    rw [Nm.pow1] at hU
    generalize 4294967296 ^ j = P at *
    have : 4294967296 * V * P = P * 4294967296 * V := by grind
    omega
  have hv1 : V / 4294967296 ^ (n + 1) < 4294967296 := by
    rw [Nat.div_lt_iff_lt_mul (Nat.pow_pos (by decide)), Nm.powB]; exact hV2
  have hv2 : 2147483648 ≤ V / 4294967296 ^ (n + 1) := by
    rw [Nat.le_div_iff_mul_le (Nat.pow_pos (by decide))]; exact hV1
  rw [Nat.mod_eq_of_lt hv1] at f1
  have hVd : V / 4294967296 ^ n = v1 * 4294967296 + v0 := by
    have := Nm.high V n
    rw [f0, f1] at this
    omega
  have hUU : U / 4294967296 ^ (j + n) < 79228162514264337593543950336 := by
    rw [Nat.pow_add, ← Nat.div_div_eq_div_mul, Nat.div_lt_iff_lt_mul (Nat.pow_pos (by decide))]
    have h3 : 4294967296 * V < 4294967296 * 4294967296 ^ (n + 2) := by omega
    have h4 : 4294967296 * 4294967296 ^ (n + 2) = 79228162514264337593543950336 * 4294967296 ^ n := by
      rw [Nat.pow_add]
      generalize 4294967296 ^ n = P
      rw [show (4294967296 : Nat) ^ 2 = 18446744073709551616 by decide]
      grind
    omega
  have h3d := Nm.three_digits hUU
  rw [show j + n + 2 = j + n + 1 + 1 by omega] at e2
  rw [show j + n + 2 = j + n + 1 + 1 by omega, e2, e1, e0] at h3d
  have hU3 : U / 4294967296 ^ j / 4294967296 ^ n = U / 4294967296 ^ (j + n) := by rw [Nat.div_div_eq_div_mul, ← Nat.pow_add]
  have hW : 0 < 4294967296 ^ n := Nat.pow_pos (by decide)
  have hUe : U / 4294967296 ^ j = (u2 * 18446744073709551616 + u1 * 4294967296 + u0) * 4294967296 ^ n + U / 4294967296 ^ j % 4294967296 ^ n := by
    rw [← h3d, ← hU3, Nat.mul_comm]; exact (Nat.div_add_mod _ _).symm
  have hVe : V = (v1 * 4294967296 + v0) * 4294967296 ^ n + V % 4294967296 ^ n := by
    rw [← hVd, Nat.mul_comm]; exact (Nat.div_add_mod _ _).symm
  have hul := Nat.mod_lt (U / 4294967296 ^ j) hW
  have hvl := Nat.mod_lt V hW
  refine ⟨by omega, ?_, hUw, fun g1 g2 g3 => ?_⟩
  · -- the highest digit is not above the divisor's
    have v0l : v0 < 4294967296 := by rw [← f0]; exact Nat.mod_lt _ (by decide)
    generalize 4294967296 ^ n = W at *
    generalize U / 4294967296 ^ j % W = ul at *
    generalize V % W = vl at *
    generalize U / 4294967296 ^ j = Uw at *
    refine Nat.le_of_lt_succ (Nat.lt_of_not_le fun hge => ?_)
    have k1 : (v1 + 1) * 18446744073709551616 ≤ u2 * 18446744073709551616 + u1 * 4294967296 + u0 := by
      exact Nat.le_trans (Nat.mul_le_mul_right 18446744073709551616 hge) (by rw [Nat.add_assoc]; exact Nat.le_add_right _ _)
    have k2 : (v1 + 1) * 18446744073709551616 * W ≤ Uw := by
      have := Nat.mul_le_mul_right W k1
      omega
    have k3 : V < (v1 * 4294967296 + 4294967296) * W := by
      have : (v1 * 4294967296 + v0 + 1) * W ≤ (v1 * 4294967296 + 4294967296) * W := Nat.mul_le_mul_right _ (by omega)
      rw [Nat.succ_mul] at this
      omega
    have k4 : 4294967296 * ((v1 * 4294967296 + 4294967296) * W) = (v1 + 1) * 18446744073709551616 * W := by grind
    omega
  · exact Nm.guess_right hUe hul hVe hvl hUw (by omega) g2 g1 g3
/-- At the end. -/
theorem Nm.long_end {U V Q X Y Z : Nat} (hZ : 0 < Z) (hV : V = Y * Z) (hU : U < V) (h : U + V * Q = X * Z) : Q = X / Y ∧ U / Z = X % Y := by
  have hY : 0 < Y := by
    rcases Nat.eq_zero_or_pos Y with h0 | h0
    · subst h0; omega
    · exact h0
  have h1 : X * Z / V = Q ∧ X * Z % V = U := Nm.div_of (by omega) hU
  rw [hV, Nat.mul_div_mul_right _ _ hZ, Nat.mul_mod_mul_right] at h1
  obtain ⟨h2, h3⟩ := h1
  exact ⟨h2.symm, by rw [← h3, Nat.mul_div_cancel _ hZ]⟩
theorem Nm.val_snoc0 (l : List Nat) : Nm.val (l ++ [0]) = Nm.val l := by rw [Nm.val_app]; simp [Nm.val]
theorem Nm.top_zero {l : List Nat} (h : Nm.Ok l) {m : Nat} (hl : Nm.val l < 4294967296 ^ m) {i : Nat} (hi : m ≤ i) : l.getD i 0 = 0 := by
  rw [← Nm.digit h, Nat.div_eq_of_lt (Nat.lt_of_lt_of_le hl (Nat.pow_le_pow_right (by decide) hi))]
theorem Nm.take_low {l : List Nat} (h : Nm.Ok l) {n : Nat} (hl : Nm.val l < 4294967296 ^ n) (hn : n ≤ l.length) : Nm.val (l.take n) = Nm.val l := by
  conv => rhs; rw [← List.take_append_drop n l, Nm.val_app]
  have : Nm.val (l.drop n) = 0 := by
    have h2 := congrArg Nm.val (List.take_append_drop n l)
    rw [Nm.val_app, List.length_take, Nat.min_eq_left hn] at h2
    rcases Nat.eq_zero_or_pos (Nm.val (l.drop n)) with h0 | h0
    · exact h0
    · have : 4294967296 ^ n * 1 ≤ 4294967296 ^ n * Nm.val (l.drop n) := Nat.mul_le_mul_left _ h0
      omega
  rw [this]; simp
theorem Nm.long_lt {U j n V : Nat} (hU : U < 4294967296 ^ (j + 1) * V) (hV : V < 4294967296 ^ n) : U < 4294967296 ^ (j + n + 1) := by
  have h1 : 4294967296 ^ (j + 1) * V ≤ 4294967296 ^ (j + 1) * 4294967296 ^ n := Nat.mul_le_mul_left _ (Nat.le_of_lt hV)
  rw [← Nat.pow_add, show j + 1 + n = j + n + 1 by omega] at h1
  omega
theorem Nm.long_inv {U U' V Q Q' Qd P S : Nat} (h : U + V * Q = S) (h1 : U' + P * (Qd * V) = U) (h2 : Q' = Q + P * Qd) : U' + V * Q' = S := by
  subst h2; grind
end Go.Proofs.YthcdecncnppjaaaDoor
