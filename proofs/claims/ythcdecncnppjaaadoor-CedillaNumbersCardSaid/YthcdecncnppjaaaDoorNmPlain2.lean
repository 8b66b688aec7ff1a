/- Plain laws of numbers as bytes and decimal digits. -/
import Derived.Test.YthcdecncnppjaaaDoorNmPlain
namespace Go.Proofs.YthcdecncnppjaaaDoor
set_option linter.unusedVariables false
set_option linter.unusedSimpArgs false
/-- The number of some digits, the highest first. -/
def Nm.be (b : Nat) (l : List Nat) : Nat := l.foldl (fun a d => a * b + d) 0
theorem Nm.be_snoc (b : Nat) (l : List Nat) (d : Nat) : Nm.be b (l ++ [d]) = Nm.be b l * b + d := by simp [Nm.be]
theorem Nm.be_fold (b : Nat) (l : List Nat) (x : Nat) : l.foldl (fun a d => a * b + d) x = x * b ^ l.length + Nm.be b l := by
  induction l generalizing x with
  | nil => simp [Nm.be]
  | cons d r ih =>
    simp only [List.foldl_cons, List.length_cons, Nm.be]
    rw [ih, ih (0 * b + d), Nat.pow_succ]
    grind
theorem Nm.be_cons (b : Nat) (l : List Nat) (d : Nat) : Nm.be b (d :: l) = d * b ^ l.length + Nm.be b l := by
  have := Nm.be_fold b l d
  simp only [Nm.be, List.foldl_cons, Nat.zero_mul, Nat.zero_add] at this ⊢
  exact this
theorem Nm.be_app (b : Nat) (l m : List Nat) : Nm.be b (l ++ m) = Nm.be b l * b ^ m.length + Nm.be b m := by
  have := Nm.be_fold b m (Nm.be b l)
  rw [← this]
  simp [Nm.be]
theorem Nm.be_lt {b : Nat} {l : List Nat} (h : ∀ d ∈ l, d < b) : Nm.be b l < b ^ l.length := by
  induction l with
  | nil => simp [Nm.be]
  | cons d r ih =>
    rw [Nm.be_cons, List.length_cons, Nat.pow_succ]
    have h1 := ih (fun x hx => h x (List.mem_cons_of_mem _ hx))
    have h2 : (d + 1) * b ^ r.length ≤ b * b ^ r.length := Nat.mul_le_mul_right _ (h d List.mem_cons_self)
    rw [Nat.succ_mul] at h2
    rw [Nat.mul_comm (b ^ r.length) b]
    omega
theorem Nm.be_ge {b : Nat} {l : List Nat} (h : l.head? ≠ some 0) (hl : 0 < l.length) : b ^ (l.length - 1) ≤ Nm.be b l := by
  cases l with
  | nil => simp at hl
  | cons d r =>
    rw [Nm.be_cons, List.length_cons, Nat.add_sub_cancel]
    have : 0 < d := by
      rcases Nat.eq_zero_or_pos d with h0 | h0
      · subst h0; exact absurd rfl h
      · exact h0
    have h2 : 1 * b ^ r.length ≤ d * b ^ r.length := Nat.mul_le_mul_right _ this
    omega
/-- A number's text is not too long. -/
theorem Nm.dec_len {l : List Nat} {n L : Nat} (h : l.head? ≠ some 0) (hn : Nm.be 10 l = n) (hL : n < 4294967296 ^ L) : l.length ≤ 10 * L := by
  rcases Nat.eq_zero_or_pos l.length with h0 | h0
  · omega
  · have h1 := Nm.be_ge (b := 10) h h0
    have h2 : (4294967296 : Nat) ^ L ≤ (10 ^ 10) ^ L := Nat.pow_le_pow_left (by decide) _
    rw [← Nat.pow_mul] at h2
    have h3 : 10 ^ (l.length - 1) < 10 ^ (10 * L) := by omega
    have := (Nat.pow_lt_pow_iff_right (by decide : 1 < 10)).1 h3
    omega
theorem Nm.be_drop0 (b : Nat) (l : List Nat) : Nm.be b (l.dropWhile (· == 0)) = Nm.be b l := by
  induction l with
  | nil => rfl
  | cons d r ih =>
    rw [List.dropWhile_cons]
    by_cases h : d = 0
    · subst h; simp only [beq_self_eq_true, if_true]; rw [ih, Nm.be_cons]; omega
    · rw [if_neg (by simpa using h)]
theorem Nm.drop0_head (l : List Nat) : (l.dropWhile (· == 0)).head? ≠ some 0 := by
  induction l with
  | nil => simp
  | cons d r ih =>
    rw [List.dropWhile_cons]
    by_cases h : d = 0
    · subst h; simpa using ih
    · rw [if_neg (by simpa using h)]; simpa using h
theorem Nm.pow32 (i : Nat) : 4294967296 ^ i = 256 ^ (4 * i) := by
  rw [Nat.pow_mul]
/-- A byte of a digit. -/
theorem Nm.byte_at (x i k : Nat) (hk : k < 4) : x / 4294967296 ^ i % 4294967296 / 2 ^ (8 * k) % 256 = x / 256 ^ (4 * i + k) % 256 := by
  rw [Nm.pow32, Nat.pow_add, ← Nat.div_div_eq_div_mul]
  generalize x / 256 ^ (4 * i) = m
  rcases k with _ | _ | _ | _ | k
  · simp
  · simp only [Nat.reduceMul, Nat.reducePow, Nat.reduceAdd]; omega
  · simp only [Nat.reduceMul, Nat.reducePow, Nat.reduceAdd]; omega
  · simp only [Nat.reduceMul, Nat.reducePow, Nat.reduceAdd]; omega
  · omega
theorem Nm.byte_next (x p : Nat) : x / 256 ^ (p + 1) * 256 + x / 256 ^ p % 256 = x / 256 ^ p := by
  rw [Nat.pow_succ, ← Nat.div_div_eq_div_mul]; omega
/-- A byte put into its digit. -/
theorem Nm.take_byte {V x i d : Nat} (hV : V < 256 ^ i) (hd : d = V / 4294967296 ^ (i / 4) % 4294967296) (hx : x < 256) :
    d < 256 ^ (i % 4) ∧ d + x * 256 ^ (i % 4) < 4294967296 ∧ V + 4294967296 ^ (i / 4) * (x * 256 ^ (i % 4)) = x * 256 ^ i + V := by
  have h1 : (256 : Nat) ^ i = 4294967296 ^ (i / 4) * 256 ^ (i % 4) := by
    rw [Nm.pow32, ← Nat.pow_add]; congr 1; omega
  have h2 : V / 4294967296 ^ (i / 4) < 256 ^ (i % 4) := (Nat.div_lt_iff_lt_mul (Nat.pow_pos (by decide))).2 (by rw [Nat.mul_comm, ← h1]; exact hV)
  have h3 : d ≤ V / 4294967296 ^ (i / 4) := by rw [hd]; exact Nat.mod_le _ _
  have h4 : d < 256 ^ (i % 4) := by omega
  refine ⟨h4, ?_, ?_⟩
  · have h5 : (x + 1) * 256 ^ (i % 4) ≤ 256 * 256 ^ (i % 4) := Nat.mul_le_mul_right _ hx
    rw [Nat.succ_mul] at h5
    have h6 : 256 * 256 ^ (i % 4) ≤ 4294967296 := by
      rw [show (4294967296 : Nat) = 256 * 256 ^ 3 by decide]
      exact Nat.mul_le_mul_left _ (Nat.pow_le_pow_right (by decide) (by omega))
    omega
  · rw [h1]; grind
theorem Nm.pow256 (k : Nat) : 256 ^ k = 2 ^ (8 * k) := by rw [Nat.pow_mul]
/-- Four bytes tell a length. -/
def Nm.be4 (m : Nat) : List Nat := [m / 16777216 % 256, m / 65536 % 256, m / 256 % 256, m % 256]
theorem Nm.be4_be {m : Nat} (h : m < 4294967296) : Nm.be 256 (Nm.be4 m) = m := by
  simp only [Nm.be, Nm.be4, List.foldl_cons, List.foldl_nil]; omega
/-- A digit more of a number's text, the lowest first. -/
theorem Nm.dec_step {l : List Nat} {d A n : Nat} (h : Nm.be 10 l.reverse + 10 ^ l.length * (d + A) = n) :
    Nm.be 10 (l ++ [d % 10]).reverse + 10 ^ (l ++ [d % 10]).length * (d / 10) + 10 ^ l.length * A = n := by
  rw [List.reverse_append, List.reverse_singleton, List.singleton_append, Nm.be_cons, List.length_reverse, List.length_append, List.length_singleton, Nat.pow_succ]
  have := Nat.mod_add_div d 10
  generalize d % 10 = r at *
  generalize d / 10 = q at *
  subst this
  grind
theorem Nm.dec_next {l : List Nat} {d X n : Nat} (h : Nm.be 10 l.reverse + 10 ^ l.length * (d + 10 * X) = n) :
    Nm.be 10 (l ++ [d % 10]).reverse + 10 ^ (l ++ [d % 10]).length * (d / 10 + X) = n := by
  have h1 := Nm.dec_step h
  rw [← h1, List.length_append, List.length_singleton, Nat.pow_succ]
  generalize 10 ^ l.length = P
  generalize d / 10 = q
  grind
theorem Nm.map_drop48 {l : List Nat} (h : ∀ d ∈ l, 48 ≤ d) : (l.dropWhile (· == 48)).map (· - 48) = (l.map (· - 48)).dropWhile (· == 0) := by
  induction l with
  | nil => rfl
  | cons d r ih =>
    have hd := h d List.mem_cons_self
    rw [List.map_cons, List.dropWhile_cons, List.dropWhile_cons]
    by_cases h0 : d = 48
    · subst h0
      simp only [beq_self_eq_true, if_true]
      exact ih (fun x hx => h x (List.mem_cons_of_mem _ hx))
    · rw [if_neg (by simpa using h0), if_neg (by simp; omega)]
      rfl
theorem Nm.drop48_head (l : List Nat) : (l.dropWhile (· == 48)).head? ≠ some 48 := by
  induction l with
  | nil => simp
  | cons d r ih =>
    rw [List.dropWhile_cons]
    by_cases h : d = 48
    · subst h; simpa using ih
    · rw [if_neg (by simpa using h)]; simpa using h
theorem Nm.take_be (b : Nat) {l : List Nat} {i x : Nat} (h : l[i]? = some x) : Nm.be b (l.take (i + 1)) = Nm.be b (l.take i) * b + x := by
  have : l.take (i + 1) = l.take i ++ [x] := by
    rw [List.take_add_one, h]; rfl
  rw [this, Nm.be_snoc]
theorem Nm.le_of_be {b : Nat} (hb : 1 < b) {l : List Nat} (h : l.head? ≠ some 0) (h0 : Nm.be b l = 0) : l = [] := by
  rcases Nat.eq_zero_or_pos l.length with h1 | h1
  · exact List.eq_nil_of_length_eq_zero h1
  · have := Nm.be_ge (b := b) h h1
    have := Nat.pow_pos (n := l.length - 1) (show 0 < b by omega)
    omega
/-- Bits put beside others. -/
theorem Nm.or_add {a b n : Nat} (h : a < 2 ^ n) : 2 ^ n * b ||| a = 2 ^ n * b + a := (Nat.two_pow_add_eq_or_of_lt h b).symm
end Go.Proofs.YthcdecncnppjaaaDoor
