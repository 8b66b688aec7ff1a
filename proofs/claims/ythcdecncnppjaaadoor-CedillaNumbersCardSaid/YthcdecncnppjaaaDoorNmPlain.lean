/- Plain laws of numbers as digits to the base 2^32: sums, products, the long division. -/
import Derived.Test.YthcdecncnppjaaaDoorRows
namespace Go.Proofs.YthcdecncnppjaaaDoor
set_option linter.unusedVariables false
set_option linter.unusedSimpArgs false
/-- The number of some digits to the base 2^32, the lowest first. -/
def Nm.val : List Nat → Nat
  | [] => 0
  | d :: r => d + 4294967296 * Nm.val r
def Nm.Ok (l : List Nat) : Prop := ∀ d ∈ l, d < 4294967296
def Nm.Can (l : List Nat) : Prop := Nm.Ok l ∧ l.getLast? ≠ some 0
theorem Nm.val_app (a b : List Nat) : Nm.val (a ++ b) = Nm.val a + 4294967296 ^ a.length * Nm.val b := by
  induction a with
  | nil => simp [Nm.val]
  | cons d r ih => simp only [List.cons_append, Nm.val, ih, List.length_cons, Nat.pow_succ]; grind
theorem Nm.val_lt {l : List Nat} (h : Nm.Ok l) : Nm.val l < 4294967296 ^ l.length := by
  induction l with
  | nil => simp [Nm.val]
  | cons d r ih =>
    have h1 := ih (fun x hx => h x (List.mem_cons_of_mem _ hx))
    have h2 := h d (List.mem_cons_self)
    simp only [Nm.val, List.length_cons, Nat.pow_succ]
    omega
theorem Nm.ok_tail {d : Nat} {r : List Nat} (h : Nm.Ok (d :: r)) : Nm.Ok r := fun x hx => h x (List.mem_cons_of_mem _ hx)
theorem Nm.can_tail {d : Nat} {r : List Nat} (h : Nm.Can (d :: r)) : Nm.Can r := by
  refine ⟨Nm.ok_tail h.1, fun e => h.2 ?_⟩
  cases r with
  | nil => simp at e
  | cons x r => rw [List.getLast?_cons_cons]; exact e
theorem Nm.can_zero {l : List Nat} (h : Nm.Can l) (h0 : Nm.val l = 0) : l = [] := by
  induction l with
  | nil => rfl
  | cons d r ih =>
    simp only [Nm.val] at h0
    have := ih (Nm.can_tail h) (by omega)
    subst this
    exact absurd (by simp; omega) h.2
theorem Nm.can_inj {a b : List Nat} (ha : Nm.Can a) (hb : Nm.Can b) (h : Nm.val a = Nm.val b) : a = b := by
  induction a generalizing b with
  | nil => exact (Nm.can_zero hb h.symm).symm
  | cons d r ih =>
    cases b with
    | nil => exact Nm.can_zero ha h
    | cons e s =>
      simp only [Nm.val] at h
      have h1 := ha.1 d List.mem_cons_self
      have h2 := hb.1 e List.mem_cons_self
      have : d = e := by omega
      subst this
      rw [ih (Nm.can_tail ha) (Nm.can_tail hb) (by omega)]
theorem Nm.can_len {l : List Nat} (h : Nm.Can l) (hl : 0 < l.length) : 4294967296 ^ (l.length - 1) ≤ Nm.val l := by
  induction l with
  | nil => simp at hl
  | cons d r ih =>
    simp only [Nm.val, List.length_cons, Nat.add_sub_cancel]
    cases r with
    | nil =>
      have := h.2
      simp at this
      simp [Nm.val]
      omega
    | cons x r =>
      have := ih (Nm.can_tail h) (by simp)
      simp only [List.length_cons, Nat.add_sub_cancel] at this ⊢
      rw [Nat.pow_succ]
      omega
/-- A digit, by dividing. -/
theorem Nm.digit {l : List Nat} (h : Nm.Ok l) (i : Nat) : Nm.val l / 4294967296 ^ i % 4294967296 = l.getD i 0 := by
  induction l generalizing i with
  | nil => simp [Nm.val]
  | cons d r ih =>
    have hd := h d List.mem_cons_self
    cases i with
    | zero => simp [Nm.val]; omega
    | succ i =>
      rw [Nat.pow_succ, Nat.mul_comm (4294967296 ^ i), ← Nat.div_div_eq_div_mul]
      rw [show Nm.val (d :: r) / 4294967296 = Nm.val r by simp only [Nm.val]; omega]
      rw [ih (Nm.ok_tail h)]
      simp
theorem Nm.val_zeros (n : Nat) : Nm.val (List.replicate n 0) = 0 := by
  induction n with
  | zero => rfl
  | succ n ih => simp [List.replicate_succ, Nm.val, ih]
/-- What is left where noughts at the end are dropped. -/
theorem Nm.trimmed {l : List Nat} {n : Nat} (h : Nm.Ok l) (hn : n ≤ l.length) (hz : ∀ i, n ≤ i → i < l.length → l[i]? = some 0) (ht : 0 < n → l[n - 1]? ≠ some 0) : Nm.Can (l.take n) ∧ Nm.val (l.take n) = Nm.val l := by
  refine ⟨⟨fun d hd => h d (List.mem_of_mem_take hd), ?_⟩, ?_⟩
  · rw [List.getLast?_eq_getElem?, List.length_take, Nat.min_eq_left hn, List.getElem?_take]
    by_cases h0 : 0 < n
    · rw [if_pos (by omega)]; exact ht h0
    · rw [if_neg (by omega)]; simp
  · have : l.drop n = List.replicate (l.length - n) 0 := by
      apply List.ext_getElem?
      intro i
      rw [List.getElem?_drop, List.getElem?_replicate]
      by_cases hi : i < l.length - n
      · rw [if_pos hi, hz _ (by omega) (by omega)]
      · rw [if_neg hi, List.getElem?_eq_none (by omega)]
    conv => rhs; rw [← List.take_append_drop n l, Nm.val_app, this, Nm.val_zeros]
    simp
/-- One digit put at a place. -/
theorem Nm.val_set {l : List Nat} {i d : Nat} (hi : i < l.length) : Nm.val (l.set i d) + 4294967296 ^ i * l.getD i 0 = Nm.val l + 4294967296 ^ i * d := by
  induction l generalizing i with
  | nil => simp at hi
  | cons x r ih =>
    cases i with
    | zero => simp [Nm.val]; omega
    | succ i =>
      have := ih (i := i) (by simpa using hi)
      simp only [List.set_cons_succ, Nm.val, List.getD_cons_succ, Nat.pow_succ]
      grind
theorem Nm.ok_set {l : List Nat} {i d : Nat} (h : Nm.Ok l) (hd : d < 4294967296) : Nm.Ok (l.set i d) := fun x hx => by
  rcases List.mem_or_eq_of_mem_set hx with h1 | h1
  · exact h x h1
  · omega
theorem Nm.ok_zeros (n : Nat) : Nm.Ok (List.replicate n 0) := fun d hd => by rw [(List.mem_replicate.1 hd).2]; decide
/-- The lower digits of a number, one more. -/
theorem Nm.low (x i : Nat) : x % 4294967296 ^ (i + 1) = x % 4294967296 ^ i + 4294967296 ^ i * (x / 4294967296 ^ i % 4294967296) := by
  rw [Nat.pow_succ, Nat.mod_mul]
theorem Nm.high (x i : Nat) : x / 4294967296 ^ i = x / 4294967296 ^ i % 4294967296 + 4294967296 * (x / 4294967296 ^ (i + 1)) := by
  rw [Nat.pow_succ, ← Nat.div_div_eq_div_mul]; omega
theorem Nm.small {l : List Nat} (h : Nm.Ok l) {i : Nat} (hi : l.length ≤ i) : Nm.val l % 4294967296 ^ i = Nm.val l := Nat.mod_eq_of_lt (Nat.lt_of_lt_of_le (Nm.val_lt h) (Nat.pow_le_pow_right (by decide) hi))
/-- The comparison from the top. -/
theorem Nm.cmp_lt {a b i : Nat} (h : a / 4294967296 ^ (i + 1) = b / 4294967296 ^ (i + 1)) (hd : a / 4294967296 ^ i % 4294967296 < b / 4294967296 ^ i % 4294967296) : a < b := by
  have h1 := Nm.high a i
  have h2 := Nm.high b i
  refine Nat.lt_of_not_le fun hle => ?_
  have := Nat.div_le_div_right (c := 4294967296 ^ i) hle
  omega
theorem Nm.cmp_eq {a b i : Nat} (h : a / 4294967296 ^ (i + 1) = b / 4294967296 ^ (i + 1)) (hd : a / 4294967296 ^ i % 4294967296 = b / 4294967296 ^ i % 4294967296) : a / 4294967296 ^ i = b / 4294967296 ^ i := by
  rw [Nm.high a i, Nm.high b i, h, hd]
theorem Nm.cmp_top {l : List Nat} (h : Nm.Ok l) {i : Nat} (hi : l.length ≤ i) : Nm.val l / 4294967296 ^ i = 0 := Nat.div_eq_of_lt (Nat.lt_of_lt_of_le (Nm.val_lt h) (Nat.pow_le_pow_right (by decide) hi))
/-- A sum's digit. -/
theorem Nm.add_step {v a b c i s : Nat} (h : v + 4294967296 ^ i * c = a % 4294967296 ^ i + b % 4294967296 ^ i) (hs : s = a / 4294967296 ^ i % 4294967296 + b / 4294967296 ^ i % 4294967296 + c) :
    (v + 4294967296 ^ i * (s % 4294967296)) + 4294967296 ^ (i + 1) * (s / 4294967296) = a % 4294967296 ^ (i + 1) + b % 4294967296 ^ (i + 1) := by
  rw [Nm.low a i, Nm.low b i, Nat.pow_succ]
  have := Nat.mod_add_div s 4294967296
  generalize 4294967296 ^ i = p at *
  generalize a / p % 4294967296 = x at *
  generalize b / p % 4294967296 = y at *
  subst hs
  generalize hq : (x + y + c) / 4294967296 = q at *
  generalize hr : (x + y + c) % 4294967296 = r at *
  grind
theorem Nm.pow_le1 (M : Nat) : 2 * 4294967296 ^ M ≤ 4294967296 ^ (M + 1) := by
  rw [Nat.pow_succ, Nat.mul_comm]
  exact Nat.mul_le_mul_left _ (by decide)
theorem Nm.add_end0 {P Q x y c v : Nat} (hlt : 2 * P ≤ Q) (h : v + Q * c = x % Q + y % Q) (hx : x < P) (hy : y < P) : v = x + y := by
  rw [Nat.mod_eq_of_lt (show x < Q by omega), Nat.mod_eq_of_lt (show y < Q by omega)] at h
  rcases c with _ | c
  · omega
  · have : Q * 1 ≤ Q * (c + 1) := Nat.mul_le_mul_left _ (by omega)
    generalize Q * (c + 1) = R at *
    omega
theorem Nm.add_end {v x y M c : Nat} (h : v + 4294967296 ^ (M + 1) * c = x % 4294967296 ^ (M + 1) + y % 4294967296 ^ (M + 1)) (hx : x < 4294967296 ^ M) (hy : y < 4294967296 ^ M) : v = x + y :=
  Nm.add_end0 (Nm.pow_le1 M) h hx hy
/-- A product's digit: s is the sum of the product of two digits, what stood there and the carry. -/
theorem Nm.mul_le {p q o c : Nat} (hp : p < 4294967296) (hq : q < 4294967296) (ho : o < 4294967296) (hc : c < 4294967296) : p * q + o + c < 18446744073709551616 := by
  have : p * q ≤ 4294967295 * 4294967295 := Nat.mul_le_mul (by omega) (by omega)
  omega
theorem Nm.take_succ {l : List Nat} {k : Nat} : Nm.val (l.take (k + 1)) = Nm.val (l.take k) + 4294967296 ^ k * l.getD k 0 := by
  induction l generalizing k with
  | nil => simp [Nm.val]
  | cons d r ih =>
    cases k with
    | zero => simp [Nm.val]
    | succ k =>
      simp only [List.take_succ_cons, Nm.val, ih, List.getD_cons_succ, Nat.pow_succ]
      grind
theorem Nm.mul_step {V V' W o m p q c s : Nat} (hs : V' + 4294967296 ^ m * o = V + 4294967296 ^ m * (s % 4294967296)) (h : V + 4294967296 ^ m * c = W) (he : s = p * q + o + c) :
    V' + 4294967296 ^ (m + 1) * (s / 4294967296) = W + 4294967296 ^ m * (p * q) := by
  rw [Nat.pow_succ]
  have := Nat.mod_add_div s 4294967296
  generalize 4294967296 ^ m = P at *
  generalize s % 4294967296 = r at *
  generalize s / 4294967296 = d at *
  subst he
  generalize p * q = pq at *
  grind
theorem Nm.mul_inner {V V' XY Yk i k o p q c s : Nat} (hs : V' + 4294967296 ^ (i + k) * o = V + 4294967296 ^ (i + k) * (s % 4294967296)) (h : V + 4294967296 ^ (i + k) * c = XY + 4294967296 ^ i * (p * Yk)) (he : s = p * q + o + c) :
    V' + 4294967296 ^ (i + (k + 1)) * (s / 4294967296) = XY + 4294967296 ^ i * (p * (Yk + 4294967296 ^ k * q)) := by
  have h1 := Nm.mul_step hs h he
  rw [← Nat.add_assoc, h1, Nat.pow_add]
  generalize 4294967296 ^ i = P
  generalize 4294967296 ^ k = Q
  grind
theorem Nm.mul_row {V X P p Y : Nat} (h : V = X * Y + P * (p * Y)) : V = (X + P * p) * Y := by
  rw [h, Nat.add_mul, Nat.mul_assoc]
/-- Taking q times a number off: one digit. -/
theorem Nm.take_step {U V V' o m q v c b u r pl : Nat} {P : Nat} (hs : V' + P * u = V + P * r) (h : U + P * (c + b) = V + o) (hp : m = c + q * v) (hpl : pl = m % 4294967296) (b' : Nat) (hb : u + 4294967296 * b' = r + pl + b) :
    U + P * 4294967296 * (m / 4294967296 + b') = V' + (o + P * (q * v)) := by
  have := Nat.mod_add_div m 4294967296
  subst hpl
  generalize m % 4294967296 = x at *
  generalize m / 4294967296 = y at *
  generalize q * v = qv at *
  subst hp
  grind
theorem Nm.back_step {U V V' o v c u s P : Nat} (hs : V' + P * u = V + P * (s % 4294967296)) (h : U + o = V + P * c) (he : s = c + v + u) :
    U + (o + P * v) = V' + P * 4294967296 * (s / 4294967296) := by
  have := Nat.mod_add_div s 4294967296
  generalize s % 4294967296 = x at *
  generalize s / 4294967296 = y at *
  subst he
  grind
theorem Nm.getD_of {l : List Nat} {i : Nat} {d : Nat} (h : l[i]? = some d) : l.getD i 0 = d := by simp [List.getD, h]
theorem Nm.lt_top {l : List Nat} (h : Nm.Ok l) {m : Nat} (hz : ∀ i, m ≤ i → l.getD i 0 = 0) : Nm.val l < 4294967296 ^ m := by
  induction l generalizing m with
  | nil => simp [Nm.val]; exact Nat.pow_pos (by decide)
  | cons d r ih =>
    have hd := h d List.mem_cons_self
    cases m with
    | zero =>
      have h0 := hz 0 (Nat.le_refl _)
      simp at h0
      have := ih (Nm.ok_tail h) (m := 0) (fun i _ => by have := hz (i + 1) (by omega); simpa using this)
      simp only [Nm.val, Nat.pow_zero] at this ⊢
      omega
    | succ m =>
      have := ih (Nm.ok_tail h) (m := m) (fun i hi => by have := hz (i + 1) (by omega); simpa using this)
      simp only [Nm.val, Nat.pow_succ]
      omega
/-- One step of the long division: what is left, by a guess that is right, or one too great. -/
theorem Nm.knuth {U U' V Q q P T b : Nat} (hP : 0 < P) (hQ : Q = U / P / V) (hV : 0 < V) (hq : Q ≤ q) (hq2 : q ≤ Q + 1) (hU' : U' < P * T) (hb : b ≤ 1) (h : U + P * T * b = U' + P * (q * V)) :
    (b = 0 → q = Q ∧ U' + P * (Q * V) = U) ∧ (b = 1 → q = Q + 1) := by
  have h1 : U / P = Q * V + U / P % V := by rw [hQ, Nat.mul_comm (U / P / V) V]; exact (Nat.div_add_mod _ _).symm
  have h2 := Nat.mod_lt (U / P) hV
  have h3 : U = P * (U / P) + U % P := (Nat.div_add_mod _ _).symm
  have h4 := Nat.mod_lt U hP
  constructor
  · rintro rfl
    have : q = Q := by
      refine Nat.le_antisymm (Nat.le_of_not_lt fun hlt => ?_) hq
      have : q = Q + 1 := by omega
      subst this
      have : P * ((Q + 1) * V) ≤ U := by omega
      have h5 : (Q + 1) * V ≤ U / P := (Nat.le_div_iff_mul_le hP).2 (by rw [Nat.mul_comm]; exact this)
      rw [Nat.succ_mul] at h5
      omega
    subst this
    exact ⟨rfl, by omega⟩
  · rintro rfl
    rcases Nat.lt_or_ge Q q with hlt | hge
    · omega
    · have : q = Q := by omega
      subst this
      have : P * (q * V) ≤ U := by
        rw [h3, h1, Nat.mul_add]
        omega
      omega
theorem Nm.knuth_rest {U V P : Nat} (hP : 0 < P) (hV : 0 < V) {R : Nat} (h : R + P * (U / P / V * V) = U) : R < P * V := by
  have h1 : U / P = U / P / V * V + U / P % V := by rw [Nat.mul_comm (U / P / V) V]; exact (Nat.div_add_mod _ _).symm
  have h2 := Nat.mod_lt (U / P) hV
  have h3 : U = P * (U / P) + U % P := (Nat.div_add_mod _ _).symm
  have h4 := Nat.mod_lt U hP
  generalize U / P / V * V = K at *
  generalize U / P % V = M at *
  have h5 : R = P * M + U % P := by rw [h1, Nat.mul_add] at h3; omega
  have h6 : P * (M + 1) ≤ P * V := Nat.mul_le_mul_left _ h2
  rw [Nat.mul_add] at h6
  omega
theorem Nm.knuth_back {U U' U'' V Q P T c : Nat} (hP : 0 < P) (hV : 0 < V) (hVT : V ≤ T) (hQ : Q = U / P / V) (h : U + P * T = U' + P * ((Q + 1) * V)) (h2 : U' + P * V = U'' + P * T * c) (hU'' : U'' < P * T) : U'' + P * (Q * V) = U := by
  have h1 : U / P = Q * V + U / P % V := by rw [hQ, Nat.mul_comm (U / P / V) V]; exact (Nat.div_add_mod _ _).symm
  have h2' := Nat.mod_lt (U / P) hV
  have h3 : U = P * (U / P) + U % P := (Nat.div_add_mod _ _).symm
  have h4 := Nat.mod_lt U hP
  have h7 : P * (U / P % V + 1) ≤ P * T := Nat.mul_le_mul_left _ (Nat.le_trans h2' hVT)
  rw [h1, Nat.mul_add] at h3
  rw [Nat.mul_add] at h7
  rw [Nat.succ_mul, Nat.mul_add] at h
  generalize P * (Q * V) = K at *
  generalize P * (U / P % V) = M at *
  generalize hPT : P * T = S at *
  rcases c with _ | _ | c
  · omega
  · omega
  · have : S * 2 ≤ S * (c + 1 + 1) := Nat.mul_le_mul_left _ (by omega)
    omega
/-- The guess of a digit, as the loop goes. -/
theorem Nm.guess_step {u2 u1 u0 v1 v0 q r : Nat} (hv1 : 0 < v1) (h : q * v1 + r = u2 * 4294967296 + u1) (hq : (u2 * 18446744073709551616 + u1 * 4294967296 + u0) / (v1 * 4294967296 + v0) ≤ q ∨ 4294967295 ≤ q) (hc : 4294967296 ≤ q ∨ r * 4294967296 + u0 < q * v0) :
    0 < q ∧ (q - 1) * v1 + (r + v1) = u2 * 4294967296 + u1 ∧ ((u2 * 18446744073709551616 + u1 * 4294967296 + u0) / (v1 * 4294967296 + v0) ≤ q - 1 ∨ 4294967295 ≤ q - 1) := by
  have h0 : 0 < q := by
    rcases Nat.eq_zero_or_pos q with h | h
    · subst h; rcases hc with hc | hc
      · omega
      · omega
    · exact h
  refine ⟨h0, ?_, ?_⟩
  · obtain ⟨p, rfl⟩ : ∃ p, q = p + 1 := ⟨q - 1, by omega⟩
    rw [Nat.add_sub_cancel]
    rw [Nat.succ_mul] at h
    omega
  · rcases hc with hc | hc
    · exact .inr (by omega)
    · left
      have h1 : (u2 * 18446744073709551616 + u1 * 4294967296 + u0) / (v1 * 4294967296 + v0) < q := by
        have hp : 0 < v1 * 4294967296 + v0 := by omega
        refine (Nat.div_lt_iff_lt_mul hp).2 ?_
        have ha : q * (v1 * 4294967296 + v0) = q * v1 * 4294967296 + q * v0 := by rw [Nat.mul_add, ← Nat.mul_assoc]
        rw [ha]
        generalize q * v0 = x at *
        generalize q * v1 = y at *
        clear hq
        grind
      omega
theorem Nm.guess_start {u2 u1 u0 v1 v0 : Nat} (hv : 0 < v1) (h0 : u0 < 4294967296) : (u2 * 18446744073709551616 + u1 * 4294967296 + u0) / (v1 * 4294967296 + v0) ≤ (u2 * 4294967296 + u1) / v1 := by
  have e1 : (u2 * 4294967296 + u1) / v1 = (u2 * 18446744073709551616 + u1 * 4294967296 + u0) / (v1 * 4294967296) := by
    rw [Nat.mul_comm v1, ← Nat.div_div_eq_div_mul]
    congr 1
    have : u2 * 18446744073709551616 + u1 * 4294967296 + u0 = 4294967296 * (u2 * 4294967296 + u1) + u0 := by grind
    rw [this, Nat.mul_add_div (by decide), Nat.div_eq_of_lt h0, Nat.add_zero]
  rw [e1]
  exact Nat.div_le_div_left (by omega) (by omega)
theorem Nm.guess_end {u2 u1 u0 v1 v0 q r : Nat} (hv0 : v0 < 4294967296) (h : q * v1 + r = u2 * 4294967296 + u1) (hq : q ≤ 4294967296) (hc : 4294967296 ≤ r ∨ q * v0 ≤ r * 4294967296 + u0) :
    q * (v1 * 4294967296 + v0) ≤ u2 * 18446744073709551616 + u1 * 4294967296 + u0 := by
  have h1 : q * v0 ≤ r * 4294967296 + u0 := by
    rcases hc with hc | hc
    · have : q * v0 ≤ 4294967296 * 4294967295 := Nat.mul_le_mul hq (by omega)
      omega
    · exact hc
  rw [Nat.mul_add, ← Nat.mul_assoc]
  omega
theorem Nm.guess_right {U V U3 V2 ul vl W q : Nat} (hU : U = U3 * W + ul) (hul : ul < W) (hV : V = V2 * W + vl) (hvl : vl < W) (hlt : U < 4294967296 * V) (hV2 : 4294967296 ≤ V2) (h1 : q * V2 ≤ U3) (h2 : q ≤ 4294967296) (h3 : U3 / V2 ≤ q ∨ 4294967295 ≤ q) :
    U / V ≤ q ∧ q ≤ U / V + 1 := by
  have hW : 0 < W := by omega
  have hVp : 0 < V := by
    have : 0 < V2 * W := Nat.mul_pos (by omega) hW
    omega
  constructor
  · rcases h3 with h3 | h3
    · refine Nat.le_trans ?_ h3
      have ha : U / V * V ≤ U := Nat.div_mul_le_self _ _
      rw [Nat.le_div_iff_mul_le (by omega)]
      have hb : U / V * V2 * W ≤ U / V * V := by rw [Nat.mul_assoc]; exact Nat.mul_le_mul_left _ (by omega)
      have hc : U / V * V2 * W < (U3 + 1) * W := by rw [Nat.succ_mul]; omega
      have := Nat.lt_of_mul_lt_mul_right hc
      omega
    · have : U / V < 4294967296 := (Nat.div_lt_iff_lt_mul hVp).2 hlt
      generalize U / V = D at *
      omega
  · refine Nat.le_of_not_lt fun hgt => ?_
    obtain ⟨p, rfl⟩ : ∃ p, q = p + 1 := ⟨q - 1, by generalize U / V = D at *; omega⟩
    have ha : U < p * V := by
      have h5 : U / V + 1 ≤ p := by omega
      have := Nat.mul_le_mul_right V h5
      rw [Nat.succ_mul] at this
      have h6 : U = U / V * V + U % V := by rw [Nat.mul_comm]; exact (Nat.div_add_mod _ _).symm
      have h7 := Nat.mod_lt U hVp
      omega
    have hb : p * V ≤ p * ((V2 + 1) * W) := Nat.mul_le_mul_left _ (by rw [Nat.succ_mul]; omega)
    have hc : p * ((V2 + 1) * W) = (p * V2 + p) * W := by rw [← Nat.mul_assoc, Nat.mul_succ]
    have hd : p * V2 + p ≤ U3 := by rw [Nat.succ_mul] at h1; omega
    have he : (p * V2 + p) * W ≤ U3 * W := Nat.mul_le_mul_right _ hd
    omega
/-- Digits moved by some bits. -/
theorem Nm.left_digit {d by_ : Nat} (hby : by_ ≤ 32) : d * 2 ^ by_ = d * 2 ^ by_ % 4294967296 + 4294967296 * (d / 2 ^ (32 - by_)) := by
  have h1 : 4294967296 = 2 ^ (32 - by_) * 2 ^ by_ := by rw [← Nat.pow_add, show 32 - by_ + by_ = 32 by omega]
  have h2 : d * 2 ^ by_ / 4294967296 = d / 2 ^ (32 - by_) := by
    conv => lhs; rw [h1]
    exact Nat.mul_div_mul_right _ _ (Nat.pow_pos (by decide))
  rw [← h2]
  omega
theorem Nm.left_room {d by_ c : Nat} (hby : by_ ≤ 32) (hc : c < 2 ^ by_) : c + d * 2 ^ by_ % 4294967296 < 4294967296 ∧ ∃ a, d * 2 ^ by_ % 4294967296 = 2 ^ by_ * a := by
  have h1 : 4294967296 = 2 ^ (32 - by_) * 2 ^ by_ := by rw [← Nat.pow_add, show 32 - by_ + by_ = 32 by omega]
  have h2 : d * 2 ^ by_ % 4294967296 = d % 2 ^ (32 - by_) * 2 ^ by_ := by
    conv => lhs; rw [h1]
    exact Nat.mul_mod_mul_right _ _ _
  have h3 : d % 2 ^ (32 - by_) < 2 ^ (32 - by_) := Nat.mod_lt _ (Nat.pow_pos (by decide))
  refine ⟨?_, d % 2 ^ (32 - by_), by rw [h2, Nat.mul_comm]⟩
  rw [h2]
  have h4 : (d % 2 ^ (32 - by_) + 1) * 2 ^ by_ ≤ 2 ^ (32 - by_) * 2 ^ by_ := Nat.mul_le_mul_right _ h3
  rw [Nat.succ_mul] at h4
  omega
/-- ... and back. -/
theorem Nm.right_digit {U by_ i : Nat} (hby : by_ < 32) : (U / 4294967296 ^ i % 18446744073709551616) / 2 ^ by_ % 4294967296 = U / 2 ^ by_ / 4294967296 ^ i % 4294967296 := by
  rw [Nat.div_div_eq_div_mul U, Nat.mul_comm (2 ^ by_), ← Nat.div_div_eq_div_mul]
  generalize U / 4294967296 ^ i = m
  have h1 : 18446744073709551616 = 2 ^ by_ * (4294967296 * 2 ^ (32 - by_)) := by
    have : (2 : Nat) ^ by_ * 2 ^ (32 - by_) = 4294967296 := by rw [← Nat.pow_add, show by_ + (32 - by_) = 32 by omega]
    grind
  rw [h1, Nat.mod_mul_right_div_self, Nat.mod_mul_right_mod]
theorem Nm.two_digits (U i : Nat) : U / 4294967296 ^ i % 18446744073709551616 = U / 4294967296 ^ (i + 1) % 4294967296 * 4294967296 + U / 4294967296 ^ i % 4294967296 := by
  rw [Nat.pow_succ, ← Nat.div_div_eq_div_mul]; omega
/-- By one digit, from the top. -/
theorem Nm.small_step {x b i a r xi t : Nat} (hr : r < b) (h : x / 4294967296 ^ (i + 1) = b * a + r) (hx : xi = x / 4294967296 ^ i % 4294967296) (ht : t = r * 4294967296 + xi) (hb : b < 4294967296) :
    t / b < 4294967296 ∧ x / 4294967296 ^ i = b * (4294967296 * a + t / b) + t % b ∧ t % b < b := by
  have h1 := Nm.high x i
  have h0 : 0 < b := by omega
  have h2 := Nat.div_add_mod t b
  have h4 : xi < 4294967296 := by omega
  refine ⟨?_, ?_, Nat.mod_lt _ h0⟩
  · rw [Nat.div_lt_iff_lt_mul h0]
    have : (r + 1) * 4294967296 ≤ b * 4294967296 := Nat.mul_le_mul_right _ hr
    omega
  · have h5 : b * (4294967296 * a + t / b) = 4294967296 * (b * a) + b * (t / b) := by grind
    rw [h1, h, ← hx, h5]
    omega
theorem Nm.div_of {m b q r : Nat} (h : m = b * q + r) (hr : r < b) : m / b = q ∧ m % b = r := by
  constructor
  · rw [h, Nat.mul_add_div (by omega), Nat.div_eq_of_lt hr, Nat.add_zero]
  · rw [h, Nat.mul_add_mod, Nat.mod_eq_of_lt hr]
theorem Nm.pow1 (i : Nat) : 4294967296 ^ (i + 1) = 4294967296 ^ i * 4294967296 := by rw [Nat.pow_succ]
theorem Nm.small_inv {x b i V V' t : Nat} (hb0 : 0 < b) (hb : b < 4294967296) (hV : V = 4294967296 ^ (i + 1) * (x / 4294967296 ^ (i + 1) / b)) (hV' : V' = V + 4294967296 ^ i * (t / b))
    (ht : t = x / 4294967296 ^ (i + 1) % b * 4294967296 + x / 4294967296 ^ i % 4294967296) :
    t / b < 4294967296 ∧ V' = 4294967296 ^ i * (x / 4294967296 ^ i / b) ∧ t % b = x / 4294967296 ^ i % b := by
  obtain ⟨h1, h2, h3⟩ := Nm.small_step (Nat.mod_lt (x / 4294967296 ^ (i + 1)) hb0) (Nat.div_add_mod (x / 4294967296 ^ (i + 1)) b).symm rfl ht hb
  obtain ⟨h4, h5⟩ := Nm.div_of h2 h3
  refine ⟨h1, ?_, h5.symm⟩
  rw [hV', hV, h4, Nm.pow1]
  generalize 4294967296 ^ i = P
  generalize t / b = T
  grind
/-- A list filled digit by digit from below. -/
theorem Nm.fill_step {V V' x i d : Nat} (h : V = x % 4294967296 ^ i) (hs : V' = V + 4294967296 ^ i * d) (hd : d = x / 4294967296 ^ i % 4294967296) : V' = x % 4294967296 ^ (i + 1) := by
  rw [Nm.low, hs, h, hd]
theorem Nm.left_step {V V' V'' i d c by_ X : Nat} (hby : by_ ≤ 32) (h : V = X * 2 ^ by_) (h1 : V' + 4294967296 ^ i * c = V + 4294967296 ^ i * (c + d * 2 ^ by_ % 4294967296)) (h2 : V'' = V' + 4294967296 ^ (i + 1) * (d / 2 ^ (32 - by_))) :
    V'' = (X + 4294967296 ^ i * d) * 2 ^ by_ := by
  have h3 := Nm.left_digit (d := d) hby
  rw [Nm.pow1] at h2
  generalize 4294967296 ^ i = P at *
  generalize d * 2 ^ by_ % 4294967296 = r at *
  generalize d / 2 ^ (32 - by_) = q at *
  generalize 2 ^ by_ = z at *
  grind
end Go.Proofs.YthcdecncnppjaaaDoor
