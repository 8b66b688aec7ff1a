/- The layer cpset in plain Lean: sets as rising lists of places. No program in sight. -/
import Derived.WalkKit
namespace Go.Proofs.YtppmcnpjglackaaGreatDoor
set_option linter.unusedSimpArgs false
set_option linter.unusedVariables false

/-- Rising, each once. -/
def C.srt (l : List Int) : Prop := l.Pairwise (· < ·)
/-- Membership, read off the places. -/
def C.mem : List Int → Int → Bool
  | [], _ => false
  | x :: l, c => decide (x ≤ c) && !C.mem l c

theorem C.mem_cons (x : Int) (l : List Int) (c : Int) : C.mem (x :: l) c = (decide (x ≤ c) && !C.mem l c) := rfl
theorem C.mem_low {l : List Int} {c : Int} (h : ∀ y ∈ l, c < y) : C.mem l c = false := by
  cases l with
  | nil => rfl
  | cons x l => rw [C.mem_cons, decide_eq_false (by have := h x (by simp); omega)]; rfl
theorem C.srt_tail {x : Int} {l : List Int} (h : C.srt (x :: l)) : C.srt l := (List.pairwise_cons.1 h).2
theorem C.srt_head {x : Int} {l : List Int} (h : C.srt (x :: l)) : ∀ y ∈ l, x < y := (List.pairwise_cons.1 h).1
theorem C.mem_low' {x : Int} {l : List Int} (h : C.srt (x :: l)) {c : Int} (hc : c ≤ x) : C.mem l c = false :=
  C.mem_low fun y hy => by have := C.srt_head h y hy; omega

/-- Two rising lists with the same members are the same. -/
theorem C.canon : ∀ (l l' : List Int), C.srt l → C.srt l' → (∀ c, C.mem l c = C.mem l' c) → l = l'
  | [], [], _, _, _ => rfl
  | [], x :: l', _, h', h => by
    have := h x
    rw [C.mem_cons, C.mem_low' h' (Int.le_refl _)] at this
    simp [C.mem] at this
  | x :: l, [], h1, _, h => by
    have := h x
    rw [C.mem_cons, C.mem_low' h1 (Int.le_refl _)] at this
    simp [C.mem] at this
  | x :: l, y :: l', h1, h2, h => by
    have hx := h x
    have hy := h y
    rw [C.mem_cons, C.mem_cons, C.mem_low' h1 (Int.le_refl _)] at hx
    rw [C.mem_cons, C.mem_cons, C.mem_low' h2 (Int.le_refl _)] at hy
    have e : x = y := by
      rcases Int.lt_trichotomy x y with hlt | he | hgt
      · rw [decide_eq_false (show ¬ y ≤ x by omega)] at hx; simp at hx
      · exact he
      · rw [decide_eq_false (show ¬ x ≤ y by omega)] at hy; simp at hy
    subst e
    rw [C.canon l l' (C.srt_tail h1) (C.srt_tail h2)]
    intro c
    by_cases hc : x ≤ c
    · have := h c
      rw [C.mem_cons, C.mem_cons, decide_eq_true hc] at this
      simpa using this
    · rw [C.mem_low' h1 (by omega), C.mem_low' h2 (by omega)]

/-- A place is put ahead where something changes. -/
def C.emit (was is : Bool) (x : Int) (r : List Int) : List Int := if is = was then r else x :: r
/-- What two lists have, by whether each has it. -/
def C.mrgF (f : Bool → Bool → Bool) : Nat → Bool → Bool → Bool → List Int → List Int → List Int
  | 0, _, _, _, _, _ => []
  | n + 1, was, p, q, [], [] => []
  | n + 1, was, p, q, a :: as', [] => C.emit was (f (!p) q) a (C.mrgF f n (f (!p) q) (!p) q as' [])
  | n + 1, was, p, q, [], b :: bs => C.emit was (f p (!q)) b (C.mrgF f n (f p (!q)) p (!q) [] bs)
  | n + 1, was, p, q, a :: as', b :: bs =>
    if a < b then C.emit was (f (!p) q) a (C.mrgF f n (f (!p) q) (!p) q as' (b :: bs))
    else if b < a then C.emit was (f p (!q)) b (C.mrgF f n (f p (!q)) p (!q) (a :: as') bs)
    else C.emit was (f (!p) (!q)) a (C.mrgF f n (f (!p) (!q)) (!p) (!q) as' bs)

theorem C.emit_mem (was is : Bool) (x : Int) (r : List Int) (z : Int) (h : z ∈ C.emit was is x r) : z = x ∨ z ∈ r := by
  unfold C.emit at h
  split at h
  · exact .inr h
  · exact List.mem_cons.1 h
theorem C.emit_srt (was is : Bool) (x : Int) (r : List Int) (h : C.srt r) (hx : ∀ y ∈ r, x < y) : C.srt (C.emit was is x r) := by
  unfold C.emit
  split
  · exact h
  · exact List.pairwise_cons.2 ⟨hx, h⟩
theorem C.mrgF_sub (f : Bool → Bool → Bool) : ∀ (n : Nat) (was p q : Bool) (a b : List Int) (z : Int), z ∈ C.mrgF f n was p q a b → z ∈ a ∨ z ∈ b
  | 0, _, _, _, _, _, z, h => by cases h
  | n + 1, was, p, q, [], [], z, h => by cases h
  | n + 1, was, p, q, a :: as', [], z, h => by
    rcases C.emit_mem _ _ _ _ _ h with rfl | h
    · simp
    · rcases C.mrgF_sub f n _ _ _ _ _ z h with h | h
      · exact .inl (List.mem_cons_of_mem _ h)
      · cases h
  | n + 1, was, p, q, [], b :: bs, z, h => by
    rcases C.emit_mem _ _ _ _ _ h with rfl | h
    · simp
    · rcases C.mrgF_sub f n _ _ _ _ _ z h with h | h
      · cases h
      · exact .inr (List.mem_cons_of_mem _ h)
  | n + 1, was, p, q, a :: as', b :: bs, z, h => by
    unfold C.mrgF at h
    split at h
    · rcases C.emit_mem _ _ _ _ _ h with rfl | h
      · simp
      · rcases C.mrgF_sub f n _ _ _ _ _ z h with h | h
        · exact .inl (List.mem_cons_of_mem _ h)
        · exact .inr h
    · split at h
      · rcases C.emit_mem _ _ _ _ _ h with rfl | h
        · simp
        · rcases C.mrgF_sub f n _ _ _ _ _ z h with h | h
          · exact .inl h
          · exact .inr (List.mem_cons_of_mem _ h)
      · rcases C.emit_mem _ _ _ _ _ h with rfl | h
        · simp
        · rcases C.mrgF_sub f n _ _ _ _ _ z h with h | h
          · exact .inl (List.mem_cons_of_mem _ h)
          · exact .inr (List.mem_cons_of_mem _ h)

theorem C.mrgF_srt (f : Bool → Bool → Bool) : ∀ (n : Nat) (was p q : Bool) (a b : List Int), C.srt a → C.srt b → C.srt (C.mrgF f n was p q a b)
  | 0, _, _, _, _, _, _, _ => List.Pairwise.nil
  | n + 1, was, p, q, [], [], _, _ => List.Pairwise.nil
  | n + 1, was, p, q, a :: as', [], ha, hb => by
    refine C.emit_srt _ _ _ _ (C.mrgF_srt f n _ _ _ _ _ (C.srt_tail ha) hb) fun y hy => ?_
    rcases C.mrgF_sub f n _ _ _ _ _ y hy with h | h
    · exact C.srt_head ha y h
    · cases h
  | n + 1, was, p, q, [], b :: bs, ha, hb => by
    refine C.emit_srt _ _ _ _ (C.mrgF_srt f n _ _ _ _ _ ha (C.srt_tail hb)) fun y hy => ?_
    rcases C.mrgF_sub f n _ _ _ _ _ y hy with h | h
    · cases h
    · exact C.srt_head hb y h
  | n + 1, was, p, q, a :: as', b :: bs, ha, hb => by
    unfold C.mrgF
    split
    · rename_i hlt
      refine C.emit_srt _ _ _ _ (C.mrgF_srt f n _ _ _ _ _ (C.srt_tail ha) hb) fun y hy => ?_
      rcases C.mrgF_sub f n _ _ _ _ _ y hy with h | h
      · exact C.srt_head ha y h
      · rcases List.mem_cons.1 h with rfl | h
        · exact hlt
        · have := C.srt_head hb y h; omega
    · split
      · rename_i hlt
        refine C.emit_srt _ _ _ _ (C.mrgF_srt f n _ _ _ _ _ ha (C.srt_tail hb)) fun y hy => ?_
        rcases C.mrgF_sub f n _ _ _ _ _ y hy with h | h
        · rcases List.mem_cons.1 h with rfl | h
          · exact hlt
          · have := C.srt_head ha y h; omega
        · exact C.srt_head hb y h
      · rename_i h1 h2
        refine C.emit_srt _ _ _ _ (C.mrgF_srt f n _ _ _ _ _ (C.srt_tail ha) (C.srt_tail hb)) fun y hy => ?_
        rcases C.mrgF_sub f n _ _ _ _ _ y hy with h | h
        · exact C.srt_head ha y h
        · have := C.srt_head hb y h; omega

/-- Crossing a place: what is on its far side. -/
theorem C.emit_cross (was is : Bool) (x : Int) (r : List Int) (c : Int) (hx : x ≤ c) : (was ^^ C.mem (C.emit was is x r) c) = (is ^^ C.mem r c) := by
  unfold C.emit
  split
  · rename_i h; rw [h]
  · rename_i h
    rw [C.mem_cons, decide_eq_true hx]
    cases was <;> cases is <;> simp_all
theorem C.emit_low (was is : Bool) (x : Int) (r : List Int) (c : Int) (hx : c < x) (hr : ∀ y ∈ r, x < y) : C.mem (C.emit was is x r) c = false := by
  refine C.mem_low fun y hy => ?_
  rcases C.emit_mem _ _ _ _ _ hy with rfl | h
  · exact hx
  · have := hr y h; omega

theorem C.mrgF_mem (f : Bool → Bool → Bool) : ∀ (n : Nat) (p q : Bool) (a b : List Int), C.srt a → C.srt b → a.length + b.length ≤ n → ∀ c,
    (f p q ^^ C.mem (C.mrgF f n (f p q) p q a b) c) = f (p ^^ C.mem a c) (q ^^ C.mem b c)
  | 0, p, q, a, b, _, _, h, c => by
    have ha : a = [] := List.eq_nil_of_length_eq_zero (by omega)
    have hb : b = [] := List.eq_nil_of_length_eq_zero (by omega)
    subst ha hb
    simp [C.mrgF, C.mem]
  | n + 1, p, q, [], [], _, _, h, c => by simp [C.mrgF, C.mem]
  | n + 1, p, q, a :: as', [], ha, hb, h, c => by
    have ih := C.mrgF_mem f n (!p) q as' [] (C.srt_tail ha) hb (by simp at h ⊢; omega) c
    show (f p q ^^ C.mem (C.emit (f p q) (f (!p) q) a _) c) = _
    by_cases hc : a ≤ c
    · rw [C.emit_cross _ _ _ _ _ hc, ih, C.mem_cons, decide_eq_true hc]
      cases p <;> cases C.mem as' c <;> rfl
    · rw [C.emit_low _ _ _ _ _ (by omega), C.mem_cons, decide_eq_false hc]
      · simp [C.mem]
      · intro y hy
        rcases C.mrgF_sub f n _ _ _ _ _ y hy with h | h
        · exact C.srt_head ha y h
        · cases h
  | n + 1, p, q, [], b :: bs, ha, hb, h, c => by
    have ih := C.mrgF_mem f n p (!q) [] bs ha (C.srt_tail hb) (by simp at h ⊢; omega) c
    show (f p q ^^ C.mem (C.emit (f p q) (f p (!q)) b _) c) = _
    by_cases hc : b ≤ c
    · rw [C.emit_cross _ _ _ _ _ hc, ih, C.mem_cons b, decide_eq_true hc]
      cases q <;> cases C.mem bs c <;> rfl
    · rw [C.emit_low _ _ _ _ _ (by omega), C.mem_cons b, decide_eq_false hc]
      · simp [C.mem]
      · intro y hy
        rcases C.mrgF_sub f n _ _ _ _ _ y hy with h | h
        · cases h
        · exact C.srt_head hb y h
  | n + 1, p, q, a :: as', b :: bs, ha, hb, h, c => by
    unfold C.mrgF
    split
    · rename_i hlt
      have ih := C.mrgF_mem f n (!p) q as' (b :: bs) (C.srt_tail ha) hb (by simp at h ⊢; omega) c
      by_cases hc : a ≤ c
      · rw [C.emit_cross _ _ _ _ _ hc, ih, C.mem_cons a, decide_eq_true hc]
        cases p <;> cases C.mem as' c <;> rfl
      · rw [C.emit_low _ _ _ _ _ (by omega), C.mem_cons a, decide_eq_false hc, C.mem_cons b, decide_eq_false (by omega)]
        · simp
        · intro y hy
          rcases C.mrgF_sub f n _ _ _ _ _ y hy with h | h
          · exact C.srt_head ha y h
          · rcases List.mem_cons.1 h with rfl | h
            · exact hlt
            · have := C.srt_head hb y h; omega
    · split
      · rename_i hlt
        have ih := C.mrgF_mem f n p (!q) (a :: as') bs ha (C.srt_tail hb) (by simp at h ⊢; omega) c
        by_cases hc : b ≤ c
        · rw [C.emit_cross _ _ _ _ _ hc, ih, C.mem_cons b, decide_eq_true hc]
          cases q <;> cases C.mem bs c <;> rfl
        · rw [C.emit_low _ _ _ _ _ (by omega), C.mem_cons b, decide_eq_false hc, C.mem_cons a, decide_eq_false (by omega)]
          · simp
          · intro y hy
            rcases C.mrgF_sub f n _ _ _ _ _ y hy with h | h
            · rcases List.mem_cons.1 h with rfl | h
              · exact hlt
              · have := C.srt_head ha y h; omega
            · exact C.srt_head hb y h
      · rename_i h1 h2
        have ih := C.mrgF_mem f n (!p) (!q) as' bs (C.srt_tail ha) (C.srt_tail hb) (by simp at h ⊢; omega) c
        by_cases hc : a ≤ c
        · rw [C.emit_cross _ _ _ _ _ hc, ih, C.mem_cons a, decide_eq_true hc, C.mem_cons b, decide_eq_true (show b ≤ c by omega)]
          cases p <;> cases q <;> cases C.mem as' c <;> cases C.mem bs c <;> rfl
        · rw [C.emit_low _ _ _ _ _ (by omega), C.mem_cons a, decide_eq_false hc, C.mem_cons b, decide_eq_false (by omega)]
          · simp
          · intro y hy
            rcases C.mrgF_sub f n _ _ _ _ _ y hy with h | h
            · exact C.srt_head ha y h
            · have := C.srt_head hb y h; omega

def C.mrg (f : Bool → Bool → Bool) (a b : List Int) : List Int := C.mrgF f (a.length + b.length) false false false a b
theorem C.mrg_mem (f : Bool → Bool → Bool) (hf : f false false = false) {a b : List Int} (ha : C.srt a) (hb : C.srt b) (c : Int) : C.mem (C.mrg f a b) c = f (C.mem a c) (C.mem b c) := by
  have := C.mrgF_mem f (a.length + b.length) false false a b ha hb (Nat.le_refl _) c
  rw [hf] at this
  show C.mem (C.mrgF f (a.length + b.length) false false false a b) c = _
  simpa using this
theorem C.mrg_srt (f : Bool → Bool → Bool) {a b : List Int} (ha : C.srt a) (hb : C.srt b) : C.srt (C.mrg f a b) := C.mrgF_srt f _ _ _ _ _ _ ha hb

/-- Beyond the last place: a member just if the places are odd. -/
theorem C.mem_high : ∀ (l : List Int) (c : Int), (∀ y ∈ l, y ≤ c) → C.mem l c = (l.length % 2 == 1)
  | [], _, _ => rfl
  | x :: l, c, h => by
    rw [C.mem_cons, decide_eq_true (h x (by simp)), C.mem_high l c (fun y hy => h y (List.mem_cons_of_mem _ hy)), List.length_cons]
    rcases Nat.mod_two_eq_zero_or_one l.length with e | e
    · rw [e, show (l.length + 1) % 2 = 1 by omega]; rfl
    · rw [e, show (l.length + 1) % 2 = 0 by omega]; rfl

/-- The places of a set: rising, of numbers up to 0x110000, even. -/
def C.ok (l : List Int) : Prop := C.srt l ∧ (∀ x ∈ l, 0 ≤ x ∧ x ≤ 1114112) ∧ l.length % 2 = 0
theorem C.mrg_ok (f : Bool → Bool → Bool) (hf : f false false = false) {a b : List Int} (ha : C.ok a) (hb : C.ok b) : C.ok (C.mrg f a b) := by
  have hsub : ∀ x ∈ C.mrg f a b, 0 ≤ x ∧ x ≤ 1114112 := by
    intro x hx
    rcases C.mrgF_sub f _ _ _ _ _ _ x hx with h | h
    · exact ha.2.1 x h
    · exact hb.2.1 x h
  refine ⟨C.mrg_srt f ha.1 hb.1, hsub, ?_⟩
  have h1 := C.mem_high (C.mrg f a b) 1114112 (fun y hy => (hsub y hy).2)
  rw [C.mrg_mem f hf ha.1 hb.1, C.mem_high a _ (fun y hy => (ha.2.1 y hy).2), C.mem_high b _ (fun y hy => (hb.2.1 y hy).2), ha.2.2, hb.2.2] at h1
  rw [show (f (0 == 1) (0 == 1)) = false from hf] at h1
  have : ((C.mrg f a b).length % 2 == 1) = false := h1.symm
  simp at this
  omega
theorem C.mrg_len (f : Bool → Bool → Bool) (a b : List Int) : (C.mrg f a b).length ≤ a.length + b.length := by
  unfold C.mrg
  generalize hn : a.length + b.length = n
  have : ∀ n was p q a b, a.length + b.length ≤ n → (C.mrgF f n was p q a b).length ≤ n := by
    intro n
    induction n with
    | zero => intro was p q a b _; simp [C.mrgF]
    | succ n ih =>
      intro was p q a b h
      have he : ∀ was is x (r : List Int), r.length ≤ n → (C.emit was is x r).length ≤ n + 1 := by
        intro was is x r hr
        unfold C.emit
        split
        · omega
        · rw [List.length_cons]; omega
      cases a with
      | nil => cases b with
        | nil => simp [C.mrgF]
        | cons b bs => exact he _ _ _ _ (ih _ _ _ _ _ (by simp at h ⊢; omega))
      | cons a as' => cases b with
        | nil => exact he _ _ _ _ (ih _ _ _ _ _ (by simp at h ⊢; omega))
        | cons b bs =>
          unfold C.mrgF
          split
          · exact he _ _ _ _ (ih _ _ _ _ _ (by simp at h ⊢; omega))
          · split
            · exact he _ _ _ _ (ih _ _ _ _ _ (by simp at h ⊢; omega))
            · exact he _ _ _ _ (ih _ _ _ _ _ (by simp at h ⊢; omega))
  exact this n _ _ _ a b (by omega)
end Go.Proofs.YtppmcnpjglackaaGreatDoor

/- The layer cpset in plain Lean, more: ranges, counts, places, a set made again of marks. -/
namespace Go.Proofs.YtppmcnpjglackaaGreatDoor
set_option linter.unusedSimpArgs false
set_option linter.unusedVariables false

def C.rngs : List Int → List (Int × Int)
  | x :: y :: t => (x, y - 1) :: C.rngs t
  | _ => []
def C.count : List Int → Int
  | x :: y :: t => y - x + C.count t
  | _ => 0
/-- How many members are less than c. -/
def C.idx : List Int → Int → Int
  | x :: y :: t, c => (if x < c then min c y - x else 0) + C.idx t c
  | _, _ => 0
def C.atK : List Int → Int → Int × Bool
  | x :: y :: t, i => if i < y - x then (x + i, true) else C.atK t (i - (y - x))
  | _, _ => (0, false)
def C.cnt (p : Int → Bool) : Nat → Nat
  | 0 => 0
  | n + 1 => C.cnt p n + (if p n then 1 else 0)

theorem C.cnt_succ (p : Int → Bool) (n : Nat) : C.cnt p (n + 1) = C.cnt p n + (if p n then 1 else 0) := rfl
theorem C.cnt_mono (p : Int → Bool) {m n : Nat} (h : m ≤ n) : C.cnt p m ≤ C.cnt p n := by
  induction n with
  | zero => obtain rfl : m = 0 := by omega
            exact Nat.le_refl _
  | succ n ih =>
    rcases Nat.eq_or_lt_of_le h with rfl | hlt
    · exact Nat.le_refl _
    · rw [C.cnt_succ]; have := ih (by omega); omega
theorem C.cnt_congr {p q : Int → Bool} {n : Nat} (h : ∀ i : Nat, i < n → p i = q i) : C.cnt p n = C.cnt q n := by
  induction n with
  | zero => rfl
  | succ n ih => rw [C.cnt_succ, C.cnt_succ, ih (fun i hi => h i (by omega)), h n (by omega)]
theorem C.cnt_add {p q r : Int → Bool} {n : Nat} (h : ∀ i : Nat, i < n → (r i = (p i || q i)) ∧ (p i && q i) = false) : C.cnt p n + C.cnt q n = C.cnt r n := by
  induction n with
  | zero => rfl
  | succ n ih =>
    rw [C.cnt_succ, C.cnt_succ, C.cnt_succ, ← ih (fun i hi => h i (by omega))]
    obtain ⟨h1, h2⟩ := h n (by omega)
    rw [h1]
    cases hp : p n <;> cases hq : q n <;> simp_all <;> omega

theorem C.idx_step : ∀ (l : List Int), C.srt l → l.length % 2 = 0 → ∀ c : Int, C.idx l (c + 1) = C.idx l c + (if C.mem l c then 1 else 0)
  | [], _, _, _ => rfl
  | [x], _, h, _ => by simp at h
  | x :: y :: t, hs, hl, c => by
    have ht := C.srt_tail (C.srt_tail hs)
    have hxy := C.srt_head hs y (by simp)
    have ih := C.idx_step t ht (by simp at hl; omega) c
    show (if x < c + 1 then min (c + 1) y - x else 0) + C.idx t (c + 1) = (if x < c then min c y - x else 0) + C.idx t c + _
    rw [ih, C.mem_cons, C.mem_cons]
    by_cases h1 : x ≤ c
    · by_cases h2 : y ≤ c
      · rw [decide_eq_true h1, decide_eq_true h2]
        rw [if_pos (show x < c + 1 by omega)]
        by_cases h3 : x < c
        · rw [if_pos h3]; simp only [Bool.true_and, Bool.not_not]; omega
        · omega
      · have hm : C.mem t c = false := C.mem_low' (C.srt_tail hs) (by omega)
        rw [decide_eq_true h1, decide_eq_false h2, hm, if_pos (show x < c + 1 by omega)]
        by_cases h3 : x < c
        · rw [if_pos h3]; simp; omega
        · rw [if_neg h3]; simp; omega
    · have hm : C.mem t c = false := C.mem_low' (C.srt_tail hs) (by omega)
      rw [decide_eq_false h1, hm, if_neg (show ¬ x < c + 1 by omega), if_neg (show ¬ x < c by omega)]
      simp
theorem C.idx_low : ∀ (l : List Int) (c : Int), (∀ x ∈ l, c ≤ x) → C.idx l c = 0
  | [], _, _ => rfl
  | [x], _, _ => rfl
  | x :: y :: t, c, h => by
    show (if x < c then min c y - x else 0) + C.idx t c = 0
    rw [if_neg (by have := h x (by simp); omega), C.idx_low t c (fun z hz => h z (by simp [hz]))]
    rfl
theorem C.idx_cnt {l : List Int} (h : C.ok l) (n : Nat) : C.idx l (n : Int) = C.cnt (C.mem l) n := by
  induction n with
  | zero => exact C.idx_low l 0 (fun x hx => (h.2.1 x hx).1)
  | succ n ih =>
    rw [show ((n + 1 : Nat) : Int) = (n : Int) + 1 by omega, C.idx_step l h.1 h.2.2, ih, C.cnt_succ]
    split <;> simp
theorem C.idx_count : ∀ (l : List Int) (c : Int), C.srt l → (∀ x ∈ l, x ≤ c) → C.idx l c = C.count l
  | [], _, _, _ => rfl
  | [x], _, _, _ => rfl
  | x :: y :: t, c, hs, h => by
    have hxy := C.srt_head hs y (by simp)
    have hy := h y (by simp)
    show (if x < c then min c y - x else 0) + C.idx t c = y - x + C.count t
    rw [if_pos (by omega), C.idx_count t c (C.srt_tail (C.srt_tail hs)) (fun z hz => h z (by simp [hz]))]
    omega
theorem C.count_cnt {l : List Int} (h : C.ok l) : C.count l = C.cnt (C.mem l) 1114112 := by
  rw [← C.idx_cnt h]
  exact (C.idx_count l _ h.1 (fun x hx => (h.2.1 x hx).2)).symm
theorem C.cnt_le (p : Int → Bool) (n : Nat) : C.cnt p n ≤ n := by
  induction n with
  | zero => exact Nat.le_refl _
  | succ n ih => rw [C.cnt_succ]; split <;> omega
theorem C.count_bd {l : List Int} (h : C.ok l) : 0 ≤ C.count l ∧ C.count l ≤ 1114112 := by
  rw [C.count_cnt h]
  have := C.cnt_le (C.mem l) 1114112
  omega
theorem C.atK_no : ∀ (l : List Int) (i : Int), C.srt l → l.length % 2 = 0 → C.count l ≤ i → C.atK l i = (0, false)
  | [], _, _, _, _ => rfl
  | [x], _, _, _, _ => rfl
  | x :: y :: t, i, hs, hl, h => by
    have hxy := C.srt_head hs y (by simp)
    have hc : 0 ≤ C.count t := by
      have : ∀ l : List Int, C.srt l → 0 ≤ C.count l := by
        intro l
        induction l using C.count.induct with
        | case1 x y t ih => intro hs; have := ih (C.srt_tail (C.srt_tail hs)); have := C.srt_head hs y (by simp); show 0 ≤ y - x + C.count t; omega
        | case2 l h => intro _; unfold C.count; split <;> simp_all
      exact this t (C.srt_tail (C.srt_tail hs))
    change y - x + C.count t ≤ i at h
    show (if i < y - x then _ else _) = _
    rw [if_neg (by omega)]
    exact C.atK_no t _ (C.srt_tail (C.srt_tail hs)) (by simp at hl; omega) (by omega)
theorem C.atK_yes : ∀ (l : List Int) (i : Int), C.srt l → l.length % 2 = 0 → 0 ≤ i → i < C.count l → (C.atK l i).2 = true ∧ C.mem l (C.atK l i).1 = true ∧ C.idx l (C.atK l i).1 = i ∧ (∃ x ∈ l, x ≤ (C.atK l i).1) ∧ ∃ x ∈ l, (C.atK l i).1 < x
  | [], i, _, _, h0, h => by change i < 0 at h; omega
  | [x], i, _, _, h0, h => by change i < 0 at h; omega
  | x :: y :: t, i, hs, hl, h0, h => by
    have hxy := C.srt_head hs y (by simp)
    change i < y - x + C.count t at h
    have ht := C.srt_tail (C.srt_tail hs)
    by_cases hi : i < y - x
    · rw [show C.atK (x :: y :: t) i = (x + i, true) from by show (if i < y - x then _ else _) = _; rw [if_pos hi]]
      have hm : C.mem t (x + i) = false := C.mem_low' (C.srt_tail hs) (by omega)
      refine ⟨rfl, ?_, ?_, ⟨x, by simp, by show x ≤ x + i; omega⟩, ⟨y, by simp, by show x + i < y; omega⟩⟩
      · rw [C.mem_cons, C.mem_cons, decide_eq_true (show x ≤ x + i by omega), decide_eq_false (show ¬ y ≤ x + i by omega)]; rfl
      · show (if x < x + i then min (x + i) y - x else 0) + C.idx t (x + i) = i
        rw [C.idx_low t (x + i) (fun z hz => by have := C.srt_head (C.srt_tail hs) z hz; omega)]
        split <;> omega
    · rw [show C.atK (x :: y :: t) i = C.atK t (i - (y - x)) from by show (if i < y - x then _ else _) = _; rw [if_neg hi]]
      obtain ⟨h1, h2, h3, ⟨z, hz, hz'⟩, ⟨z2, hz2, hz2'⟩⟩ := C.atK_yes t (i - (y - x)) ht (by simp at hl; omega) (by omega) (by omega)
      have hyz := C.srt_head (C.srt_tail hs) z hz
      refine ⟨h1, ?_, ?_, ⟨z, by simp [hz], hz'⟩, ⟨z2, by simp [hz2], hz2'⟩⟩
      · rw [C.mem_cons, C.mem_cons, decide_eq_true (show x ≤ _ by omega), decide_eq_true (show y ≤ _ by omega), h2]; rfl
      · show (if x < _ then min _ y - x else 0) + C.idx t _ = i
        rw [h3, if_pos (by omega)]
        omega

theorem C.rngs_len : ∀ l : List Int, (C.rngs l).length = l.length / 2
  | [] => rfl
  | [x] => by simp [C.rngs]
  | x :: y :: t => by
    show (C.rngs t).length + 1 = (t.length + 1 + 1) / 2
    rw [C.rngs_len t]; omega
theorem C.rngs_get : ∀ (l : List Int) (k : Nat) (hk : 2 * k + 1 < l.length), (C.rngs l)[k]? = some (l[2 * k]'(by omega), l[2 * k + 1]'hk - 1)
  | [], k, hk => by simp at hk
  | [x], k, hk => by simp at hk
  | x :: y :: t, 0, hk => rfl
  | x :: y :: t, k + 1, hk => by
    have := C.rngs_get t k (by simp at hk; omega)
    show (C.rngs t)[k]? = _
    rw [this]
    simp only [show 2 * (k + 1) = 2 * k + 1 + 1 by omega, show 2 * (k + 1) + 1 = (2 * k + 1) + 1 + 1 by omega, List.getElem_cons_succ]

/-- All characters. -/
def C.all : List Int := [0, 55296, 57344, 1114112]
theorem C.all_ok : C.ok C.all := by
  refine ⟨?_, ?_, rfl⟩
  · unfold C.srt C.all; decide
  · unfold C.all; simp
def C.isC (c : Int) : Bool := decide (0 ≤ c ∧ c ≤ 1114111 ∧ (c < 55296 ∨ 57343 < c))
theorem C.all_mem (c : Int) : C.mem C.all c = C.isC c := by
  unfold C.all C.isC
  simp only [C.mem_cons, show C.mem [] c = false from rfl]
  rw [Bool.eq_iff_iff]
  simp
  omega
theorem C.nil_ok : C.ok [] := ⟨List.Pairwise.nil, by simp, rfl⟩
/-- One range's places. -/
theorem C.one_ok (a b : Int) (h1 : 0 ≤ a) (h2 : a ≤ b) (h3 : b ≤ 1114111) : C.ok [a, b + 1] := by
  refine ⟨?_, ?_, by simp⟩
  · unfold C.srt; simp; omega
  · simp; omega
theorem C.one_mem (a b c : Int) (h : a ≤ b) : C.mem [a, b + 1] c = decide (a ≤ c ∧ c ≤ b) := by
  simp only [C.mem_cons, show C.mem [] c = false from rfl]
  rw [Bool.eq_iff_iff]
  simp
  omega
end Go.Proofs.YtppmcnpjglackaaGreatDoor

/- The layer cpset in plain Lean, more: range by range. -/
namespace Go.Proofs.YtppmcnpjglackaaGreatDoor
set_option linter.unusedSimpArgs false
set_option linter.unusedVariables false

/-- The members of the first ranges. -/
def C.part : List Int → Nat → Int
  | _, 0 => 0
  | x :: y :: t, i + 1 => y - x + C.part t i
  | _, _ => 0
theorem C.part0 (l : List Int) : C.part l 0 = 0 := by unfold C.part; rfl
theorem C.ok_tail {x y : Int} {t : List Int} (h : C.ok (x :: y :: t)) : C.ok t :=
  ⟨C.srt_tail (C.srt_tail h.1), fun z hz => h.2.1 z (by simp [hz]), by have := h.2.2; simp at this; omega⟩
theorem C.part_step : ∀ {l : List Int} {i : Nat} {r : Int × Int}, C.ok l → (C.rngs l)[i]? = some r → C.part l (i + 1) = C.part l i + (r.2 - r.1 + 1)
  | [], i, r, _, h => by simp [C.rngs] at h
  | [x], i, r, _, h => by simp [C.rngs] at h
  | x :: y :: t, 0, r, _, h => by
    simp [C.rngs] at h
    subst h
    show y - x + C.part t 0 = 0 + (y - 1 - x + 1)
    rw [show C.part t 0 = 0 by cases t <;> rfl]
    omega
  | x :: y :: t, i + 1, r, hk, h => by
    have := C.part_step (C.ok_tail hk) (show (C.rngs t)[i]? = some r from h)
    show y - x + C.part t (i + 1) = y - x + C.part t i + _
    rw [this]; omega
theorem C.part_all : ∀ l : List Int, C.part l (C.rngs l).length = C.count l
  | [] => rfl
  | [x] => rfl
  | x :: y :: t => by
    show y - x + C.part t (C.rngs t).length = y - x + C.count t
    rw [C.part_all t]
theorem C.part_bd : ∀ {l : List Int} (_ : C.ok l) (i : Nat), 0 ≤ C.part l i ∧ C.part l i ≤ C.count l
  | [], _, i => by cases i <;> exact ⟨Int.le_refl _, Int.le_refl _⟩
  | [x], h, _ => by have := h.2.2; simp at this
  | x :: y :: t, h, 0 => ⟨Int.le_refl _, (C.count_bd h).1⟩
  | x :: y :: t, h, i + 1 => by
    have hxy := C.srt_head h.1 y (by simp)
    have := C.part_bd (C.ok_tail h) i
    show 0 ≤ y - x + C.part t i ∧ y - x + C.part t i ≤ y - x + C.count t
    omega
theorem C.rng_bd : ∀ {l : List Int} {i : Nat} {r : Int × Int}, C.ok l → (C.rngs l)[i]? = some r → 0 ≤ r.1 ∧ r.1 ≤ r.2 ∧ r.2 ≤ 1114111 ∧ r.1 ≤ 1114111
  | [], i, r, _, h => by simp [C.rngs] at h
  | [x], i, r, _, h => by simp [C.rngs] at h
  | x :: y :: t, 0, r, hk, h => by
    simp [C.rngs] at h
    subst h
    have hxy := C.srt_head hk.1 y (by simp)
    have h1 := hk.2.1 x (by simp)
    have h2 := hk.2.1 y (by simp)
    dsimp only
    omega
  | x :: y :: t, i + 1, r, hk, h => C.rng_bd (C.ok_tail hk) (show (C.rngs t)[i]? = some r from h)

/-- Members less than d, in the first ranges. -/
def C.idxP : List Int → Int → Nat → Int
  | _, _, 0 => 0
  | x :: y :: t, d, i + 1 => (if x < d then min d y - x else 0) + C.idxP t d i
  | _, _, _ => 0
theorem C.idxP0 (l : List Int) (d : Int) : C.idxP l d 0 = 0 := by unfold C.idxP; rfl
theorem C.idxP_all : ∀ (l : List Int) (d : Int), C.idxP l d (C.rngs l).length = C.idx l d
  | [], _ => rfl
  | [x], _ => rfl
  | x :: y :: t, d => by
    show (if x < d then min d y - x else 0) + C.idxP t d (C.rngs t).length = (if x < d then min d y - x else 0) + C.idx t d
    rw [C.idxP_all t d]
theorem C.idxP_in : ∀ {l : List Int} {d : Int} {i : Nat} {r : Int × Int}, C.ok l → (C.rngs l)[i]? = some r → r.1 < d → C.idxP l d (i + 1) = C.idxP l d i + (min (d - 1) r.2 - r.1 + 1)
  | [], d, i, r, _, h, _ => by simp [C.rngs] at h
  | [x], d, i, r, _, h, _ => by simp [C.rngs] at h
  | x :: y :: t, d, 0, r, _, h, hd => by
    simp [C.rngs] at h
    subst h
    show (if x < d then min d y - x else 0) + C.idxP t d 0 = 0 + (min (d - 1) (y - 1) - x + 1)
    rw [C.idxP0, if_pos hd]
    omega
  | x :: y :: t, d, i + 1, r, hk, h, hd => by
    have := C.idxP_in (C.ok_tail hk) (show (C.rngs t)[i]? = some r from h) hd
    show _ + C.idxP t d (i + 1) = _ + C.idxP t d i + _
    rw [this]; omega
theorem C.idxP_out : ∀ {l : List Int} {d : Int} {i : Nat} {r : Int × Int}, C.ok l → (C.rngs l)[i]? = some r → ¬ r.1 < d → C.idxP l d (i + 1) = C.idxP l d i
  | [], d, i, r, _, h, _ => by simp [C.rngs] at h
  | [x], d, i, r, _, h, _ => by simp [C.rngs] at h
  | x :: y :: t, d, 0, r, _, h, hd => by
    simp [C.rngs] at h
    subst h
    show (if x < d then min d y - x else 0) + C.idxP t d 0 = 0
    rw [C.idxP0, if_neg hd]
    rfl
  | x :: y :: t, d, i + 1, r, hk, h, hd => by
    have := C.idxP_out (C.ok_tail hk) (show (C.rngs t)[i]? = some r from h) hd
    show _ + C.idxP t d (i + 1) = _ + C.idxP t d i
    rw [this]
theorem C.idxP_bd : ∀ {l : List Int} (_ : C.ok l) (d : Int) (i : Nat), 0 ≤ C.idxP l d i ∧ C.idxP l d i ≤ C.count l
  | [], _, d, i => by cases i <;> exact ⟨Int.le_refl _, Int.le_refl _⟩
  | [x], h, _, _ => by have := h.2.2; simp at this
  | x :: y :: t, h, d, 0 => ⟨Int.le_refl _, (C.count_bd h).1⟩
  | x :: y :: t, h, d, i + 1 => by
    have hxy := C.srt_head h.1 y (by simp)
    have := C.idxP_bd (C.ok_tail h) d i
    show 0 ≤ (if x < d then min d y - x else 0) + C.idxP t d i ∧ (if x < d then min d y - x else 0) + C.idxP t d i ≤ y - x + C.count t
    split <;> omega
/-- The one of a number. -/
def C.at (l : List Int) (q : Int) : Int × Bool := if q < 0 then (0, false) else C.atK l q
theorem C.at_neg (l : List Int) {q : Int} (h : q < 0) : C.at l q = (0, false) := if_pos h
theorem C.at_pos (l : List Int) {q : Int} (h : ¬ q < 0) : C.at l q = C.atK l q := if_neg h
theorem C.rngs_drop : ∀ {l : List Int} {i : Nat} {r : Int × Int}, (C.rngs l)[i]? = some r → ∃ t, l.drop (2 * i) = r.1 :: (r.2 + 1) :: t ∧ l.drop (2 * (i + 1)) = t
  | [], i, r, h => by simp [C.rngs] at h
  | [x], i, r, h => by simp [C.rngs] at h
  | x :: y :: t, 0, r, h => by
    simp [C.rngs] at h
    subst h
    exact ⟨t, by simp, rfl⟩
  | x :: y :: t, i + 1, r, h => by
    obtain ⟨t', h1, h2⟩ := C.rngs_drop (show (C.rngs t)[i]? = some r from h)
    exact ⟨t', by rw [show 2 * (i + 1) = 2 * i + 1 + 1 by omega]; exact h1, by rw [show 2 * (i + 1 + 1) = 2 * (i + 1) + 1 + 1 by omega]; exact h2⟩
end Go.Proofs.YtppmcnpjglackaaGreatDoor

/- The layer cpset in plain Lean, more: places found. -/
namespace Go.Proofs.YtppmcnpjglackaaGreatDoor
set_option linter.unusedSimpArgs false
set_option linter.unusedVariables false

/-- How many are less; is one of them it? -/
def C.ltN : List Int → Int → Nat
  | [], _ => 0
  | x :: t, d => if x < d then C.ltN t d + 1 else 0
def C.hit (l : List Int) (d : Int) : Bool := l[C.ltN l d]? == some d
theorem C.ltN_le : ∀ (l : List Int) (d : Int), C.ltN l d ≤ l.length
  | [], _ => Nat.le_refl _
  | x :: t, d => by
    show (if x < d then C.ltN t d + 1 else 0) ≤ t.length + 1
    have := C.ltN_le t d
    split <;> omega
theorem C.ltN_lt : ∀ {l : List Int} (_ : C.srt l) {k : Nat} {x : Int}, l[k]? = some x → ∀ d, (x < d ↔ k < C.ltN l d)
  | [], _, k, x, h, d => by simp at h
  | y :: t, hs, 0, x, h, d => by
    simp at h
    subst h
    show _ ↔ 0 < (if y < d then C.ltN t d + 1 else 0)
    split <;> simp_all
  | y :: t, hs, k + 1, x, h, d => by
    have h' : t[k]? = some x := by simpa using h
    have := C.ltN_lt (C.srt_tail hs) h' d
    have hy := C.srt_head hs x (List.mem_of_getElem? h')
    show _ ↔ k + 1 < (if y < d then C.ltN t d + 1 else 0)
    split
    · rw [this]; omega
    · constructor
      · intro hx; omega
      · intro hx; omega
/-- A member: the number of places up to it is odd. -/
theorem C.mem_par : ∀ {l : List Int} (_ : C.srt l) (d : Int), C.mem l d = (((C.ltN l d + (if C.hit l d = true then 1 else 0)) % 2) == 1)
  | [], _, d => rfl
  | x :: t, hs, d => by
    have ih := C.mem_par (C.srt_tail hs) d
    rw [C.mem_cons]
    rcases Int.lt_trichotomy x d with h | h | h
    · have e1 : C.ltN (x :: t) d = C.ltN t d + 1 := by show (if x < d then _ else _) = _; rw [if_pos h]
      have e2 : C.hit (x :: t) d = C.hit t d := by unfold C.hit; rw [e1]; simp
      rw [decide_eq_true (by omega), e1, e2, ih]
      generalize (if C.hit t d = true then 1 else 0) = q
      rcases Nat.mod_two_eq_zero_or_one (C.ltN t d + q) with h0 | h0
      · rw [h0, show (C.ltN t d + 1 + q) % 2 = 1 by omega]; rfl
      · rw [h0, show (C.ltN t d + 1 + q) % 2 = 0 by omega]; rfl
    · subst h
      have e1 : C.ltN (x :: t) x = 0 := by show (if x < x then _ else _) = _; rw [if_neg (by omega)]
      have e2 : C.hit (x :: t) x = true := by unfold C.hit; rw [e1]; simp
      rw [decide_eq_true (by omega), C.mem_low' hs (by omega), e1, e2]; rfl
    · have e1 : C.ltN (x :: t) d = 0 := by show (if x < d then _ else _) = _; rw [if_neg (by omega)]
      have e2 : C.hit (x :: t) d = false := by unfold C.hit; rw [e1]; simp; omega
      rw [decide_eq_false (by omega), e1, e2]; rfl
end Go.Proofs.YtppmcnpjglackaaGreatDoor
