/- The layer cpset in plain Lean: sets as rising lists of places. No program in sight. -/
import Derived.WalkKit
namespace Go.Proofs.YthcdecncnppjaaaDoor
set_option linter.unusedSimpArgs false
set_option linter.unusedVariables false

/-- Rising, each once. -/
def C.srt (l : List Int) : Prop := l.Pairwise (· < ·)
/-- Membership, read off the places. -/
def C.mem : List Int → Int → Bool
  | [], _ => false
  | x :: l, c => decide (x ≤ c) && !C.mem l c

theorem C.mem_cons (x : Int) (l : List Int) (c : Int) : C.mem (x :: l) c = (decide (x ≤ c) && !C.mem l c) := rfl
theorem C.mem_low {l : List Int} {c : Int} (h : ∀ y ∈ l, c < y) : C.mem l c = false := by
  cases l with
  | nil => rfl
  | cons x l => rw [C.mem_cons, decide_eq_false (by have := h x (by simp); omega)]; rfl
theorem C.srt_tail {x : Int} {l : List Int} (h : C.srt (x :: l)) : C.srt l := (List.pairwise_cons.1 h).2
theorem C.srt_head {x : Int} {l : List Int} (h : C.srt (x :: l)) : ∀ y ∈ l, x < y := (List.pairwise_cons.1 h).1
theorem C.mem_low' {x : Int} {l : List Int} (h : C.srt (x :: l)) {c : Int} (hc : c ≤ x) : C.mem l c = false :=
  C.mem_low fun y hy => by have := C.srt_head h y hy; omega

/-- Two rising lists with the same members are the same. -/
theorem C.canon : ∀ (l l' : List Int), C.srt l → C.srt l' → (∀ c, C.mem l c = C.mem l' c) → l = l'
  | [], [], _, _, _ => rfl
  | [], x :: l', _, h', h => by
    have := h x
    rw [C.mem_cons, C.mem_low' h' (Int.le_refl _)] at this
    simp [C.mem] at this
  | x :: l, [], h1, _, h => by
    have := h x
    rw [C.mem_cons, C.mem_low' h1 (Int.le_refl _)] at this
    simp [C.mem] at this
  | x :: l, y :: l', h1, h2, h => by
    have hx := h x
    have hy := h y
    rw [C.mem_cons, C.mem_cons, C.mem_low' h1 (Int.le_refl _)] at hx
    rw [C.mem_cons, C.mem_cons, C.mem_low' h2 (Int.le_refl _)] at hy
    have e : x = y := by
      rcases Int.lt_trichotomy x y with hlt | he | hgt
      · rw [decide_eq_false (show ¬ y ≤ x by omega)] at hx; simp at hx
      · exact he
      · rw [decide_eq_false (show ¬ x ≤ y by omega)] at hy; simp at hy
    subst e
    rw [C.canon l l' (C.srt_tail h1) (C.srt_tail h2)]
    intro c
    by_cases hc : x ≤ c
    · have := h c
      rw [C.mem_cons, C.mem_cons, decide_eq_true hc] at this
      simpa using this
    · rw [C.mem_low' h1 (by omega), C.mem_low' h2 (by omega)]

/-- A place is put ahead where something changes. -/
def C.emit (was is : Bool) (x : Int) (r : List Int) : List Int := if is = was then r else x :: r
/-- What two lists have, by whether each has it. -/
def C.mrgF (f : Bool → Bool → Bool) : Nat → Bool → Bool → Bool → List Int → List Int → List Int
  | 0, _, _, _, _, _ => []
  | n + 1, was, p, q, [], [] => []
  | n + 1, was, p, q, a :: as', [] => C.emit was (f (!p) q) a (C.mrgF f n (f (!p) q) (!p) q as' [])
  | n + 1, was, p, q, [], b :: bs => C.emit was (f p (!q)) b (C.mrgF f n (f p (!q)) p (!q) [] bs)
  | n + 1, was, p, q, a :: as', b :: bs =>
    if a < b then C.emit was (f (!p) q) a (C.mrgF f n (f (!p) q) (!p) q as' (b :: bs))
    else if b < a then C.emit was (f p (!q)) b (C.mrgF f n (f p (!q)) p (!q) (a :: as') bs)
    else C.emit was (f (!p) (!q)) a (C.mrgF f n (f (!p) (!q)) (!p) (!q) as' bs)

theorem C.emit_mem (was is : Bool) (x : Int) (r : List Int) (z : Int) (h : z ∈ C.emit was is x r) : z = x ∨ z ∈ r := by
  unfold C.emit at h
  split at h
  · exact .inr h
  · exact List.mem_cons.1 h
theorem C.emit_srt (was is : Bool) (x : Int) (r : List Int) (h : C.srt r) (hx : ∀ y ∈ r, x < y) : C.srt (C.emit was is x r) := by
  unfold C.emit
  split
  · exact h
  · exact List.pairwise_cons.2 ⟨hx, h⟩
theorem C.mrgF_sub (f : Bool → Bool → Bool) : ∀ (n : Nat) (was p q : Bool) (a b : List Int) (z : Int), z ∈ C.mrgF f n was p q a b → z ∈ a ∨ z ∈ b
  | 0, _, _, _, _, _, z, h => by cases h
  | n + 1, was, p, q, [], [], z, h => by cases h
  | n + 1, was, p, q, a :: as', [], z, h => by
    rcases C.emit_mem _ _ _ _ _ h with rfl | h
    · simp
    · rcases C.mrgF_sub f n _ _ _ _ _ z h with h | h
      · exact .inl (List.mem_cons_of_mem _ h)
      · cases h
  | n + 1, was, p, q, [], b :: bs, z, h => by
    rcases C.emit_mem _ _ _ _ _ h with rfl | h
    · simp
    · rcases C.mrgF_sub f n _ _ _ _ _ z h with h | h
      · cases h
      · exact .inr (List.mem_cons_of_mem _ h)
  | n + 1, was, p, q, a :: as', b :: bs, z, h => by
    unfold C.mrgF at h
    split at h
    · rcases C.emit_mem _ _ _ _ _ h with rfl | h
      · simp
      · rcases C.mrgF_sub f n _ _ _ _ _ z h with h | h
        · exact .inl (List.mem_cons_of_mem _ h)
        · exact .inr h
    · split at h
      · rcases C.emit_mem _ _ _ _ _ h with rfl | h
        · simp
        · rcases C.mrgF_sub f n _ _ _ _ _ z h with h | h
          · exact .inl h
          · exact .inr (List.mem_cons_of_mem _ h)
      · rcases C.emit_mem _ _ _ _ _ h with rfl | h
        · simp
        · rcases C.mrgF_sub f n _ _ _ _ _ z h with h | h
          · exact .inl (List.mem_cons_of_mem _ h)
          · exact .inr (List.mem_cons_of_mem _ h)

theorem C.mrgF_srt (f : Bool → Bool → Bool) : ∀ (n : Nat) (was p q : Bool) (a b : List Int), C.srt a → C.srt b → C.srt (C.mrgF f n was p q a b)
  | 0, _, _, _, _, _, _, _ => List.Pairwise.nil
  | n + 1, was, p, q, [], [], _, _ => List.Pairwise.nil
  | n + 1, was, p, q, a :: as', [], ha, hb => by
    refine C.emit_srt _ _ _ _ (C.mrgF_srt f n _ _ _ _ _ (C.srt_tail ha) hb) fun y hy => ?_
    rcases C.mrgF_sub f n _ _ _ _ _ y hy with h | h
    · exact C.srt_head ha y h
    · cases h
  | n + 1, was, p, q, [], b :: bs, ha, hb => by
    refine C.emit_srt _ _ _ _ (C.mrgF_srt f n _ _ _ _ _ ha (C.srt_tail hb)) fun y hy => ?_
    rcases C.mrgF_sub f n _ _ _ _ _ y hy with h | h
    · cases h
    · exact C.srt_head hb y h
  | n + 1, was, p, q, a :: as', b :: bs, ha, hb => by
    unfold C.mrgF
    split
    · rename_i hlt
      refine C.emit_srt _ _ _ _ (C.mrgF_srt f n _ _ _ _ _ (C.srt_tail ha) hb) fun y hy => ?_
      rcases C.mrgF_sub f n _ _ _ _ _ y hy with h | h
      · exact C.srt_head ha y h
      · rcases List.mem_cons.1 h with rfl | h
        · exact hlt
        · have := C.srt_head hb y h; omega
    · split
      · rename_i hlt
        refine C.emit_srt _ _ _ _ (C.mrgF_srt f n _ _ _ _ _ ha (C.srt_tail hb)) fun y hy => ?_
        rcases C.mrgF_sub f n _ _ _ _ _ y hy with h | h
        · rcases List.mem_cons.1 h with rfl | h
          · exact hlt
          · have := C.srt_head ha y h; omega
        · exact C.srt_head hb y h
      · rename_i h1 h2
        refine C.emit_srt _ _ _ _ (C.mrgF_srt f n _ _ _ _ _ (C.srt_tail ha) (C.srt_tail hb)) fun y hy => ?_
        rcases C.mrgF_sub f n _ _ _ _ _ y hy with h | h
        · exact C.srt_head ha y h
        · have := C.srt_head hb y h; omega

/-- Crossing a place: what is on its far side. -/
theorem C.emit_cross (was is : Bool) (x : Int) (r : List Int) (c : Int) (hx : x ≤ c) : (was ^^ C.mem (C.emit was is x r) c) = (is ^^ C.mem r c) := by
  unfold C.emit
  split
  · rename_i h; rw [h]
  · rename_i h
    rw [C.mem_cons, decide_eq_true hx]
    cases was <;> cases is <;> simp_all
theorem C.emit_low (was is : Bool) (x : Int) (r : List Int) (c : Int) (hx : c < x) (hr : ∀ y ∈ r, x < y) : C.mem (C.emit was is x r) c = false := by
  refine C.mem_low fun y hy => ?_
  rcases C.emit_mem _ _ _ _ _ hy with rfl | h
  · exact hx
  · have := hr y h; omega

theorem C.mrgF_mem (f : Bool → Bool → Bool) : ∀ (n : Nat) (p q : Bool) (a b : List Int), C.srt a → C.srt b → a.length + b.length ≤ n → ∀ c,
    (f p q ^^ C.mem (C.mrgF f n (f p q) p q a b) c) = f (p ^^ C.mem a c) (q ^^ C.mem b c)
  | 0, p, q, a, b, _, _, h, c => by
    have ha : a = [] := List.eq_nil_of_length_eq_zero (by omega)
    have hb : b = [] := List.eq_nil_of_length_eq_zero (by omega)
    subst ha hb
    simp [C.mrgF, C.mem]
  | n + 1, p, q, [], [], _, _, h, c => by simp [C.mrgF, C.mem]
  | n + 1, p, q, a :: as', [], ha, hb, h, c => by
    have ih := C.mrgF_mem f n (!p) q as' [] (C.srt_tail ha) hb (by simp at h ⊢; omega) c
    show (f p q ^^ C.mem (C.emit (f p q) (f (!p) q) a _) c) = _
    by_cases hc : a ≤ c
    · rw [C.emit_cross _ _ _ _ _ hc, ih, C.mem_cons, decide_eq_true hc]
      cases p <;> cases C.mem as' c <;> rfl
    · rw [C.emit_low _ _ _ _ _ (by omega), C.mem_cons, decide_eq_false hc]
      · simp [C.mem]
      · intro y hy
        rcases C.mrgF_sub f n _ _ _ _ _ y hy with h | h
        · exact C.srt_head ha y h
        · cases h
  | n + 1, p, q, [], b :: bs, ha, hb, h, c => by
    have ih := C.mrgF_mem f n p (!q) [] bs ha (C.srt_tail hb) (by simp at h ⊢; omega) c
    show (f p q ^^ C.mem (C.emit (f p q) (f p (!q)) b _) c) = _
    by_cases hc : b ≤ c
    · rw [C.emit_cross _ _ _ _ _ hc, ih, C.mem_cons b, decide_eq_true hc]
      cases q <;> cases C.mem bs c <;> rfl
    · rw [C.emit_low _ _ _ _ _ (by omega), C.mem_cons b, decide_eq_false hc]
      · simp [C.mem]
      · intro y hy
        rcases C.mrgF_sub f n _ _ _ _ _ y hy with h | h
        · cases h
        · exact C.srt_head hb y h
  | n + 1, p, q, a :: as', b :: bs, ha, hb, h, c => by
    unfold C.mrgF
    split
    · rename_i hlt
      have ih := C.mrgF_mem f n (!p) q as' (b :: bs) (C.srt_tail ha) hb (by simp at h ⊢; omega) c
      by_cases hc : a ≤ c
      · rw [C.emit_cross _ _ _ _ _ hc, ih, C.mem_cons a, decide_eq_true hc]
        cases p <;> cases C.mem as' c <;> rfl
      · rw [C.emit_low _ _ _ _ _ (by omega), C.mem_cons a, decide_eq_false hc, C.mem_cons b, decide_eq_false (by omega)]
        · simp
        · intro y hy
          rcases C.mrgF_sub f n _ _ _ _ _ y hy with h | h
          · exact C.srt_head ha y h
          · rcases List.mem_cons.1 h with rfl | h
            · exact hlt
            · have := C.srt_head hb y h; omega
    · split
      · rename_i hlt
        have ih := C.mrgF_mem f n p (!q) (a :: as') bs ha (C.srt_tail hb) (by simp at h ⊢; omega) c
        by_cases hc : b ≤ c
        · rw [C.emit_cross _ _ _ _ _ hc, ih, C.mem_cons b, decide_eq_true hc]
          cases q <;> cases C.mem bs c <;> rfl
        · rw [C.emit_low _ _ _ _ _ (by omega), C.mem_cons b, decide_eq_false hc, C.mem_cons a, decide_eq_false (by omega)]
          · simp
          · intro y hy
            rcases C.mrgF_sub f n _ _ _ _ _ y hy with h | h
            · rcases List.mem_cons.1 h with rfl | h
              · exact hlt
              · have := C.srt_head ha y h; omega
            · exact C.srt_head hb y h
      · rename_i h1 h2
        have ih := C.mrgF_mem f n (!p) (!q) as' bs (C.srt_tail ha) (C.srt_tail hb) (by simp at h ⊢; omega) c
        by_cases hc : a ≤ c
        · rw [C.emit_cross _ _ _ _ _ hc, ih, C.mem_cons a, decide_eq_true hc, C.mem_cons b, decide_eq_true (show b ≤ c by omega)]
          cases p <;> cases q <;> cases C.mem as' c <;> cases C.mem bs c <;> rfl
        · rw [C.emit_low _ _ _ _ _ (by omega), C.mem_cons a, decide_eq_false hc, C.mem_cons b, decide_eq_false (by omega)]
          · simp
          · intro y hy
            rcases C.mrgF_sub f n _ _ _ _ _ y hy with h | h
            · exact C.srt_head ha y h
            · have := C.srt_head hb y h; omega

def C.mrg (f : Bool → Bool → Bool) (a b : List Int) : List Int := C.mrgF f (a.length + b.length) false false false a b
theorem C.mrg_mem (f : Bool → Bool → Bool) (hf : f false false = false) {a b : List Int} (ha : C.srt a) (hb : C.srt b) (c : Int) : C.mem (C.mrg f a b) c = f (C.mem a c) (C.mem b c) := by
  have := C.mrgF_mem f (a.length + b.length) false false a b ha hb (Nat.le_refl _) c
  rw [hf] at this
  show C.mem (C.mrgF f (a.length + b.length) false false false a b) c = _
  simpa using this
theorem C.mrg_srt (f : Bool → Bool → Bool) {a b : List Int} (ha : C.srt a) (hb : C.srt b) : C.srt (C.mrg f a b) := C.mrgF_srt f _ _ _ _ _ _ ha hb

/-- Beyond the last place: a member just if the places are odd. -/
theorem C.mem_high : ∀ (l : List Int) (c : Int), (∀ y ∈ l, y ≤ c) → C.mem l c = (l.length % 2 == 1)
  | [], _, _ => rfl
  | x :: l, c, h => by
    rw [C.mem_cons, decide_eq_true (h x (by simp)), C.mem_high l c (fun y hy => h y (List.mem_cons_of_mem _ hy)), List.length_cons]
    rcases Nat.mod_two_eq_zero_or_one l.length with e | e
    · rw [e, show (l.length + 1) % 2 = 1 by omega]; rfl
    · rw [e, show (l.length + 1) % 2 = 0 by omega]; rfl

/-- The places of a set: rising, of numbers up to 0x110000, even. -/
def C.ok (l : List Int) : Prop := C.srt l ∧ (∀ x ∈ l, 0 ≤ x ∧ x ≤ 1114112) ∧ l.length % 2 = 0
theorem C.mrg_ok (f : Bool → Bool → Bool) (hf : f false false = false) {a b : List Int} (ha : C.ok a) (hb : C.ok b) : C.ok (C.mrg f a b) := by
  have hsub : ∀ x ∈ C.mrg f a b, 0 ≤ x ∧ x ≤ 1114112 := by
    intro x hx
    rcases C.mrgF_sub f _ _ _ _ _ _ x hx with h | h
    · exact ha.2.1 x h
    · exact hb.2.1 x h
  refine ⟨C.mrg_srt f ha.1 hb.1, hsub, ?_⟩
  have h1 := C.mem_high (C.mrg f a b) 1114112 (fun y hy => (hsub y hy).2)
  rw [C.mrg_mem f hf ha.1 hb.1, C.mem_high a _ (fun y hy => (ha.2.1 y hy).2), C.mem_high b _ (fun y hy => (hb.2.1 y hy).2), ha.2.2, hb.2.2] at h1
  rw [show (f (0 == 1) (0 == 1)) = false from hf] at h1
  have : ((C.mrg f a b).length % 2 == 1) = false := h1.symm
  simp at this
  omega
theorem C.mrg_len (f : Bool → Bool → Bool) (a b : List Int) : (C.mrg f a b).length ≤ a.length + b.length := by
  unfold C.mrg
  generalize hn : a.length + b.length = n
  have : ∀ n was p q a b, a.length + b.length ≤ n → (C.mrgF f n was p q a b).length ≤ n := by
    intro n
    induction n with
    | zero => intro was p q a b _; simp [C.mrgF]
    | succ n ih =>
      intro was p q a b h
      have he : ∀ was is x (r : List Int), r.length ≤ n → (C.emit was is x r).length ≤ n + 1 := by
        intro was is x r hr
        unfold C.emit
        split
        · omega
        · rw [List.length_cons]; omega
      cases a with
      | nil => cases b with
        | nil => simp [C.mrgF]
        | cons b bs => exact he _ _ _ _ (ih _ _ _ _ _ (by simp at h ⊢; omega))
      | cons a as' => cases b with
        | nil => exact he _ _ _ _ (ih _ _ _ _ _ (by simp at h ⊢; omega))
        | cons b bs =>
          unfold C.mrgF
          split
          · exact he _ _ _ _ (ih _ _ _ _ _ (by simp at h ⊢; omega))
          · split
            · exact he _ _ _ _ (ih _ _ _ _ _ (by simp at h ⊢; omega))
            · exact he _ _ _ _ (ih _ _ _ _ _ (by simp at h ⊢; omega))
  exact this n _ _ _ a b (by omega)
end Go.Proofs.YthcdecncnppjaaaDoor
