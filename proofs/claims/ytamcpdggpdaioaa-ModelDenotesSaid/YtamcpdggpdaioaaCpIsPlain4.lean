/- The law's Is in plain Lean, more: the ranges that are made, mark by mark; what does not change between marks. -/
import Derived.Test.YtamcpdggpdaioaaCpIsPlain
namespace Go.Proofs.Ytamcpdggpdaioaa
set_option linter.unusedSimpArgs false
set_option linter.unusedVariables false

theorem C.rngs_snoc2 : ∀ (l : List Int) (a b : Int), l.length % 2 = 0 → C.rngs (l ++ [a, b]) = C.rngs l ++ [(a, b - 1)]
  | [], a, b, _ => rfl
  | [x], a, b, h => by simp at h
  | x :: y :: t, a, b, h => by
    show (x, y - 1) :: C.rngs (t ++ [a, b]) = (x, y - 1) :: C.rngs t ++ [(a, b - 1)]
    rw [C.rngs_snoc2 t a b (by simp at h; omega)]; rfl
theorem C.count_snoc2 : ∀ (l : List Int) (a b : Int), l.length % 2 = 0 → C.count (l ++ [a, b]) = C.count l + (b - a)
  | [], a, b, _ => by show b - a + C.count [] = C.count [] + (b - a); omega
  | [x], a, b, h => by simp at h
  | x :: y :: t, a, b, h => by
    show y - x + C.count (t ++ [a, b]) = y - x + C.count t + (b - a)
    rw [C.count_snoc2 t a b (by simp at h; omega)]; omega
/-- An even row that is not empty ends in a pair. -/
theorem C.even_end {l : List Int} (h : l.length % 2 = 0) (hne : l ≠ []) : ∃ l2 s e, l = l2 ++ [s, e] ∧ l2.length % 2 = 0 := by
  rcases List.eq_nil_or_concat l with rfl | ⟨l1, e, rfl⟩
  · exact absurd rfl hne
  · rcases List.eq_nil_or_concat l1 with rfl | ⟨l2, s, rfl⟩
    · simp at h
    · exact ⟨l2, s, e, by simp, by simp at h; omega⟩
/-- A step's ranges: the last one is made longer, or one is put behind; or nothing. -/
theorem C.step_end {p : Int → Bool} {l2 : List Int} {s a b : Int} (hp : p a = true) : C.step p (l2 ++ [s, a]) a b = l2 ++ [s, b] := by
  unfold C.step
  rw [if_pos hp, if_pos (by simp)]
  have : l2 ++ [s, a] = (l2 ++ [s]) ++ [a] := by simp
  rw [this, List.dropLast_concat]
  simp
theorem C.step_new {p : Int → Bool} {acc : List Int} {a b : Int} (hp : p a = true) (h : acc.getLast? ≠ some a) : C.step p acc a b = acc ++ [a, b] := by
  unfold C.step
  rw [if_pos hp, if_neg h]
theorem C.step_no {p : Int → Bool} {acc : List Int} {a b : Int} (hp : p a = false) : C.step p acc a b = acc := by
  unfold C.step
  rw [if_neg (by simp [hp])]
theorem C.step_count {p : Int → Bool} {acc : List Int} {a b : Int} (h : acc.length % 2 = 0) : C.count (C.step p acc a b) = C.count acc + (if p a = true then b - a else 0) := by
  rcases hp : p a with _ | _
  · rw [C.step_no hp]; simp
  · by_cases hl : acc.getLast? = some a
    · obtain ⟨l2, s, e, rfl, h2⟩ := C.even_end h (by rintro rfl; simp at hl)
      have he : e = a := by simpa using hl
      subst he
      rw [C.step_end hp, C.count_snoc2 _ _ _ h2, C.count_snoc2 _ _ _ h2]
      simp
      omega
    · rw [C.step_new hp hl, C.count_snoc2 _ _ _ h]; simp

/-- Mark by mark. -/
def C.wantK (p : Int → Bool) (M : List Int) : Nat → List Int
  | 0 => []
  | k + 1 => C.step p (C.wantK p M k) (M.getD k 0) (M.getD (k + 1) 0)
theorem C.wantK_upto {p : Int → Bool} {M : List Int} (hs : C.srt M) (h0 : ∀ c, c < M.getD 0 0 → p c = false) (hne : M ≠ [])
    (hp : ∀ a c, a ∈ M → a ≤ c → (∀ z ∈ M, z ≤ a ∨ c < z) → p c = p a) : ∀ k, k < M.length → C.upto p (C.wantK p M k) (M.getD k 0)
  | 0, _ => by
    refine ⟨List.Pairwise.nil, rfl, by simp [C.wantK], fun c => ?_⟩
    by_cases hc : c < M.getD 0 0
    · rw [h0 c hc]; rfl
    · rw [decide_eq_false hc, Bool.and_false]; rfl
  | k + 1, hk => by
    have ih := C.wantK_upto hs h0 hne hp k (by omega)
    have ek : M.getD k 0 = M[k]'(by omega) := by simp [List.getD, show k < M.length by omega]
    have ek1 : M.getD (k + 1) 0 = M[k + 1]'hk := by simp [List.getD, hk]
    have hlt : M[k]'(by omega) < M[k + 1]'hk := List.pairwise_iff_getElem.1 hs k (k + 1) (by omega) hk (by omega)
    refine C.upto_step ih (by rw [ek, ek1]; exact hlt) ?_
    intro c h1 h2
    rw [ek] at h1 ⊢
    rw [ek1] at h2
    refine hp _ c (List.getElem_mem _) h1 fun z hz => ?_
    obtain ⟨j, hj, rfl⟩ := List.getElem_of_mem hz
    rcases Nat.lt_or_ge k j with h' | h'
    · right
      rcases Nat.lt_or_ge (k + 1) j with h'' | h''
      · have := List.pairwise_iff_getElem.1 hs (k + 1) j hk hj h''
        omega
      · obtain rfl : j = k + 1 := by omega
        exact h2
    · left
      rcases Nat.lt_or_ge j k with h'' | h''
      · have := List.pairwise_iff_getElem.1 hs j k hj (by omega) h''
        omega
      · obtain rfl : j = k := by omega
        exact Int.le_refl _
end Go.Proofs.Ytamcpdggpdaioaa

/- The law's Is in plain Lean, its end: the ranges that are made are the set's. -/
namespace Go.Proofs.Ytamcpdggpdaioaa
set_option linter.unusedSimpArgs false
set_option linter.unusedVariables false

/-- A test that does not change between marks. -/
def C.blind (M : List Int) (p : Int → Bool) : Prop := ∀ a c, a ≤ c → (∀ z ∈ M, z ≤ a ∨ c < z) → p c = p a
theorem C.blind_le {M : List Int} {z : Int} (hz : z ∈ M) : C.blind M (fun c => decide (z ≤ c)) := by
  intro a c hac h
  rcases h z hz with h | h
  · show decide (z ≤ c) = decide (z ≤ a)
    rw [decide_eq_true h, decide_eq_true (by omega)]
  · show decide (z ≤ c) = decide (z ≤ a)
    rw [decide_eq_false (by omega), decide_eq_false (by omega)]
theorem C.blind_op {M : List Int} {p q : Int → Bool} (f : Bool → Bool → Bool) (hp : C.blind M p) (hq : C.blind M q) : C.blind M (fun c => f (p c) (q c)) := by
  intro a c hac h
  show f (p c) (q c) = f (p a) (q a)
  rw [hp a c hac h, hq a c hac h]
theorem C.blind_isC {M : List Int} (h : ∀ z ∈ C.all, z ∈ M) : C.blind M C.isC := by
  have e : C.isC = fun c => C.mem C.all c := funext fun c => (C.all_mem c).symm
  rw [e]
  have key : ∀ l : List Int, (∀ z ∈ l, z ∈ M) → C.blind M (fun c => C.mem l c) := by
    intro l
    induction l with
    | nil => intro _ a c _ _; rfl
    | cons x t ih =>
      intro hl
      exact C.blind_op (fun a b => a && !b) (C.blind_le (hl x (by simp))) (ih (fun z hz => hl z (by simp [hz])))
  exact key _ h
theorem C.blind_inR {M : List Int} : ∀ (rs : List (Int × Int)), (∀ z ∈ C.ends rs, z ∈ M) → C.blind M (C.inR rs)
  | [], _ => fun a c _ _ => rfl
  | (x, y) :: t, h => by
    have h1 := C.blind_le (h x (by simp [C.ends]))
    have h2 := C.blind_le (h (y + 1) (by simp [C.ends]))
    have h3 := C.blind_inR t (fun z hz => h z (by simp [C.ends, hz]))
    have h4 := C.blind_op (fun u v => u || v) (C.blind_op (fun u v => u && !v) h1 h2) h3
    intro a c hac hz
    have := h4 a c hac hz
    have e : ∀ d, C.inR ((x, y) :: t) d = ((decide (x ≤ d) && !decide (y + 1 ≤ d)) || C.inR t d) := by
      intro d
      show (decide (x ≤ d ∧ d ≤ y) || C.inR t d) = _
      congr 1
      rw [Bool.eq_iff_iff]
      simp
      omega
    rw [e, e]
    exact this

theorem C.marks_spec (rs : List (Int × Int)) : C.srt (C.marks rs) ∧ (∀ z ∈ C.all, z ∈ C.marks rs) ∧ ∀ z ∈ C.ends rs, z ∈ C.marks rs := by
  obtain ⟨h1, h2⟩ := C.insF_spec (C.asked rs)
  refine ⟨h1, fun z hz => (h2 z).2 ?_, fun z hz => (h2 z).2 ?_⟩
  · unfold C.asked; simp [hz]
  · unfold C.asked; simp [hz]
theorem C.marks_len (rs : List (Int × Int)) : (C.marks rs).length ≤ 2 * rs.length + 4 := by
  have h := C.insF_len (C.asked rs)
  have : (C.asked rs).length = 4 + 2 * rs.length := by unfold C.asked; rw [List.length_append, C.ends_len]; rfl
  unfold C.marks
  omega
theorem C.head_le {M : List Int} (hs : C.srt M) {z : Int} (hz : z ∈ M) : M.getD 0 0 ≤ z := by
  cases M with
  | nil => cases hz
  | cons x t =>
    show x ≤ z
    rcases List.mem_cons.1 hz with rfl | hz
    · exact Int.le_refl _
    · have := C.srt_head hs z hz; omega
theorem C.last_ge {M : List Int} (hs : C.srt M) {z : Int} (hz : z ∈ M) : z ≤ M.getD (M.length - 1) 0 := by
  obtain ⟨j, hj, rfl⟩ := List.getElem_of_mem hz
  have e : M.getD (M.length - 1) 0 = M[M.length - 1]'(by omega) := by simp [List.getD, show M.length - 1 < M.length by omega]
  rw [e]
  rcases Nat.lt_or_ge j (M.length - 1) with h | h
  · have := List.pairwise_iff_getElem.1 hs j (M.length - 1) hj (by omega) h
    omega
  · have : j = M.length - 1 := by omega
    subst this
    exact Int.le_refl _

/-- The ranges that are made, mark by mark, are the set's. -/
theorem C.want_is {p : Int → Bool} {M S : List Int} (hs : C.srt M) (hall : ∀ z ∈ C.all, z ∈ M) (hb : C.blind M p) (hC : ∀ c, p c = true → C.isC c = true) (hS : C.srt S) (hm : ∀ c, C.mem S c = p c) :
    C.wantK p M (M.length - 1) = S := by
  have z0 := hall 0 (by simp [C.all])
  have z1 := hall 1114112 (by simp [C.all])
  have hne : M ≠ [] := by rintro rfl; cases z0
  have hlen : 0 < M.length := List.length_pos_iff.2 hne
  have hf := C.head_le hs z0
  have hl := C.last_ge hs z1
  obtain ⟨u1, u2, u3, u4⟩ := C.wantK_upto hs (fun c hc => by
    cases h : p c
    · rfl
    · have := hC c h
      simp [C.isC] at this
      omega) hne (fun a c ha hac hz => hb a c hac hz) (M.length - 1) (by omega)
  refine C.canon _ _ u1 hS fun c => ?_
  rw [u4 c, hm c]
  cases h : p c
  · rfl
  · have := hC c h
    simp [C.isC] at this
    rw [decide_eq_true (by omega)]; rfl
end Go.Proofs.Ytamcpdggpdaioaa

/- The law's Is in plain Lean: what its walk asks, out of a set and a test that changes at marks alone. -/
namespace Go.Proofs.Ytamcpdggpdaioaa
set_option linter.unusedSimpArgs false
set_option linter.unusedVariables false

theorem C.beside {M : List Int} (hs : C.srt M) {k : Nat} {a b : Int} (ha : M[k]? = some a) (hb : M[k + 1]? = some b) : a < b ∧ ∀ z ∈ M, z ≤ a ∨ b ≤ z := by
  obtain ⟨h1, rfl⟩ := List.getElem?_eq_some_iff.1 ha
  obtain ⟨h2, rfl⟩ := List.getElem?_eq_some_iff.1 hb
  have key := List.pairwise_iff_getElem.1 hs
  refine ⟨key k (k + 1) h1 h2 (by omega), fun z hz => ?_⟩
  obtain ⟨j, hj, rfl⟩ := List.getElem_of_mem hz
  rcases Nat.lt_trichotomy j k with h | h | h
  · left; have := key j k hj h1 h; omega
  · subst h; left; exact Int.le_refl _
  · right
    rcases Nat.lt_or_ge (k + 1) j with h' | h'
    · have := key (k + 1) j h2 hj h'; omega
    · obtain rfl : j = k + 1 := by omega
      exact Int.le_refl _
theorem C.upS {p : Int → Bool} {M : List Int} (hs : C.srt M) (hb : C.blind M p) (acc : List Int) (a b : Int) (k : Nat) (ha : M[k]? = some a) (hb' : M[k + 1]? = some b) (h : C.upto p acc a) : C.upto p (C.step p acc a b) b := by
  obtain ⟨h1, h2⟩ := C.beside hs ha hb'
  refine C.upto_step h h1 fun c c1 c2 => hb a c c1 fun z hz => ?_
  rcases h2 z hz with h | h
  · exact .inl h
  · exact .inr (by omega)
theorem C.low_false {p : Int → Bool} {M : List Int} (hs : C.srt M) (hall : ∀ z ∈ C.all, z ∈ M) (hC : ∀ c, p c = true → C.isC c = true) (c : Int) (hc : c < M.getD 0 0) : p c = false := by
  have h0 := C.head_le hs (hall 0 (by simp [C.all]))
  cases h : p c
  · rfl
  · have := hC c h
    simp [C.isC] at this
    omega
theorem C.up0 {p : Int → Bool} {M : List Int} (hs : C.srt M) (hall : ∀ z ∈ C.all, z ∈ M) (hC : ∀ c, p c = true → C.isC c = true) : C.upto p [] (M.getD 0 0) := by
  refine ⟨List.Pairwise.nil, rfl, by simp, fun c => ?_⟩
  by_cases hc : c < M.getD 0 0
  · rw [C.low_false hs hall hC c hc]; rfl
  · rw [decide_eq_false hc, Bool.and_false]; rfl
theorem C.step_mem {p : Int → Bool} {acc : List Int} {a b x : Int} (h : x ∈ C.step p acc a b) : x ∈ acc ∨ x = a ∨ x = b := by
  unfold C.step at h
  split at h
  · split at h
    · rcases List.mem_append.1 h with h | h
      · exact .inl (List.dropLast_subset _ h)
      · simp at h; exact .inr (.inr h)
    · rcases List.mem_append.1 h with h | h
      · exact .inl h
      · simp at h
        rcases h with h | h
        · exact .inr (.inl h)
        · exact .inr (.inr h)
  · exact .inl h
theorem C.want_mem {p : Int → Bool} {M : List Int} : ∀ (k : Nat), k < M.length → ∀ x ∈ C.wantK p M k, x ∈ M
  | 0, _, x, h => by simp [C.wantK] at h
  | k + 1, hk, x, h => by
    have g1 : M.getD k 0 ∈ M := by simp only [List.getD, List.getElem?_eq_getElem (show k < M.length by omega), Option.getD_some]; exact List.getElem_mem _
    have g2 : M.getD (k + 1) 0 ∈ M := by simp only [List.getD, List.getElem?_eq_getElem hk, Option.getD_some]; exact List.getElem_mem _
    rcases C.step_mem h with h | rfl | rfl
    · exact C.want_mem k (by omega) x h
    · exact g1
    · exact g2
theorem C.mem_no {p : Int → Bool} {S : List Int} (hC : ∀ c, p c = true → C.isC c = true) (hm : ∀ c, C.mem S c = p c) (c : Int) (h : C.isC c = false) : C.mem S c = false := by
  rw [hm c]
  cases hp : p c
  · rfl
  · have := hC c hp; rw [h] at this; cases this
/-- The marks of ranges that are good lie in the numbers of characters. -/
theorem C.marks_bd {rs : List (Int × Int)} (h : C.good rs = true) : ∀ z ∈ C.marks rs, 0 ≤ z ∧ z ≤ 1114112 := by
  intro z hz
  obtain ⟨_, h2⟩ := C.insF_spec (C.asked rs)
  have hz2 := (h2 z).1 hz
  unfold C.asked at hz2
  rcases List.mem_append.1 hz2 with h3 | h3
  · simp [C.all] at h3; omega
  · have key : ∀ rs : List (Int × Int), C.good rs = true → ∀ z ∈ C.ends rs, 0 ≤ z ∧ z ≤ 1114112 := by
      intro rs
      induction rs with
      | nil => intro _ z hz; simp [C.ends] at hz
      | cons r t ih =>
        intro hg z hz
        obtain ⟨x, y⟩ := r
        have hg2 : (0 ≤ x ∧ y ≤ 1114111 ∧ x ≤ y) ∧ C.good t = true := by
          simp [C.good] at hg ⊢
          refine ⟨by omega, fun a b hab => hg.2 a b hab⟩
        have hz3 : z = x ∨ z = y + 1 ∨ z ∈ C.ends t := by simpa [C.ends] using hz
        rcases hz3 with rfl | rfl | hz3
        · omega
        · omega
        · exact ih hg2.2 z hz3
    exact key rs h z h3
end Go.Proofs.Ytamcpdggpdaioaa
