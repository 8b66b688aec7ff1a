/- The law's Is in plain Lean: what its walk asks, out of a set and a test that changes at marks alone. -/
import Derived.Test.YtgfkcbckddpbaaaCpIsPlain3
namespace Go.Proofs.Ytgfkcbckddpbaaa
set_option linter.unusedSimpArgs false
set_option linter.unusedVariables false

theorem C.beside {M : List Int} (hs : C.srt M) {k : Nat} {a b : Int} (ha : M[k]? = some a) (hb : M[k + 1]? = some b) : a < b ∧ ∀ z ∈ M, z ≤ a ∨ b ≤ z := by
  obtain ⟨h1, rfl⟩ := List.getElem?_eq_some_iff.1 ha
  obtain ⟨h2, rfl⟩ := List.getElem?_eq_some_iff.1 hb
  have key := List.pairwise_iff_getElem.1 hs
  refine ⟨key k (k + 1) h1 h2 (by omega), fun z hz => ?_⟩
  obtain ⟨j, hj, rfl⟩ := List.getElem_of_mem hz
  rcases Nat.lt_trichotomy j k with h | h | h
  · left; have := key j k hj h1 h; omega
  · subst h; left; exact Int.le_refl _
  · right
    rcases Nat.lt_or_ge (k + 1) j with h' | h'
    · have := key (k + 1) j h2 hj h'; omega
    · obtain rfl : j = k + 1 := by omega
      exact Int.le_refl _
theorem C.upS {p : Int → Bool} {M : List Int} (hs : C.srt M) (hb : C.blind M p) (acc : List Int) (a b : Int) (k : Nat) (ha : M[k]? = some a) (hb' : M[k + 1]? = some b) (h : C.upto p acc a) : C.upto p (C.step p acc a b) b := by
  obtain ⟨h1, h2⟩ := C.beside hs ha hb'
  refine C.upto_step h h1 fun c c1 c2 => hb a c c1 fun z hz => ?_
  rcases h2 z hz with h | h
  · exact .inl h
  · exact .inr (by omega)
theorem C.low_false {p : Int → Bool} {M : List Int} (hs : C.srt M) (hall : ∀ z ∈ C.all, z ∈ M) (hC : ∀ c, p c = true → C.isC c = true) (c : Int) (hc : c < M.getD 0 0) : p c = false := by
  have h0 := C.head_le hs (hall 0 (by simp [C.all]))
  cases h : p c
  · rfl
  · have := hC c h
    simp [C.isC] at this
    omega
theorem C.up0 {p : Int → Bool} {M : List Int} (hs : C.srt M) (hall : ∀ z ∈ C.all, z ∈ M) (hC : ∀ c, p c = true → C.isC c = true) : C.upto p [] (M.getD 0 0) := by
  refine ⟨List.Pairwise.nil, rfl, by simp, fun c => ?_⟩
  by_cases hc : c < M.getD 0 0
  · rw [C.low_false hs hall hC c hc]; rfl
  · rw [decide_eq_false hc, Bool.and_false]; rfl
theorem C.step_mem {p : Int → Bool} {acc : List Int} {a b x : Int} (h : x ∈ C.step p acc a b) : x ∈ acc ∨ x = a ∨ x = b := by
  unfold C.step at h
  split at h
  · split at h
    · rcases List.mem_append.1 h with h | h
      · exact .inl (List.dropLast_subset _ h)
      · simp at h; exact .inr (.inr h)
    · rcases List.mem_append.1 h with h | h
      · exact .inl h
      · simp at h
        rcases h with h | h
        · exact .inr (.inl h)
        · exact .inr (.inr h)
  · exact .inl h
theorem C.want_mem {p : Int → Bool} {M : List Int} : ∀ (k : Nat), k < M.length → ∀ x ∈ C.wantK p M k, x ∈ M
  | 0, _, x, h => by simp [C.wantK] at h
  | k + 1, hk, x, h => by
    have g1 : M.getD k 0 ∈ M := by simp only [List.getD, List.getElem?_eq_getElem (show k < M.length by omega), Option.getD_some]; exact List.getElem_mem _
    have g2 : M.getD (k + 1) 0 ∈ M := by simp only [List.getD, List.getElem?_eq_getElem hk, Option.getD_some]; exact List.getElem_mem _
    rcases C.step_mem h with h | rfl | rfl
    · exact C.want_mem k (by omega) x h
    · exact g1
    · exact g2
theorem C.mem_no {p : Int → Bool} {S : List Int} (hC : ∀ c, p c = true → C.isC c = true) (hm : ∀ c, C.mem S c = p c) (c : Int) (h : C.isC c = false) : C.mem S c = false := by
  rw [hm c]
  cases hp : p c
  · rfl
  · have := hC c hp; rw [h] at this; cases this
/-- The marks of ranges that are good lie in the numbers of characters. -/
theorem C.marks_bd {rs : List (Int × Int)} (h : C.good rs = true) : ∀ z ∈ C.marks rs, 0 ≤ z ∧ z ≤ 1114112 := by
  intro z hz
  obtain ⟨_, h2⟩ := C.insF_spec (C.asked rs)
  have hz2 := (h2 z).1 hz
  unfold C.asked at hz2
  rcases List.mem_append.1 hz2 with h3 | h3
  · simp [C.all] at h3; omega
  · have key : ∀ rs : List (Int × Int), C.good rs = true → ∀ z ∈ C.ends rs, 0 ≤ z ∧ z ≤ 1114112 := by
      intro rs
      induction rs with
      | nil => intro _ z hz; simp [C.ends] at hz
      | cons r t ih =>
        intro hg z hz
        obtain ⟨x, y⟩ := r
        have hg2 : (0 ≤ x ∧ y ≤ 1114111 ∧ x ≤ y) ∧ C.good t = true := by
          simp [C.good] at hg ⊢
          refine ⟨by omega, fun a b hab => hg.2 a b hab⟩
        have hz3 : z = x ∨ z = y + 1 ∨ z ∈ C.ends t := by simpa [C.ends] using hz
        rcases hz3 with rfl | rfl | hz3
        · omega
        · omega
        · exact ih hg2.2 z hz3
    exact key rs h z h3
end Go.Proofs.Ytgfkcbckddpbaaa
