/- The layer cpset: a set of characters that rise, in plain Lean. -/
import Derived.Test.YtgfkcbckddpbaaaCpIsPlain4
namespace Go.Proofs.Ytgfkcbckddpbaaa
set_option linter.unusedSimpArgs false
set_option linter.unusedVariables false

theorem C.upto_mono {p : Int → Bool} {acc : List Int} {a c : Int} (h : C.upto p acc a) (hac : a ≤ c) (hp : ∀ d, a ≤ d → d < c → p d = false) : C.upto p acc c := by
  obtain ⟨h1, h2, h3, h4⟩ := h
  refine ⟨h1, h2, fun x hx => by have := h3 x hx; omega, fun d => ?_⟩
  rw [h4 d]
  by_cases h : d < a
  · rw [decide_eq_true h, decide_eq_true (by omega)]
  · by_cases h' : d < c
    · rw [hp d (by omega) h']; rfl
    · rw [decide_eq_false h, decide_eq_false h']
theorem C.step_isC {p : Int → Bool} {acc : List Int} {c b : Int} (h : p c = C.isC c) : C.step p acc c b = C.step C.isC acc c b := by
  unfold C.step; rw [h]
theorem C.step_bd {acc : List Int} {c : Int} (h : ∀ x ∈ acc, 0 ≤ x ∧ x ≤ 1114112) : ∀ x ∈ C.step C.isC acc c (c + 1), 0 ≤ x ∧ x ≤ 1114112 := by
  intro x hx
  cases hc : C.isC c
  · rw [C.step_no hc] at hx; exact h x hx
  · have hb : 0 ≤ c ∧ c ≤ 1114111 := by simp [C.isC] at hc; omega
    rcases C.step_mem hx with hx | rfl | rfl
    · exact h x hx
    · omega
    · omega
/-- Of numbers that rise: those that are characters. -/
def C.chF (cs acc : List Int) : List Int := cs.foldl (fun o c => C.step C.isC o c (c + 1)) acc
theorem C.ch_go {p : Int → Bool} : ∀ (cs acc : List Int) (a : Int), C.srt cs → (∀ c ∈ cs, a ≤ c) → (∀ d, a ≤ d → p d = (decide (d ∈ cs) && C.isC d)) → (∀ x ∈ acc, 0 ≤ x ∧ x ≤ 1114112) → C.upto p acc a →
    (∀ x ∈ C.chF cs acc, 0 ≤ x ∧ x ≤ 1114112) ∧ ∃ b, C.upto p (C.chF cs acc) b ∧ ∀ d, b ≤ d → p d = false
  | [], acc, a, _, _, hp, hb, h => ⟨hb, a, h, fun d hd => by rw [hp d hd]; simp⟩
  | c :: t, acc, a, hs, hc, hp, hb, h => by
    have hac := hc c (by simp)
    have hct : ∀ z ∈ t, c < z := C.srt_head hs
    have h1 := C.upto_mono h hac (fun d d1 d2 => by
      rw [hp d d1]
      have : d ∉ c :: t := by
        intro hm
        rcases List.mem_cons.1 hm with rfl | hm
        · omega
        · have := hct d hm; omega
      rw [decide_eq_false this]; rfl)
    have hpc : p c = C.isC c := by rw [hp c hac, decide_eq_true (by simp)]; rfl
    have h2 := C.upto_step h1 (show c < c + 1 by omega) (fun d d1 d2 => by rw [show d = c by omega])
    rw [C.step_isC hpc] at h2
    show (∀ x ∈ C.chF t (C.step C.isC acc c (c + 1)), 0 ≤ x ∧ x ≤ 1114112) ∧ ∃ b, C.upto p (C.chF t (C.step C.isC acc c (c + 1))) b ∧ ∀ d, b ≤ d → p d = false
    refine C.ch_go t _ (c + 1) (C.srt_tail hs) (fun z hz => by have := hct z hz; omega) (fun d hd => ?_) (C.step_bd hb) h2
    rw [hp d (by omega)]
    congr 1
    rw [decide_eq_decide]
    constructor
    · intro hm
      rcases List.mem_cons.1 hm with rfl | hm
      · omega
      · exact hm
    · intro hm; simp [hm]
/-- The set of numbers that rise has just the characters of them. -/
theorem C.ch_spec (cs : List Int) (hs : C.srt cs) : C.ok (C.chF cs []) ∧ ∀ d, C.mem (C.chF cs []) d = (decide (d ∈ cs) && C.isC d) := by
  obtain ⟨a, ha⟩ : ∃ a : Int, ∀ c ∈ cs, a ≤ c := by
    cases cs with
    | nil => exact ⟨0, by simp⟩
    | cons c t => exact ⟨c, fun z hz => by
        rcases List.mem_cons.1 hz with rfl | hz
        · exact Int.le_refl _
        · have := C.srt_head hs z hz; omega⟩
  have h0 : C.upto (fun d => decide (d ∈ cs) && C.isC d) [] a := by
    refine ⟨List.Pairwise.nil, rfl, by simp, fun d => ?_⟩
    by_cases hd : d < a
    · have : d ∉ cs := fun hm => by have := ha d hm; omega
      show false = ((decide (d ∈ cs) && C.isC d) && decide (d < a))
      rw [decide_eq_false this]; rfl
    · show false = ((decide (d ∈ cs) && C.isC d) && decide (d < a))
      rw [decide_eq_false hd, Bool.and_false]
  obtain ⟨hb, b, ⟨u1, u2, u3, u4⟩, hz⟩ := C.ch_go cs [] a hs ha (fun d _ => rfl) (by simp) h0
  refine ⟨⟨u1, hb, u2⟩, fun d => ?_⟩
  rw [u4 d]
  by_cases hd : d < b
  · rw [decide_eq_true hd, Bool.and_true]
  · have := hz d (by omega)
    rw [this]
    show ((decide (d ∈ cs) && C.isC d) && decide (d < b)) = false
    rw [this]; rfl
end Go.Proofs.Ytgfkcbckddpbaaa
