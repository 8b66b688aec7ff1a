/- The law's Is in plain Lean, its end: the ranges that are made are the set's. -/
import Derived.Test.YtgfkcbckddpbaaaCpIsPlain2
namespace Go.Proofs.Ytgfkcbckddpbaaa
set_option linter.unusedSimpArgs false
set_option linter.unusedVariables false

/-- A test that does not change between marks. -/
def C.blind (M : List Int) (p : Int → Bool) : Prop := ∀ a c, a ≤ c → (∀ z ∈ M, z ≤ a ∨ c < z) → p c = p a
theorem C.blind_le {M : List Int} {z : Int} (hz : z ∈ M) : C.blind M (fun c => decide (z ≤ c)) := by
  intro a c hac h
  rcases h z hz with h | h
  · show decide (z ≤ c) = decide (z ≤ a)
    rw [decide_eq_true h, decide_eq_true (by omega)]
  · show decide (z ≤ c) = decide (z ≤ a)
    rw [decide_eq_false (by omega), decide_eq_false (by omega)]
theorem C.blind_op {M : List Int} {p q : Int → Bool} (f : Bool → Bool → Bool) (hp : C.blind M p) (hq : C.blind M q) : C.blind M (fun c => f (p c) (q c)) := by
  intro a c hac h
  show f (p c) (q c) = f (p a) (q a)
  rw [hp a c hac h, hq a c hac h]
theorem C.blind_isC {M : List Int} (h : ∀ z ∈ C.all, z ∈ M) : C.blind M C.isC := by
  have e : C.isC = fun c => C.mem C.all c := funext fun c => (C.all_mem c).symm
  rw [e]
  have key : ∀ l : List Int, (∀ z ∈ l, z ∈ M) → C.blind M (fun c => C.mem l c) := by
    intro l
    induction l with
    | nil => intro _ a c _ _; rfl
    | cons x t ih =>
      intro hl
      exact C.blind_op (fun a b => a && !b) (C.blind_le (hl x (by simp))) (ih (fun z hz => hl z (by simp [hz])))
  exact key _ h
theorem C.blind_inR {M : List Int} : ∀ (rs : List (Int × Int)), (∀ z ∈ C.ends rs, z ∈ M) → C.blind M (C.inR rs)
  | [], _ => fun a c _ _ => rfl
  | (x, y) :: t, h => by
    have h1 := C.blind_le (h x (by simp [C.ends]))
    have h2 := C.blind_le (h (y + 1) (by simp [C.ends]))
    have h3 := C.blind_inR t (fun z hz => h z (by simp [C.ends, hz]))
    have h4 := C.blind_op (fun u v => u || v) (C.blind_op (fun u v => u && !v) h1 h2) h3
    intro a c hac hz
    have := h4 a c hac hz
    have e : ∀ d, C.inR ((x, y) :: t) d = ((decide (x ≤ d) && !decide (y + 1 ≤ d)) || C.inR t d) := by
      intro d
      show (decide (x ≤ d ∧ d ≤ y) || C.inR t d) = _
      congr 1
      rw [Bool.eq_iff_iff]
      simp
      omega
    rw [e, e]
    exact this

theorem C.marks_spec (rs : List (Int × Int)) : C.srt (C.marks rs) ∧ (∀ z ∈ C.all, z ∈ C.marks rs) ∧ ∀ z ∈ C.ends rs, z ∈ C.marks rs := by
  obtain ⟨h1, h2⟩ := C.insF_spec (C.asked rs)
  refine ⟨h1, fun z hz => (h2 z).2 ?_, fun z hz => (h2 z).2 ?_⟩
  · unfold C.asked; simp [hz]
  · unfold C.asked; simp [hz]
theorem C.marks_len (rs : List (Int × Int)) : (C.marks rs).length ≤ 2 * rs.length + 4 := by
  have h := C.insF_len (C.asked rs)
  have : (C.asked rs).length = 4 + 2 * rs.length := by unfold C.asked; rw [List.length_append, C.ends_len]; rfl
  unfold C.marks
  omega
theorem C.head_le {M : List Int} (hs : C.srt M) {z : Int} (hz : z ∈ M) : M.getD 0 0 ≤ z := by
  cases M with
  | nil => cases hz
  | cons x t =>
    show x ≤ z
    rcases List.mem_cons.1 hz with rfl | hz
    · exact Int.le_refl _
    · have := C.srt_head hs z hz; omega
theorem C.last_ge {M : List Int} (hs : C.srt M) {z : Int} (hz : z ∈ M) : z ≤ M.getD (M.length - 1) 0 := by
  obtain ⟨j, hj, rfl⟩ := List.getElem_of_mem hz
  have e : M.getD (M.length - 1) 0 = M[M.length - 1]'(by omega) := by simp [List.getD, show M.length - 1 < M.length by omega]
  rw [e]
  rcases Nat.lt_or_ge j (M.length - 1) with h | h
  · have := List.pairwise_iff_getElem.1 hs j (M.length - 1) hj (by omega) h
    omega
  · have : j = M.length - 1 := by omega
    subst this
    exact Int.le_refl _

/-- The ranges that are made, mark by mark, are the set's. -/
theorem C.want_is {p : Int → Bool} {M S : List Int} (hs : C.srt M) (hall : ∀ z ∈ C.all, z ∈ M) (hb : C.blind M p) (hC : ∀ c, p c = true → C.isC c = true) (hS : C.srt S) (hm : ∀ c, C.mem S c = p c) :
    C.wantK p M (M.length - 1) = S := by
  have z0 := hall 0 (by simp [C.all])
  have z1 := hall 1114112 (by simp [C.all])
  have hne : M ≠ [] := by rintro rfl; cases z0
  have hlen : 0 < M.length := List.length_pos_iff.2 hne
  have hf := C.head_le hs z0
  have hl := C.last_ge hs z1
  obtain ⟨u1, u2, u3, u4⟩ := C.wantK_upto hs (fun c hc => by
    cases h : p c
    · rfl
    · have := hC c h
      simp [C.isC] at this
      omega) hne (fun a c ha hac hz => hb a c hac hz) (M.length - 1) (by omega)
  refine C.canon _ _ u1 hS fun c => ?_
  rw [u4 c, hm c]
  cases h : p c
  · rfl
  · have := hC c h
    simp [C.isC] at this
    rw [decide_eq_true (by omega)]; rfl
end Go.Proofs.Ytgfkcbckddpbaaa
