/- The law CpsetAlgebra in plain Lean: what the marks tell of two sets. -/
import Derived.Test.YtfobmgfmepoamaaCpIsPlain4
import Derived.Test.YtfobmgfmepoamaaCpOps
namespace Go.Proofs.Ytfobmgfmepoamaa
set_option linter.unusedSimpArgs false
set_option linter.unusedVariables false

theorem C.greatest (c : Int) : ∀ (M : List Int), (∃ z ∈ M, z ≤ c) → ∃ z ∈ M, z ≤ c ∧ ∀ y ∈ M, y ≤ z ∨ c < y
  | [], h => by obtain ⟨z, hz, _⟩ := h; cases hz
  | x :: t, h => by
    by_cases ht : ∃ z ∈ t, z ≤ c
    · obtain ⟨z, hz, hzc, hall⟩ := C.greatest c t ht
      by_cases hx : z < x ∧ x ≤ c
      · refine ⟨x, by simp, hx.2, fun y hy => ?_⟩
        rcases List.mem_cons.1 hy with rfl | hy
        · left; omega
        · rcases hall y hy with h | h
          · left; omega
          · right; exact h
      · refine ⟨z, by simp [hz], hzc, fun y hy => ?_⟩
        rcases List.mem_cons.1 hy with rfl | hy
        · omega
        · exact hall y hy
    · obtain ⟨z, hz, hzc⟩ := h
      rcases List.mem_cons.1 hz with rfl | hz
      · refine ⟨z, by simp, hzc, fun y hy => ?_⟩
        rcases List.mem_cons.1 hy with rfl | hy
        · left; omega
        · right
          rcases Int.lt_or_le c y with h | h
          · exact h
          · exact absurd ⟨y, hy, h⟩ ht
      · exact absurd ⟨z, hz, hzc⟩ ht
/-- What holds at all marks holds everywhere. -/
theorem C.by_marks {r : Int → Bool} {M : List Int} (h0 : (0 : Int) ∈ M) (hb : C.blind M r) (hneg : ∀ c, c < 0 → r c = true) (h : ∀ z ∈ M, r z = true) (c : Int) : r c = true := by
  rcases Int.lt_or_le c 0 with hc | hc
  · exact hneg c hc
  · obtain ⟨z, hz, hzc, hall⟩ := C.greatest c M ⟨0, h0, hc⟩
    rw [hb z c hzc hall]
    exact h z hz
theorem C.neg_no {p : Int → Bool} (hC : ∀ c, p c = true → C.isC c = true) (c : Int) (hc : c < 0) : p c = false := by
  cases h : p c
  · rfl
  · have := hC c h; simp [C.isC] at this; omega
theorem C.alg_within {p q : Int → Bool} {M S T : List Int} (hall : ∀ z ∈ C.all, z ∈ M) (bp : C.blind M p) (bq : C.blind M q) (pC : ∀ c, p c = true → C.isC c = true) (hS : C.ok S) (hT : C.ok T) (hp : ∀ d, C.mem S d = p d) (hq : ∀ d, C.mem T d = q d) :
    decide (C.mrg C.lessF S T = []) = M.all (fun z => !p z || q z) := by
  rw [Bool.eq_iff_iff, decide_eq_true_iff, List.all_eq_true]
  constructor
  · intro h z _
    have e := C.mrg_mem C.lessF rfl hS.1 hT.1 z
    rw [h, hp, hq] at e
    have e2 : (p z && !q z) = false := e.symm
    cases hpz : p z <;> cases hqz : q z <;> simp_all
  · intro h
    refine C.canon _ _ (C.mrg_ok C.lessF rfl hS hT).1 C.nil_ok.1 fun c => ?_
    rw [C.mrg_mem C.lessF rfl hS.1 hT.1, hp, hq]
    have e := C.by_marks (r := fun c => !p c || q c) (hall 0 (by simp [C.all])) (C.blind_op (fun a b => !a || b) bp bq) (fun c hc => by simp [C.neg_no pC c hc]) h c
    show (p c && !q c) = false
    have e2 : (!p c || q c) = true := e
    cases hpz : p c <;> cases hqz : q c <;> simp_all
theorem C.alg_same {p q : Int → Bool} {M S T : List Int} (hall : ∀ z ∈ C.all, z ∈ M) (bp : C.blind M p) (bq : C.blind M q) (pC : ∀ c, p c = true → C.isC c = true) (qC : ∀ c, q c = true → C.isC c = true) (hS : C.ok S) (hT : C.ok T) (hp : ∀ d, C.mem S d = p d) (hq : ∀ d, C.mem T d = q d) :
    decide (S = T) = M.all (fun z => p z == q z) := by
  rw [Bool.eq_iff_iff, decide_eq_true_iff, List.all_eq_true]
  constructor
  · intro h z _
    subst h
    rw [← hp, ← hq]; simp
  · intro h
    refine C.canon _ _ hS.1 hT.1 fun c => ?_
    rw [hp, hq]
    have e := C.by_marks (r := fun c => p c == q c) (hall 0 (by simp [C.all])) (C.blind_op (fun a b => a == b) bp bq) (fun c hc => by simp [C.neg_no pC c hc, C.neg_no qC c hc]) h c
    simpa using e
theorem C.alg_all {S : List Int} (hS : C.ok S) (hC : ∀ c, C.mem S c = true → C.isC c = true) : C.mrg C.orF S (C.mrg C.lessF C.all S) = C.all := by
  have h2 := C.mrg_ok C.lessF rfl C.all_ok hS
  refine C.canon _ _ (C.mrg_ok C.orF rfl hS h2).1 C.all_ok.1 fun c => ?_
  rw [C.mrg_mem C.orF rfl hS.1 h2.1, C.mrg_mem C.lessF rfl C.all_ok.1 hS.1, C.all_mem]
  show (C.mem S c || (C.isC c && !C.mem S c)) = C.isC c
  have := hC c
  cases h1 : C.mem S c <;> cases h2 : C.isC c <;> simp_all
theorem C.ofS_test {rs : List (Int × Int)} (h : C.good rs = true) : ∀ c, C.mem (C.ofS rs) c = (fun d => C.inR rs d && C.isC d) c := C.ofS_mem rs h
theorem C.test_isC (rs : List (Int × Int)) (c : Int) (h : (fun d => C.inR rs d && C.isC d) c = true) : C.isC c = true := by
  simp at h; exact h.2
theorem C.inAll (c : Int) : (C.inR [(0, 1114111)] c && C.isC c) = C.isC c := by
  cases h : C.isC c
  · simp
  · simp [C.isC] at h
    simp [C.inR]
    omega
theorem C.good_app {a b : List (Int × Int)} (ha : C.good a = true) (hb : C.good b = true) : C.good (a ++ b) = true := by
  unfold C.good at *
  rw [List.all_append, ha, hb]; rfl
theorem C.all_take {M : List Int} {i : Nat} {z : Int} (r : Int → Bool) (h : M[i]? = some z) : (M.take (i + 1)).all r = ((M.take i).all r && r z) := by
  rw [List.take_add_one, h, List.all_append]
  simp
end Go.Proofs.Ytfobmgfmepoamaa
