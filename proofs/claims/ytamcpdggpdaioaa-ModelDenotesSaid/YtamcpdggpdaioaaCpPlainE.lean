/- The layer cpset in plain Lean: what a set of ranges has. -/
import Derived.Test.YtamcpdggpdaioaaCpArgs
namespace Go.Proofs.Ytamcpdggpdaioaa
set_option linter.unusedSimpArgs false
set_option linter.unusedVariables false
set_option linter.unusedSectionVars false

theorem C.ofS_ok' {rs : List (Int × Int)} (h : C.good rs = true) : C.ok (C.ofS rs) := C.mrg_ok C.andF rfl (C.ofL_ok rs h).1 C.all_ok
def C.inR (rs : List (Int × Int)) (c : Int) : Bool := rs.any fun r => decide (r.1 ≤ c ∧ c ≤ r.2)
theorem C.ofL_mem (rs : List (Int × Int)) (h : C.good rs = true) (c : Int) : C.mem (C.ofL rs) c = C.inR rs c := by
  have : ∀ (rs : List (Int × Int)) (acc : List Int), C.good rs = true → C.ok acc → C.mem (rs.foldl (fun acc r => C.mrg C.orF acc [r.1, r.2 + 1]) acc) c = (C.mem acc c || C.inR rs c) := by
    intro rs
    induction rs with
    | nil => intro acc _ _; simp [C.inR]
    | cons r t ih =>
      intro acc hg ha
      simp only [C.good, List.all_cons, Bool.and_eq_true, decide_eq_true_eq] at hg
      obtain ⟨⟨⟨h1, h2⟩, h3⟩, h4⟩ := hg
      have h1o := C.one_ok r.1 r.2 h1 h3 h2
      have hm := C.mrg_ok C.orF rfl ha h1o
      rw [List.foldl_cons, ih _ h4 hm, C.mrg_mem C.orF rfl ha.1 h1o.1, C.one_mem r.1 r.2 c h3]
      show ((C.mem acc c || decide (r.1 ≤ c ∧ c ≤ r.2)) || C.inR t c) = (C.mem acc c || (decide (r.1 ≤ c ∧ c ≤ r.2) || C.inR t c))
      rw [Bool.or_assoc]
  have h2 := this rs [] h C.nil_ok
  rw [show C.mem [] c = false from rfl, Bool.false_or] at h2
  exact h2
theorem C.ofS_mem (rs : List (Int × Int)) (h : C.good rs = true) (c : Int) : C.mem (C.ofS rs) c = (C.inR rs c && C.isC c) := by
  obtain ⟨h1, _⟩ := C.ofL_ok rs h
  unfold C.ofS
  rw [C.mrg_mem C.andF rfl h1.1 C.all_ok.1, C.ofL_mem rs h, C.all_mem]
  rfl
theorem C.rngs_mem : ∀ (l : List Int), C.ok l → ∀ c, C.inR (C.rngs l) c = C.mem l c
  | [], _, c => rfl
  | [x], h, c => by have := h.2.2; simp at this
  | x :: y :: t, h, c => by
    have ih := C.rngs_mem t (C.ok_tail h) c
    have hxy := C.srt_head h.1 y (by simp)
    show (decide (x ≤ c ∧ c ≤ y - 1) || C.inR (C.rngs t) c) = _
    rw [ih, C.mem_cons, C.mem_cons]
    by_cases h1 : x ≤ c
    · by_cases h2 : y ≤ c
      · rw [decide_eq_false (by omega), decide_eq_true h1, decide_eq_true h2]; simp
      · have hm : C.mem t c = false := C.mem_low' (C.srt_tail h.1) (by omega)
        rw [decide_eq_true (show x ≤ c ∧ c ≤ y - 1 by omega), decide_eq_true h1, decide_eq_false h2, hm]; rfl
    · have hm : C.mem t c = false := C.mem_low' (C.srt_tail h.1) (by omega)
      rw [decide_eq_false (by omega), decide_eq_false h1, hm]; rfl
theorem C.rngs_good : ∀ (l : List Int), C.ok l → C.good (C.rngs l) = true := by
  intro l h
  unfold C.good
  rw [List.all_eq_true]
  intro r hr
  obtain ⟨i, hi⟩ := List.getElem?_of_mem hr
  obtain ⟨h1, h2, h3, h4⟩ := C.rng_bd h hi
  simp [h1, h2, h3]
theorem C.inR_reverse (rs : List (Int × Int)) (c : Int) : C.inR rs.reverse c = C.inR rs c := by
  unfold C.inR
  rw [List.any_reverse]
theorem C.good_reverse (rs : List (Int × Int)) : C.good rs.reverse = C.good rs := by
  unfold C.good
  rw [List.all_reverse]
theorem C.ofS_isC {rs : List (Int × Int)} (h : C.good rs = true) {c : Int} (hm : C.mem (C.ofS rs) c = true) : C.isC c = true := by
  rw [C.ofS_mem rs h, Bool.and_eq_true] at hm
  exact hm.2
/-- A set is made again of its ranges, in the other order. -/
theorem C.again {rs : List (Int × Int)} (h : C.good rs = true) : C.ofS (C.rngs (C.ofS rs)).reverse = C.ofS rs := by
  have hok := (C.ofS_ok' h)
  have hg : C.good (C.rngs (C.ofS rs)).reverse = true := by rw [C.good_reverse]; exact C.rngs_good _ hok
  refine C.canon _ _ (C.ofS_ok' hg).1 hok.1 fun c => ?_
  rw [C.ofS_mem _ hg, C.inR_reverse, C.rngs_mem _ hok]
  rcases hm : C.mem (C.ofS rs) c with _ | _
  · rfl
  · rw [C.ofS_isC h hm]; rfl

theorem C.cnt_cut (p q : Int → Bool) (N : Nat) (h : ∀ c : Int, p c = (q c && decide (c < N))) (n : Nat) : C.cnt p n = C.cnt q (min n N) := by
  induction n with
  | zero => rw [Nat.zero_min]; rfl
  | succ n ih =>
    rw [C.cnt_succ, h, ih]
    by_cases hn : n < N
    · rw [decide_eq_true (by omega), Nat.min_eq_left (by omega), Nat.min_eq_left (by omega), C.cnt_succ]
      simp
    · rw [decide_eq_false (by omega), Nat.min_eq_right (by omega), Nat.min_eq_right (by omega)]
      simp

section
variable {S : List Int} (hS : C.ok S) (hC : ∀ c, C.mem S c = true → C.isC c = true) {d : Int} (h0 : 0 ≤ d) (h1 : d ≤ 1114111)
include hS hC h0 h1
theorem C.low_good : C.good [(0, d)] = true := by simp [C.good, h0, h1]
theorem C.low_mem (c : Int) : C.mem (C.ofS [(0, d)]) c = (decide (0 ≤ c ∧ c ≤ d) && C.isC c) := by
  rw [C.ofS_mem _ (C.low_good hS hC h0 h1)]
  simp [C.inR]
theorem C.split_low (c : Int) : C.mem (C.mrg C.andF S (C.ofS [(0, d)])) c = (C.mem S c && decide (c < d + 1)) := by
  have hL := C.ofS_ok' (C.low_good hS hC h0 h1)
  rw [C.mrg_mem C.andF rfl hS.1 hL.1, C.low_mem hS hC h0 h1]
  rcases hm : C.mem S c with _ | _
  · rfl
  · have := hC c hm
    have h2 : 0 ≤ c := by simp [C.isC] at this; omega
    show (true && (decide (0 ≤ c ∧ c ≤ d) && C.isC c)) = (true && decide (c < d + 1))
    rw [this, Bool.and_true, Bool.true_and, Bool.true_and, Bool.eq_iff_iff]
    simp
    omega
theorem C.split_high (c : Int) : C.mem (C.mrg C.lessF S (C.ofS [(0, d)])) c = (C.mem S c && !decide (c < d + 1)) := by
  have hL := C.ofS_ok' (C.low_good hS hC h0 h1)
  rw [C.mrg_mem C.lessF rfl hS.1 hL.1, C.low_mem hS hC h0 h1]
  rcases hm : C.mem S c with _ | _
  · rfl
  · have := hC c hm
    have h2 : 0 ≤ c := by simp [C.isC] at this; omega
    show (true && !(decide (0 ≤ c ∧ c ≤ d) && C.isC c)) = (true && !decide (c < d + 1))
    rw [this, Bool.and_true, Bool.true_and, Bool.true_and, Bool.eq_iff_iff]
    simp
    omega
theorem C.low_ok : C.ok (C.ofS [(0, d)]) := C.ofS_ok' (C.low_good hS hC h0 h1)
theorem C.parts_ok : C.ok (C.mrg C.andF S (C.ofS [(0, d)])) ∧ C.ok (C.mrg C.lessF S (C.ofS [(0, d)])) :=
  ⟨C.mrg_ok _ rfl hS (C.low_ok hS hC h0 h1), C.mrg_ok _ rfl hS (C.low_ok hS hC h0 h1)⟩
theorem C.parts_apart : C.mrg C.andF (C.mrg C.andF S (C.ofS [(0, d)])) (C.mrg C.lessF S (C.ofS [(0, d)])) = [] := by
  obtain ⟨ha, hb⟩ := C.parts_ok hS hC h0 h1
  refine C.canon _ _ (C.mrg_ok _ rfl ha hb).1 C.nil_ok.1 fun c => ?_
  rw [C.mrg_mem C.andF rfl ha.1 hb.1, C.split_low hS hC h0 h1, C.split_high hS hC h0 h1]
  show ((C.mem S c && decide (c < d + 1)) && (C.mem S c && !decide (c < d + 1))) = false
  cases C.mem S c <;> cases decide (c < d + 1) <;> rfl
theorem C.parts_both : C.mrg C.orF (C.mrg C.andF S (C.ofS [(0, d)])) (C.mrg C.lessF S (C.ofS [(0, d)])) = S := by
  obtain ⟨ha, hb⟩ := C.parts_ok hS hC h0 h1
  refine C.canon _ _ (C.mrg_ok _ rfl ha hb).1 hS.1 fun c => ?_
  rw [C.mrg_mem C.orF rfl ha.1 hb.1, C.split_low hS hC h0 h1, C.split_high hS hC h0 h1]
  show ((C.mem S c && decide (c < d + 1)) || (C.mem S c && !decide (c < d + 1))) = C.mem S c
  cases C.mem S c <;> cases decide (c < d + 1) <;> rfl
theorem C.parts_count : C.count (C.mrg C.andF S (C.ofS [(0, d)])) + C.count (C.mrg C.lessF S (C.ofS [(0, d)])) = C.count S := by
  obtain ⟨ha, hb⟩ := C.parts_ok hS hC h0 h1
  rw [C.count_cnt ha, C.count_cnt hb, C.count_cnt hS]
  have := C.cnt_add (n := 1114112) (p := C.mem (C.mrg C.andF S (C.ofS [(0, d)]))) (q := C.mem (C.mrg C.lessF S (C.ofS [(0, d)]))) (r := C.mem S) (fun i _ => by
    rw [C.split_low hS hC h0 h1, C.split_high hS hC h0 h1]
    cases C.mem S (i : Int) <;> cases decide ((i : Int) < d + 1) <;> exact ⟨rfl, rfl⟩)
  omega
theorem C.parts_idx : C.count (C.mrg C.andF S (C.ofS [(0, d)])) = C.idx S (d + 1) := by
  obtain ⟨ha, hb⟩ := C.parts_ok hS hC h0 h1
  obtain ⟨k, hk⟩ := Int.eq_ofNat_of_zero_le (show 0 ≤ d + 1 by omega)
  rw [hk, C.idx_cnt hS, C.count_cnt ha, C.cnt_cut _ (C.mem S) k (fun c => by rw [C.split_low hS hC h0 h1, hk]), Nat.min_eq_right (by omega)]
end
end Go.Proofs.Ytamcpdggpdaioaa
