/- The layer hangul: what each function answers, by walking its text. -/
import Derived.Test.YtamcpdggpdaioaaDoorLib
namespace Go.Proofs.YtamcpdggpdaioaaDoor
open Go.RowKit
set_option linter.unusedSimpArgs false
set_option linter.unusedVariables false

set_option maxHeartbeats 400000 in
theorem Hg.in_any (c a n : Int) (w : World) (h1 : 0 ≤ a) (h2 : 0 ≤ n) (h3 : a + n ≤ 100000) :
    Calls Tryd.prog 53 #[.int .i32 c, .int .i32 a, .int .i32 n] w fun e w' => e = .returned (.bool (decide (a ≤ c ∧ c < a + n))) ∧ w = w' := by
  go_enter Tryd.func53, Tryd.ntmps53
  go_wp2
  all_goals
    go_ret
    exact ⟨ret_bool (by simp; try omega), rfl⟩

def Hg.ofK (c : Int) : Int :=
  if 4352 ≤ c ∧ c < 4371 then 1 else if 4449 ≤ c ∧ c < 4470 then 2 else if 4520 ≤ c ∧ c < 4547 then 3
  else if ¬ (44032 ≤ c ∧ c < 55204) then 0 else if (c - 44032) % 28 = 0 then 4 else 5

set_option maxHeartbeats 400000 in
theorem Hg.of_any (c : Int) (w : World) (h1 : -2147483648 ≤ c) (h2 : c ≤ 2147483647) :
    Calls Tryd.prog 34 #[.int .i32 c] w fun e w' => e = .returned (.int .i64 (Hg.ofK c)) ∧ w = w' := by
  go_enter Tryd.func34, Tryd.ntmps34
  go_wp2
  all_goals
    go_ret
    refine ⟨ret_int ?_, rfl⟩
    try simp only [beq_iff_eq, beq_eq_false_iff_ne, Bool.not_eq_true', Bool.not_eq_false', decide_eq_true_eq, decide_eq_false_iff_not] at *
    unfold Hg.ofK
    grind

def Hg.pairK (c : Int) : Int × Int × Bool :=
  if Hg.ofK c = 4 then (4352 + (c - 44032) / 588, 4449 + (c - 44032) % 588 / 28, true)
  else if Hg.ofK c = 5 then (c - (c - 44032) % 28, 4519 + (c - 44032) % 28, true)
  else (0, 0, false)

theorem Hg.ofK_syl (c : Int) (h : Hg.ofK c = 4 ∨ Hg.ofK c = 5) : 44032 ≤ c ∧ c < 55204 := by
  unfold Hg.ofK at h
  grind

set_option maxHeartbeats 400000 in
theorem Hg.pair_any (c : Int) (w : World) (h1 : -2147483648 ≤ c) (h2 : c ≤ 2147483647) :
    Calls Tryd.prog 28 #[.int .i32 c] w fun e w' => e = .returned (.tuple #[.int .i32 (Hg.pairK c).1, .int .i32 (Hg.pairK c).2.1, .bool (Hg.pairK c).2.2]) ∧ w = w' := by
  by_cases h4 : Hg.ofK c = 4
  · have hs := Hg.ofK_syl c (.inl h4)
    obtain ⟨hs1, hs2⟩ := hs
    have hb := beq_iff_eq.2 h4
    have H4 := Lib.hid h4
    clear h4
    go_enter Tryd.func28, Tryd.ntmps28
    go_wp2_with (go_at_call 34; refine (Hg.of_any _ _ h1 h2).mono ?_; rintro e w' ⟨rfl, rfl⟩)
    go_ret3
    refine ⟨ret_tuple3 ?_, rfl⟩
    unfold Hg.pairK
    rw [if_pos H4.out]
  · by_cases h5 : Hg.ofK c = 5
    · have hs := Hg.ofK_syl c (.inr h5)
      obtain ⟨hs1, hs2⟩ := hs
      have hb : (Hg.ofK c == 4) = false := by rw [h5]; rfl
      have hb5 := beq_iff_eq.2 h5
      have H5 := Lib.hid h5
      have H4 := Lib.hid h4
      clear h4 h5
      go_enter Tryd.func28, Tryd.ntmps28
      go_wp2_with (go_at_call 34; refine (Hg.of_any _ _ h1 h2).mono ?_; rintro e w' ⟨rfl, rfl⟩)
      go_ret3
      refine ⟨ret_tuple3 ?_, rfl⟩
      unfold Hg.pairK
      rw [if_neg H4.out, if_pos H5.out]
    · have hb : (Hg.ofK c == 4) = false := beq_eq_false_iff_ne.2 h4
      have hb5 : (Hg.ofK c == 5) = false := beq_eq_false_iff_ne.2 h5
      have H5 := Lib.hid h5
      have H4 := Lib.hid h4
      clear h4 h5
      go_enter Tryd.func28, Tryd.ntmps28
      go_wp2_with (go_at_call 34; refine (Hg.of_any _ _ h1 h2).mono ?_; rintro e w' ⟨rfl, rfl⟩)
      go_ret3
      refine ⟨ret_tuple3 ?_, rfl⟩
      unfold Hg.pairK
      rw [if_neg H4.out, if_neg H5.out]

def Hg.splitK (c : Int) : List Int :=
  if Hg.ofK c = 4 then [4352 + (c - 44032) / 588, 4449 + (c - 44032) % 588 / 28]
  else if Hg.ofK c = 5 then [4352 + (c - 44032) / 588, 4449 + (c - 44032) % 588 / 28, 4519 + (c - 44032) % 28]
  else []

theorem Hg.ofK_four (c : Int) (h1 : 44032 ≤ c) (h2 : c < 55204) (h : (c - 44032) % 28 = 0) : Hg.ofK c = 4 := by
  unfold Hg.ofK
  grind

theorem Hg.pairK_four (c : Int) (h : Hg.ofK c = 4) : Hg.pairK c = (4352 + (c - 44032) / 588, 4449 + (c - 44032) % 588 / 28, true) := by
  unfold Hg.pairK; rw [if_pos h]
theorem Hg.pairK_five (c : Int) (h : Hg.ofK c = 5) : Hg.pairK c = (c - (c - 44032) % 28, 4519 + (c - 44032) % 28, true) := by
  unfold Hg.pairK; rw [if_neg (by rw [h]; decide), if_pos h]
theorem Hg.pairK_none (c : Int) (h4 : ¬ Hg.ofK c = 4) (h5 : ¬ Hg.ofK c = 5) : Hg.pairK c = (0, 0, false) := by
  unfold Hg.pairK; rw [if_neg h4, if_neg h5]

theorem Hg.lead_none (c : Int) (h1 : 44032 ≤ c) (h2 : c < 55204) : Hg.pairK (4352 + (c - 44032) / 588) = (0, 0, false) := by
  have a : 4352 ≤ 4352 + (c - 44032) / 588 ∧ 4352 + (c - 44032) / 588 < 4371 := by omega
  refine Hg.pairK_none _ ?_ ?_ <;> unfold Hg.ofK <;> rw [if_pos a] <;> decide

theorem Hg.two_of (c : Int) (h1 : 44032 ≤ c) (h2 : c < 55204) : Hg.pairK (c - (c - 44032) % 28) = (4352 + (c - 44032) / 588, 4449 + (c - 44032) % 588 / 28, true) := by
  rw [Hg.pairK_four _ (Hg.ofK_four _ (by omega) (by omega) (by omega))]
  refine Prod.ext ?_ (Prod.ext ?_ rfl) <;> simp only [] <;> omega

def Hg.joinK (a b : Int) : Int × Bool :=
  if Hg.ofK a = 1 ∧ Hg.ofK b = 2 then (44032 + ((a - 4352) * 21 + b - 4449) * 28, true)
  else if Hg.ofK a = 4 ∧ Hg.ofK b = 3 then (a + b - 4519, true) else (0, false)

theorem Hg.ofK_lead (c : Int) (h : Hg.ofK c = 1) : 4352 ≤ c ∧ c < 4371 := by unfold Hg.ofK at h; grind
theorem Hg.ofK_vowel (c : Int) (h : Hg.ofK c = 2) : 4449 ≤ c ∧ c < 4470 := by unfold Hg.ofK at h; grind
theorem Hg.ofK_trail (c : Int) (h : Hg.ofK c = 3) : 4520 ≤ c ∧ c < 4547 := by unfold Hg.ofK at h; grind

set_option maxHeartbeats 400000 in
theorem Hg.kind_any (c : Int) (w : World) (h1 : -2147483648 ≤ c) (h2 : c ≤ 2147483647) :
    Calls Tryd.prog 24 #[.int .i64 c] w fun e w' => e = .returned (.int .i64 (Hg.ofK c)) ∧ w = w' := by
  go_enter Tryd.func24, Tryd.ntmps24
  go_wp2
  all_goals
    go_ret
    refine ⟨ret_int ?_, rfl⟩
    try simp only [beq_iff_eq, beq_eq_false_iff_ne, Bool.not_eq_true', Bool.not_eq_false', decide_eq_true_eq, decide_eq_false_iff_not] at *
    unfold Hg.ofK
    grind

set_option maxHeartbeats 1000000 in
theorem Hg.parts_any (c : Int) (w : World) (h1 : -2147483648 ≤ c) (h2 : c ≤ 2147483647) :
    Calls Tryd.prog 44 #[.int .i64 c] w (RetInts .i64 (Hg.splitK c) w) := by
  go_enter Tryd.func44, Tryd.ntmps44
  go_wp2
  go_loop [3, 4] (fun n l => ∃ k : Int, 0 ≤ k ∧ k ≤ 19 ∧ n = .int .i64 (44032 + 588 * k) ∧ l = .int .i64 (4352 + k) ∧ (k = 0 ∨ 44032 + 588 * k ≤ c)) (fun _ l => (5000 - intOf l).toNat)
  case atStart => exact ⟨0, by omega, by omega, rfl, rfl, .inl rfl⟩
  case round =>
    obtain ⟨k, hk0, hk1, rfl, rfl, hk⟩ := hrel
    by_cases hl : 4352 + k ≤ 4370
    · by_cases hc : 44032 + 588 * k + 588 ≤ c
      · go_wp2
        exact ⟨⟨k + 1, by omega, by omega, by go_num, by go_num, .inr (by omega)⟩, by simp [intOf]; omega⟩
      · go_wp2
        go_loop [3, 5] (fun n v => ∃ j : Int, 0 ≤ j ∧ j ≤ 21 ∧ n = .int .i64 (44032 + 588 * k + 28 * j) ∧ v = .int .i64 (4449 + j) ∧ (j = 0 ∨ 44032 + 588 * k + 28 * j ≤ c)) (fun _ v => (5000 - intOf v).toNat)
        case atStart => exact ⟨0, by omega, by omega, by go_num, rfl, .inl rfl⟩
        case round =>
          obtain ⟨j, hj0, hj1, rfl, rfl, hj⟩ := hrel
          by_cases hv : 4449 + j ≤ 4469
          · by_cases hd : 44032 + 588 * k + 28 * j + 28 ≤ c
            · go_wp2
              exact ⟨⟨j + 1, by omega, by omega, by go_num, by go_num, .inr (by omega)⟩, by simp [intOf]; omega⟩
            · by_cases he : c = 44032 + 588 * k + 28 * j
              · have hb : (c == 44032 + 588 * k + 28 * j) = true := beq_iff_eq.2 he
                have H4 := Hg.ofK_four c (by omega) (by omega) (by omega)
                have HS : Hid (Hg.splitK c = [4352 + k, 4449 + j]) := by
                  show Hg.splitK c = [4352 + k, 4449 + j]
                  unfold Hg.splitK
                  rw [if_pos H4, show (c - 44032) / 588 = k from by omega, show (c - 44032) % 588 / 28 = j from by omega]
                clear H4
                have HE := Lib.hid he
                clear he
                go_wp2
                go_ret
                rw [HS.out]
                exact ⟨_, _, rfl, Sl.lit rfl _ _ (heap_alloc_new _ _), (Below.refl _ _).alloc (Nat.le_refl _) _⟩
              · have hb : (c == 44032 + 588 * k + 28 * j) = false := beq_eq_false_iff_ne.2 he
                by_cases hg : 44032 + 588 * k + 28 * j < c
                · have H5 : Hg.ofK c = 5 := by unfold Hg.ofK; grind
                  have HS : Hid (Hg.splitK c = [4352 + k, 4449 + j, 4519 + c - (44032 + 588 * k + 28 * j)]) := by
                    show Hg.splitK c = [4352 + k, 4449 + j, 4519 + c - (44032 + 588 * k + 28 * j)]
                    unfold Hg.splitK
                    rw [if_neg (by rw [H5]; decide), if_pos H5, show (c - 44032) / 588 = k from by omega, show (c - 44032) % 588 / 28 = j from by omega,
                      show 4519 + (c - 44032) % 28 = 4519 + c - (44032 + 588 * k + 28 * j) from by omega]
                  clear H5
                  go_wp2
                  go_ret
                  rw [HS.out]
                  exact ⟨_, _, rfl, Sl.lit rfl _ _ (heap_alloc_new _ _), (Below.refl _ _).alloc (Nat.le_refl _) _⟩
                · have HS : Hid (Hg.splitK c = []) := by
                    show Hg.splitK c = []
                    have : ¬ (44032 ≤ c ∧ c < 55204) := by omega
                    unfold Hg.splitK
                    rw [if_neg (fun h => this (Hg.ofK_syl c (.inl h))), if_neg (fun h => this (Hg.ofK_syl c (.inr h)))]
                  go_wp2
                  go_ret
                  rw [HS.out]
                  exact ⟨_, _, rfl, fun h => absurd h (by simp), Below.refl _ _⟩
          · omega
    · have HS : Hid (Hg.splitK c = []) := by
        show Hg.splitK c = []
        have : ¬ (44032 ≤ c ∧ c < 55204) := by omega
        unfold Hg.splitK
        rw [if_neg (fun h => this (Hg.ofK_syl c (.inl h))), if_neg (fun h => this (Hg.ofK_syl c (.inr h)))]
      go_wp2
      go_ret
      rw [HS.out]
      exact ⟨_, _, rfl, fun h => absurd h (by simp), Below.refl _ _⟩
end Go.Proofs.YtamcpdggpdaioaaDoor
