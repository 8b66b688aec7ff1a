/- The laws of hangul: each answers true, and nothing that was there turns. -/
import Derived.Test.YthikoangkdlebaaHangulB
import Derived.BigQuiet
import Derived.Deep.QuietTactic
namespace Go.Proofs.Ythikoangkdlebaa
open Go.RowKit
set_option linter.unusedSimpArgs false
set_option linter.unusedVariables false

theorem Hg.split_bd (c : Int) (x : Int) (hx : x ∈ Hg.splitK c) : 0 ≤ x ∧ x ≤ 60000 := by
  unfold Hg.splitK at hx
  split at hx
  · have := Hg.ofK_syl c (.inl ‹_›)
    simp at hx
    omega
  · split at hx
    · have := Hg.ofK_syl c (.inr ‹_›)
      simp at hx
      omega
    · simp at hx

theorem Hg.join_pair (a b : Int) : (Hg.joinK a b).2 = true → Hg.pairK (Hg.joinK a b).1 = (a, b, true) := by
  unfold Hg.joinK
  split
  · rename_i h
    obtain ⟨ha, hb⟩ := h
    have h1 := Hg.ofK_lead a ha
    have h2 := Hg.ofK_vowel b hb
    intro _
    simp only []
    rw [Hg.pairK_four _ (Hg.ofK_four _ (by omega) (by omega) (by omega))]
    refine Prod.ext ?_ (Prod.ext ?_ rfl) <;> simp only [] <;> omega
  · split
    · rename_i h
      obtain ⟨ha, hb⟩ := h
      have h1 := Hg.ofK_syl a (.inl ha)
      have h2 := Hg.ofK_trail b hb
      have h3 : (a - 44032) % 28 = 0 := by unfold Hg.ofK at ha; grind
      intro _
      simp only []
      have h5 : Hg.ofK (a + b - 4519) = 5 := by unfold Hg.ofK; grind
      rw [Hg.pairK_five _ h5]
      refine Prod.ext ?_ (Prod.ext ?_ rfl) <;> simp only [] <;> omega
    · intro h; simp at h

theorem Hg.join_bd (a b : Int) : 0 ≤ (Hg.joinK a b).1 ∧ (Hg.joinK a b).1 ≤ 60000 := by
  unfold Hg.joinK
  split
  · rename_i h
    have h1 := Hg.ofK_lead a h.1
    have h2 := Hg.ofK_vowel b h.2
    simp only []; omega
  · split
    · rename_i h
      have h1 := Hg.ofK_syl a (.inl h.1)
      have h2 := Hg.ofK_trail b h.2
      simp only []; omega
    · simp

theorem Hg.join_is (a b : Int) : (Hg.joinK a b).2 = decide ((Hg.ofK a = 1 ∧ Hg.ofK b = 2) ∨ (Hg.ofK a = 4 ∧ Hg.ofK b = 3)) := by
  unfold Hg.joinK
  split
  · rename_i h; simp [h]
  · split
    · rename_i h; simp [h]
    · rename_i h h'; simp [h, h']

theorem Hg.pair_join (c : Int) (h : (Hg.pairK c).2.2 = true) : Hg.joinK (Hg.pairK c).1 (Hg.pairK c).2.1 = (c, true) := by
  by_cases h4 : Hg.ofK c = 4
  · have hs := Hg.ofK_syl c (.inl h4)
    have h3 : (c - 44032) % 28 = 0 := by unfold Hg.ofK at h4; grind
    rw [Hg.pairK_four c h4]
    simp only []
    have e1 : Hg.ofK (4352 + (c - 44032) / 588) = 1 := by unfold Hg.ofK; rw [if_pos (by omega)]
    have e2 : Hg.ofK (4449 + (c - 44032) % 588 / 28) = 2 := by unfold Hg.ofK; rw [if_neg (by omega), if_pos (by omega)]
    unfold Hg.joinK
    rw [if_pos ⟨e1, e2⟩]
    refine Prod.ext ?_ rfl
    simp only []
    omega
  · by_cases h5 : Hg.ofK c = 5
    · have hs := Hg.ofK_syl c (.inr h5)
      have h3 : ¬ (c - 44032) % 28 = 0 := by unfold Hg.ofK at h5; grind
      rw [Hg.pairK_five c h5]
      simp only []
      have e1 : Hg.ofK (c - (c - 44032) % 28) = 4 := Hg.ofK_four _ (by omega) (by omega) (by omega)
      have e2 : Hg.ofK (4519 + (c - 44032) % 28) = 3 := by unfold Hg.ofK; rw [if_neg (by omega), if_neg (by omega), if_pos (by omega)]
      unfold Hg.joinK
      rw [if_neg (fun h => by rw [e1] at h; exact absurd h.1 (by decide)), if_pos ⟨e1, e2⟩]
      refine Prod.ext ?_ rfl
      simp only []
      omega
    · rw [Hg.pairK_none c h4 h5] at h
      simp at h

theorem Hg.pair_last (c : Int) (h : (Hg.pairK c).2.2 = true) : 2 ≤ (Hg.splitK c).length ∧ (Hg.splitK c)[(Hg.splitK c).length - 1]? = some (Hg.pairK c).2.1 := by
  by_cases h4 : Hg.ofK c = 4
  · rw [Hg.pairK_four c h4]; unfold Hg.splitK; rw [if_pos h4]; simp
  · by_cases h5 : Hg.ofK c = 5
    · rw [Hg.pairK_five c h5]; unfold Hg.splitK; rw [if_neg h4, if_pos h5]; simp
    · rw [Hg.pairK_none c h4 h5] at h
      simp at h

theorem Hg.pair_bd (c : Int) : 0 ≤ (Hg.pairK c).1 ∧ (Hg.pairK c).1 ≤ 60000 ∧ 0 ≤ (Hg.pairK c).2.1 ∧ (Hg.pairK c).2.1 ≤ 60000 := by
  by_cases h4 : Hg.ofK c = 4
  · have := Hg.ofK_syl c (.inl h4)
    rw [Hg.pairK_four c h4]; simp only []; omega
  · by_cases h5 : Hg.ofK c = 5
    · have := Hg.ofK_syl c (.inr h5)
      rw [Hg.pairK_five c h5]; simp only []; omega
    · rw [Hg.pairK_none c h4 h5]; simp

set_option maxHeartbeats 400000 in
theorem Hg.joins_walk (w : World) (a : Int) (h1 : -2147483648 ≤ a) (h2 : a ≤ 2147483647) (b : Int) (h3 : -2147483648 ≤ b) (h4 : b ≤ 2147483647) :
    Calls Try.prog 5 #[.int .i32 a, .int .i32 b] w fun e w' => e = .returned (.bool true) ∧ Below w.heap.size w w' := by
  have hi := Hg.join_is a b
  have hp := Hg.join_pair a b
  obtain ⟨hb1, hb2⟩ := Hg.join_bd a b
  by_cases hyes : (Hg.ofK a = 1 ∧ Hg.ofK b = 2) ∨ (Hg.ofK a = 4 ∧ Hg.ofK b = 3)
  · rw [decide_eq_true hyes] at hi
    replace hp := hp hi
    obtain ⟨j, hj⟩ : ∃ j, Hg.joinK a b = (j, true) := ⟨_, Prod.ext rfl hi⟩
    rw [hj] at hp hb1 hb2
    simp only [] at hp hb1 hb2
    clear hi
    rcases hyes with ⟨ha, hb⟩ | ⟨ha, hb⟩
    all_goals
      go_enter Try.func5, Try.ntmps5
      go_wp2_with (first | (go_at_call 14; refine (Hg.awake _).mono ?_; rintro e w1 ⟨rfl, hbel⟩) | (go_at_call 20; refine (Hg.join_any _ _ _ h1 h2 h3 h4).mono ?_; rintro e w' ⟨rfl, rfl⟩; rw [hj]) | (go_at_call 16; refine (Hg.kind_any _ _ (by omega) (by omega)).mono ?_; rintro e w' ⟨rfl, rfl⟩) | (go_at_call 19; refine (Hg.pair_any _ _ (by omega) (by omega)).mono ?_; rintro e w' ⟨rfl, rfl⟩; rw [hp]))
      go_ret
      exact ⟨rfl, ‹_›⟩
  · rw [decide_eq_false hyes] at hi
    have hj : Hg.joinK a b = (0, false) := by
      unfold Hg.joinK
      rw [if_neg (fun h => hyes (.inl h)), if_neg (fun h => hyes (.inr h))]
    clear hp hb1 hb2 hi
    have g : ((Hg.ofK a == 1) && (Hg.ofK b == 2)) = false := by simp; intro x y; exact hyes (.inl ⟨x, y⟩)
    have g' : ((Hg.ofK a == 4) && (Hg.ofK b == 3)) = false := by simp; intro x y; exact hyes (.inr ⟨x, y⟩)
    have HY := Lib.hid hyes
    clear hyes
    cases qa : (Hg.ofK a == 1) <;> cases qb : (Hg.ofK b == 2) <;> cases qc : (Hg.ofK a == 4) <;> cases qd : (Hg.ofK b == 3) <;> first | (rw [qa, qb] at g; exact absurd g (by decide)) | (rw [qc, qd] at g'; exact absurd g' (by decide)) | skip
    all_goals
      clear g g'
      go_enter Try.func5, Try.ntmps5
      go_wp2_with (first | (go_at_call 14; refine (Hg.awake _).mono ?_; rintro e w1 ⟨rfl, hbel⟩) | (go_at_call 20; refine (Hg.join_any _ _ _ h1 h2 h3 h4).mono ?_; rintro e w' ⟨rfl, rfl⟩; rw [hj]) | (go_at_call 16; refine (Hg.kind_any _ _ (by omega) (by omega)).mono ?_; rintro e w' ⟨rfl, rfl⟩))
      go_ret
      exact ⟨rfl, ‹_›⟩

theorem Hg.split_head (x : Int) (h1 : 44032 ≤ x) (h2 : x < 55204) : ∃ t, Hg.splitK x = (4352 + (x - 44032) / 588) :: t := by
  by_cases h : (x - 44032) % 28 = 0
  · have := Hg.ofK_four x h1 h2 h
    unfold Hg.splitK; rw [if_pos this]; exact ⟨_, rfl⟩
  · have : Hg.ofK x = 5 := by unfold Hg.ofK; grind
    unfold Hg.splitK; rw [if_neg (by rw [this]; decide), if_pos this]; exact ⟨_, rfl⟩

theorem Hg.begins_get (c : Int) (k : Nat) (hk : k < 588) : ((Hg.begins c 588).map (Value.int .i32))[k]? = some (.int .i32 (44032 + (c - 4352) * 588 + (k : Int))) := by
  unfold Hg.begins
  simp [hk]

set_option maxRecDepth 100000 in
set_option maxHeartbeats 400000 in
theorem Hg.begins_walk (w : World) (c : Int) (h1 : -2147483648 ≤ c) (h2 : c ≤ 2147483647) :
    Calls Try.prog 6 #[.int .i32 c] w fun e w' => e = .returned (.bool true) ∧ Below w.heap.size w w' := by
  by_cases hl : Hg.ofK c = 1
  · have hcb := Hg.ofK_lead c hl
    obtain ⟨hc1, hc2⟩ := hcb
    have hk1 : (Hg.ofK c != 1) = false := by rw [hl]; rfl
    have HL := Lib.hid hl
    clear hl
    go_enter Try.func6, Try.ntmps6
    go_wp2_with (fail)
    refine (Hg.awake _).mono ?_
    rintro e w1 ⟨rfl, hbel1⟩
    go_wp2_with (fail)
    refine (Hg.begins_yes _ _ h1 h2 HL.out).mono ?_
    rintro e w2 ⟨A, cap, rfl, hsl, hbel2⟩
    rw [Hg.begins_len]
    have hlen : ((Hg.begins c 588).map (Value.int .i32)).length = 588 := by rw [List.length_map, Hg.begins_len]
    obtain ⟨b, o, rfl, hlt, hc⟩ := hsl (by omega)
    rw [hlen] at hc
    clear hlen hsl
    have HC := Lib.hid hc
    clear hc
    have hb02 := hbel1.trans (hbel2.mono hbel1.size)
    have hs2 := hb02.size
    clear hbel1 hbel2
    go_wp2_with (first | (go_at_call 16; refine (Hg.kind_any _ _ (by omega) (by omega)).mono ?_; rintro e w' ⟨rfl, rfl⟩))
    go_loopw [23] (fun i wr => ∃ k : Nat, k ≤ 588 ∧ i = .int .i64 k ∧ Below w2.heap.size w2 wr) (fun i _ => 588 - (intOf i).toNat)
    case atStart => exact ⟨0, by omega, rfl, Below.refl _ _⟩
    case round =>
      obtain ⟨k, hk, rfl, hbel⟩ := hrel
      have hsz := hbel.size
      by_cases hlt' : k < 588
      · have hx := (hbel.cell (p := ⟨b, o + k, none⟩) hlt).trans ((HC.out k (by omega)).trans (Hg.begins_get c k hlt'))
        obtain ⟨t, hsp⟩ := Hg.split_head (44032 + (c - 4352) * 588 + (k : Int)) (by omega) (by omega)
        rw [show (4352 + (44032 + (c - 4352) * 588 + (k : Int) - 44032) / 588) = c from by omega] at hsp
        have x1 : 0 ≤ 44032 + (c - 4352) * 588 + (k : Int) := by omega
        have x2 : 44032 + (c - 4352) * 588 + (k : Int) ≤ 60000 := by omega
        by_cases hk0 : 0 < (k : Int)
        · have hy := (hbel.cell (p := ⟨b, o + (k - 1), none⟩) hlt).trans ((HC.out (k - 1) (by omega)).trans (Hg.begins_get c (k - 1) (by omega)))
          rw [show ((k - 1 : Nat) : Int) = (k : Int) - 1 from by omega] at hy
          have HY := Lib.hid hy
          have HSP := Lib.hid hsp
          clear hy hsp
          go_wp2_with fail
          refine (Hg.parts_any _ _ (by omega) (by omega)).mono ?_
          rintro e w3 ⟨A3, cap3, rfl, hsl3, hbel3⟩
          rw [HSP.out] at hsl3 ⊢
          obtain ⟨b3, o3, rfl, hlt3, hc3⟩ := hsl3 (by simp)
          have d0 := hc3 0 (by simp)
          simp only [List.map, List.getElem?_cons_zero, Nat.add_zero] at d0
          clear hc3
          have hne : (((t.length : Nat) : Int) + 1 == 0) = false := by simp; omega
          have d1 := (hbel3.cell (p := ⟨b, o + (k - 1), none⟩) (by simp only []; omega)).trans HY.out
          go_wp2
          all_goals first | omega | exact ⟨⟨k + 1, by omega, by go_num, hbel.trans (hbel3.mono hsz)⟩, by simp [intOf]; omega⟩ | skip
        · have hk1' : ((k : Int) == 0) = true := by simp; omega
          have HSP := Lib.hid hsp
          clear hsp
          go_wp2_with fail
          refine (Hg.parts_any _ _ (by omega) (by omega)).mono ?_
          rintro e w3 ⟨A3, cap3, rfl, hsl3, hbel3⟩
          rw [HSP.out] at hsl3 ⊢
          obtain ⟨b3, o3, rfl, hlt3, hc3⟩ := hsl3 (by simp)
          have d0 := hc3 0 (by simp)
          simp only [List.map, List.getElem?_cons_zero, Nat.add_zero] at d0
          clear hc3
          have hne : (((t.length : Nat) : Int) + 1 == 0) = false := by simp; omega
          go_wp2
          all_goals first | omega | exact ⟨⟨k + 1, by omega, by go_num, hbel.trans (hbel3.mono hsz)⟩, by simp [intOf]; omega⟩ | skip
      · obtain rfl : k = 588 := by omega
        go_wp2
        go_ret
        exact ⟨rfl, hb02.trans (hbel.mono hs2)⟩
  · have hk1 : (Hg.ofK c != 1) = true := by simpa using hl
    have HL := Lib.hid hl
    clear hl
    go_enter Try.func6, Try.ntmps6
    go_wp2_with (fail)
    refine (Hg.awake _).mono ?_
    rintro e w1 ⟨rfl, hbel1⟩
    go_wp2_with (fail)
    refine (Hg.begins_no _ _ h1 h2 HL.out).mono ?_
    rintro e w2 ⟨A, cap, rfl, hsl, hbel2⟩
    have hb02 := hbel1.trans (hbel2.mono hbel1.size)
    clear hbel1 hbel2 hsl
    go_wp2_with (first | (go_at_call 16; refine (Hg.kind_any _ _ (by omega) (by omega)).mono ?_; rintro e w' ⟨rfl, rfl⟩))
    go_ret
    exact ⟨rfl, hb02⟩
end Go.Proofs.Ythikoangkdlebaa
