/- The laws of hangul: each answers true, and nothing that was there turns. -/
import Derived.Test.YtbeakahjbkdeiaaGreatDoorSoWalkA
import Derived.BigQuiet
import Derived.Deep.QuietTactic
import Derived.Test.YtbeakahjbkdeiaaGreatDoorDvMore
namespace Go.Proofs.YtbeakahjbkdeiaaGreatDoor
open Go.RowKit
set_option linter.unusedSimpArgs false
set_option linter.unusedVariables false

theorem Hg.split_bd (c : Int) (x : Int) (hx : x ∈ Hg.splitK c) : 0 ≤ x ∧ x ≤ 60000 := by
  unfold Hg.splitK at hx
  split at hx
  · have := Hg.ofK_syl c (.inl ‹_›)
    simp at hx
    omega
  · split at hx
    · have := Hg.ofK_syl c (.inr ‹_›)
      simp at hx
      omega
    · simp at hx

theorem Hg.join_pair (a b : Int) : (Hg.joinK a b).2 = true → Hg.pairK (Hg.joinK a b).1 = (a, b, true) := by
  unfold Hg.joinK
  split
  · rename_i h
    obtain ⟨ha, hb⟩ := h
    have h1 := Hg.ofK_lead a ha
    have h2 := Hg.ofK_vowel b hb
    intro _
    simp only []
    rw [Hg.pairK_four _ (Hg.ofK_four _ (by omega) (by omega) (by omega))]
    refine Prod.ext ?_ (Prod.ext ?_ rfl) <;> simp only [] <;> omega
  · split
    · rename_i h
      obtain ⟨ha, hb⟩ := h
      have h1 := Hg.ofK_syl a (.inl ha)
      have h2 := Hg.ofK_trail b hb
      have h3 : (a - 44032) % 28 = 0 := by unfold Hg.ofK at ha; grind
      intro _
      simp only []
      have h5 : Hg.ofK (a + b - 4519) = 5 := by unfold Hg.ofK; grind
      rw [Hg.pairK_five _ h5]
      refine Prod.ext ?_ (Prod.ext ?_ rfl) <;> simp only [] <;> omega
    · intro h; simp at h

theorem Hg.join_bd (a b : Int) : 0 ≤ (Hg.joinK a b).1 ∧ (Hg.joinK a b).1 ≤ 60000 := by
  unfold Hg.joinK
  split
  · rename_i h
    have h1 := Hg.ofK_lead a h.1
    have h2 := Hg.ofK_vowel b h.2
    simp only []; omega
  · split
    · rename_i h
      have h1 := Hg.ofK_syl a (.inl h.1)
      have h2 := Hg.ofK_trail b h.2
      simp only []; omega
    · simp

theorem Hg.join_is (a b : Int) : (Hg.joinK a b).2 = decide ((Hg.ofK a = 1 ∧ Hg.ofK b = 2) ∨ (Hg.ofK a = 4 ∧ Hg.ofK b = 3)) := by
  unfold Hg.joinK
  split
  · rename_i h; simp [h]
  · split
    · rename_i h; simp [h]
    · rename_i h h'; simp [h, h']

theorem Hg.pair_join (c : Int) (h : (Hg.pairK c).2.2 = true) : Hg.joinK (Hg.pairK c).1 (Hg.pairK c).2.1 = (c, true) := by
  by_cases h4 : Hg.ofK c = 4
  · have hs := Hg.ofK_syl c (.inl h4)
    have h3 : (c - 44032) % 28 = 0 := by unfold Hg.ofK at h4; grind
    rw [Hg.pairK_four c h4]
    simp only []
    have e1 : Hg.ofK (4352 + (c - 44032) / 588) = 1 := by unfold Hg.ofK; rw [if_pos (by omega)]
    have e2 : Hg.ofK (4449 + (c - 44032) % 588 / 28) = 2 := by unfold Hg.ofK; rw [if_neg (by omega), if_pos (by omega)]
    unfold Hg.joinK
    rw [if_pos ⟨e1, e2⟩]
    refine Prod.ext ?_ rfl
    simp only []
    omega
  · by_cases h5 : Hg.ofK c = 5
    · have hs := Hg.ofK_syl c (.inr h5)
      have h3 : ¬ (c - 44032) % 28 = 0 := by unfold Hg.ofK at h5; grind
      rw [Hg.pairK_five c h5]
      simp only []
      have e1 : Hg.ofK (c - (c - 44032) % 28) = 4 := Hg.ofK_four _ (by omega) (by omega) (by omega)
      have e2 : Hg.ofK (4519 + (c - 44032) % 28) = 3 := by unfold Hg.ofK; rw [if_neg (by omega), if_neg (by omega), if_pos (by omega)]
      unfold Hg.joinK
      rw [if_neg (fun h => by rw [e1] at h; exact absurd h.1 (by decide)), if_pos ⟨e1, e2⟩]
      refine Prod.ext ?_ rfl
      simp only []
      omega
    · rw [Hg.pairK_none c h4 h5] at h
      simp at h

theorem Hg.pair_last (c : Int) (h : (Hg.pairK c).2.2 = true) : 2 ≤ (Hg.splitK c).length ∧ (Hg.splitK c)[(Hg.splitK c).length - 1]? = some (Hg.pairK c).2.1 := by
  by_cases h4 : Hg.ofK c = 4
  · rw [Hg.pairK_four c h4]; unfold Hg.splitK; rw [if_pos h4]; simp
  · by_cases h5 : Hg.ofK c = 5
    · rw [Hg.pairK_five c h5]; unfold Hg.splitK; rw [if_neg h4, if_pos h5]; simp
    · rw [Hg.pairK_none c h4 h5] at h
      simp at h

theorem Hg.pair_bd (c : Int) : 0 ≤ (Hg.pairK c).1 ∧ (Hg.pairK c).1 ≤ 60000 ∧ 0 ≤ (Hg.pairK c).2.1 ∧ (Hg.pairK c).2.1 ≤ 60000 := by
  by_cases h4 : Hg.ofK c = 4
  · have := Hg.ofK_syl c (.inl h4)
    rw [Hg.pairK_four c h4]; simp only []; omega
  · by_cases h5 : Hg.ofK c = 5
    · have := Hg.ofK_syl c (.inr h5)
      rw [Hg.pairK_five c h5]; simp only []; omega
    · rw [Hg.pairK_none c h4 h5]; simp

theorem Hg.split_head (x : Int) (h1 : 44032 ≤ x) (h2 : x < 55204) : ∃ t, Hg.splitK x = (4352 + (x - 44032) / 588) :: t := by
  by_cases h : (x - 44032) % 28 = 0
  · have := Hg.ofK_four x h1 h2 h
    unfold Hg.splitK; rw [if_pos this]; exact ⟨_, rfl⟩
  · have : Hg.ofK x = 5 := by unfold Hg.ofK; grind
    unfold Hg.splitK; rw [if_neg (by rw [this]; decide), if_pos this]; exact ⟨_, rfl⟩

theorem Hg.begins_get (c : Int) (k : Nat) (hk : k < 588) : ((Hg.begins c 588).map (Value.int .i32))[k]? = some (.int .i32 (44032 + (c - 4352) * 588 + (k : Int))) := by
  unfold Hg.begins
  simp [hk]

end Go.Proofs.YtbeakahjbkdeiaaGreatDoor
