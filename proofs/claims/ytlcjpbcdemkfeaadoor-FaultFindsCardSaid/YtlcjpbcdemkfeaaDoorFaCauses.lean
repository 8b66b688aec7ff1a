/- The layer fault: what a number tells of; and awake. -/
import Derived.Test.YtlcjpbcdemkfeaaDoorFaText
namespace Go.Proofs.YtlcjpbcdemkfeaaDoor
open Go.RowKit Go.Stop
set_option linter.unusedSimpArgs false
set_option linter.unusedVariables false

/-- The law's fixed fact. -/
theorem F.awake_text : F.text [(3, 0, ⟨#[100, 97, 116, 97]⟩), (3, 7, ⟨#[102, 105, 101, 108, 100]⟩)] = ⟨#[100, 97, 116, 97, 58, 32, 102, 105, 101, 108, 100, 58, 32, 108, 105, 110, 101, 32, 55, 58, 32, 99, 111, 100, 101, 32, 51]⟩ := by
  have e3 : Lib.itoa 3 = [51] := by simp [Lib.itoa]; rw [Lib.decDigits]; rfl
  have e7 : Lib.itoa 7 = [55] := by simp [Lib.itoa]; rw [Lib.decDigits]; rfl
  have en : F.notes [(3, 0, ⟨#[100, 97, 116, 97]⟩), (3, 7, ⟨#[102, 105, 101, 108, 100]⟩)] = [⟨#[100, 97, 116, 97]⟩, ⟨#[102, 105, 101, 108, 100]⟩] := by simp [F.notes]
  have el : F.line [(3, 0, ⟨#[100, 97, 116, 97]⟩), (3, 7, ⟨#[102, 105, 101, 108, 100]⟩)] = 7 := rfl
  unfold F.text F.parts
  rw [if_neg (by simp), en, el]
  unfold F.strLine F.strCode F.code
  rw [e7, e3, if_neg (by decide)]
  rfl
set_option maxRecDepth 100000 in
set_option maxHeartbeats 2000000 in
theorem F.awake_any (w : World) (hL : F.Laid w) : Calls Tryd.prog 8 #[] w fun e w' => e = .returned (.bool true) ∧ Below w.heap.size w w' := by
  have HL := Lib.hid hL
  have HT := Lib.hid F.awake_text
  clear hL
  go_enter Tryd.func8, Tryd.ntmps8
  go_wp2_with fail
  refine (F.at_any 3 7 ⟨#[102, 105, 101, 108, 100]⟩ _).mono ?_
  rw [if_neg (by decide)]
  rintro e w1 ⟨q1, v1, rfl, hl1, hq1, hb1⟩
  have HL1 := Lib.hid (HL.out.next hb1)
  have HQ1 := Lib.hid hq1
  have HLK := Lib.hid hl1
  clear hl1 hq1
  go_wp2_with fail
  refine (F.wrap_any w1.heap.size q1 v1 ⟨#[100, 97, 116, 97]⟩ _ HL1.out (Nat.le_refl _) HQ1.out).mono ?_
  rw [HLK.out, if_neg (by simp)]
  rintro e w2 ⟨q2, v2, rfl, hl2, hq2, hb2⟩
  have HL2 := Lib.hid (HL1.out.next hb2)
  have HQ2 := Lib.hid hq2
  have hl2' : F.lk q2 = [(3, 0, ⟨#[100, 97, 116, 97]⟩), (3, 7, ⟨#[102, 105, 101, 108, 100]⟩)] := hl2
  have HLK2 := Lib.hid hl2'
  have hlen : q2.length ≤ 1000 := by rw [← F.lk_len, hl2']; decide
  have hok : F.okL (F.lk q2) := by
    rw [hl2']
    intro x hx
    simp at hx
    rcases hx with rfl | rfl <;> refine ⟨by decide, by decide, by decide⟩
  have HOK := Lib.hid hok
  have HB := Lib.hid (hb1.trans (hb2.mono hb1.size))
  clear hl2 hl2' hq2 hb1 hb2 hok
  go_wp2_with fail
  refine (F.text_any w2.heap.size q2 v2 _ HL2.out (Nat.le_refl _) HQ2.out hlen HOK.out).mono ?_
  rw [HLK2.out, HT.out]
  rintro e w3 ⟨rfl, hb3⟩
  go_wp2
  go_ret
  exact ⟨rfl, HB.out.trans (hb3.mono HB.out.size)⟩

def F.mark (c : Int) : Int := if c = 2 ∨ c = 3 ∨ c = 16 then 6 else if c = 8 then 4 else if c = 12 ∨ c = 13 then 18 else if c = 1 ∨ c = 5 ∨ c = 6 ∨ c = 10 ∨ c = 11 ∨ c = 15 then 2 else if c = 4 ∨ c = 7 ∨ c = 9 ∨ c = 14 then 10 else 0
def F.has (m : Int) (x : Nat) : Bool := m / 2 ^ x % 2 == 1
def F.cz (m : Int) : Nat → List Int
  | 0 => []
  | k + 1 => F.cz m k ++ (if F.has m (k + 1) = true then [((k + 1 : Nat) : Int)] else [])
theorem F.mark_in (c : Int) : F.mark c = 6 ∨ F.mark c = 4 ∨ F.mark c = 18 ∨ F.mark c = 2 ∨ F.mark c = 10 ∨ F.mark c = 0 := by
  unfold F.mark
  repeat' split
  all_goals simp
theorem F.cz_len (m : Int) : ∀ k, (F.cz m k).length ≤ k
  | 0 => Nat.le_refl _
  | k + 1 => by
    have := F.cz_len m k
    unfold F.cz
    rw [List.length_append]
    split <;> simp <;> omega
theorem F.cases (c : Int) : c = 1 ∨ c = 2 ∨ c = 3 ∨ c = 4 ∨ c = 5 ∨ c = 6 ∨ c = 7 ∨ c = 8 ∨ c = 9 ∨ c = 10 ∨ c = 11 ∨ c = 12 ∨ c = 13 ∨ c = 14 ∨ c = 15 ∨ c = 16 ∨ (¬ c = 1 ∧ ¬ c = 2 ∧ ¬ c = 3 ∧ ¬ c = 4 ∧ ¬ c = 5 ∧ ¬ c = 6 ∧ ¬ c = 7 ∧ ¬ c = 8 ∧ ¬ c = 9 ∧ ¬ c = 10 ∧ ¬ c = 11 ∧ ¬ c = 12 ∧ ¬ c = 13 ∧ ¬ c = 14 ∧ ¬ c = 15 ∧ ¬ c = 16) := by omega

set_option maxRecDepth 100000 in
set_option maxHeartbeats 8000000 in
theorem F.marks_any (c : Int) (w : World) : Calls Tryd.prog 39 #[.int .i64 c] w fun e w' => e = .returned (.int .u8 (F.mark c)) ∧ w = w' := by
  rcases F.cases c with rfl | rfl | rfl | rfl | rfl | rfl | rfl | rfl | rfl | rfl | rfl | rfl | rfl | rfl | rfl | rfl | ⟨h1, h2, h3, h4, h5, h6, h7, h8, h9, h10, h11, h12, h13, h14, h15, h16⟩
  iterate 16
    · go_enter Tryd.func39, Tryd.ntmps39
      go_wp2
      go_ret
      exact ⟨rfl, rfl⟩
  have hm : F.mark c = 0 := by simp [F.mark, h1, h2, h3, h4, h5, h6, h7, h8, h9, h10, h11, h12, h13, h14, h15, h16]
  rw [hm]
  clear hm
  go_enter Tryd.func39, Tryd.ntmps39
  go_wp2
  go_ret
  exact ⟨rfl, rfl⟩

set_option maxRecDepth 100000 in
set_option maxHeartbeats 8000000 in
theorem F.has_any (m : Int) (k : Nat) (w : World) (hm : m = 6 ∨ m = 4 ∨ m = 18 ∨ m = 2 ∨ m = 10 ∨ m = 0) (hk : k < 4) : Calls Tryd.prog 40 #[.int .u8 m, .int .i64 ((k + 1 : Nat) : Int)] w fun e w' => e = .returned (.bool (F.has m (k + 1))) ∧ w = w' := by
  have hk4 : k = 0 ∨ k = 1 ∨ k = 2 ∨ k = 3 := by omega
  rcases hm with rfl | rfl | rfl | rfl | rfl | rfl <;> rcases hk4 with rfl | rfl | rfl | rfl
  all_goals
    go_enter Tryd.func40, Tryd.ntmps40
    go_wp2
    go_ret
    exact ⟨rfl, rfl⟩
end Go.Proofs.YtlcjpbcdemkfeaaDoor
