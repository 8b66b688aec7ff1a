/- The layer hangul: Begins, the fixed fact, and the laws' walks. -/
import Derived.Test.YthikoangkdlebaaHangul
namespace Go.Proofs.Ythikoangkdlebaa
open Go.RowKit
set_option linter.unusedSimpArgs false
set_option linter.unusedVariables false

def Hg.begins (c : Int) (n : Nat) : List Int := (List.range n).map (fun i : Nat => 44032 + (c - 4352) * 588 + (i : Int))
theorem Hg.begins_succ (c : Int) (n : Nat) : Hg.begins c (n + 1) = Hg.begins c n ++ [44032 + (c - 4352) * 588 + (n : Int)] := by
  unfold Hg.begins; rw [List.range_succ, List.map_append]; rfl
theorem Hg.begins_len (c : Int) (n : Nat) : (Hg.begins c n).length = n := by unfold Hg.begins; simp

set_option maxHeartbeats 400000 in
theorem Hg.begins_no (c : Int) (w : World) (h1 : -2147483648 ≤ c) (h2 : c ≤ 2147483647) (h : ¬ Hg.ofK c = 1) :
    Calls Try.prog 21 #[.int .i32 c] w (RetInts .i32 [] w) := by
  have hb : (Hg.ofK c != 1) = true := by simpa using h
  clear h
  go_enter Try.func21, Try.ntmps21
  go_wp2_with (go_at_call 15; refine (Hg.of_any _ _ h1 h2).mono ?_; rintro e w' ⟨rfl, rfl⟩)
  go_ret
  exact ⟨_, _, rfl, Sl.nil _ _ _, Below.refl _ _⟩

set_option maxHeartbeats 400000 in
theorem Hg.begins_yes (c : Int) (w : World) (h1 : -2147483648 ≤ c) (h2 : c ≤ 2147483647) (h : Hg.ofK c = 1) :
    Calls Try.prog 21 #[.int .i32 c] w (RetInts .i32 (Hg.begins c 588) w) := by
  have hl := Hg.ofK_lead c h
  obtain ⟨hl1, hl2⟩ := hl
  have hb : (Hg.ofK c != 1) = false := by rw [h]; rfl
  clear h
  obtain ⟨i0, hi, hz0, hz1, hz2⟩ := info_parts infoRune
  go_enter Try.func21, Try.ntmps21
  go_wp2_with (go_at_call 15; refine (Hg.of_any _ _ h1 h2).mono ?_; rintro e w' ⟨rfl, rfl⟩)
  go_loopw [3, 8] (fun v i wr => ∃ k : Nat, k ≤ 588 ∧ i = .int .i32 k ∧ wr.ownsRow w.heap.size 21 1 v k ((Hg.begins c k).map (Value.int .i32)) ∧ Below w.heap.size w wr) (fun _ i _ => 588 - (intOf i).toNat)
  case atStart => exact ⟨0, by omega, rfl, World.ownsRow_nil _ _ _ _, Below.refl _ _⟩
  case round =>
    obtain ⟨k, hk, rfl, hown, hbel⟩ := hrel
    have hsz := hbel.size
    by_cases hlt : (k : Int) < 588
    · go_wp2_with (at_builtin; refine wpList_push1 _ rfl _ _ _ rfl w.heap.size 21 i0 _ 4 Try.underlying39 hi hz0 hz1 hz2 rfl _ k _ rfl hown _ rfl rfl (by simp only [maxLen]; omega) (by omega) hsz ?_; intro v1 w1 hown1 hb1)
      go_roundw
      case rel =>
        refine ⟨k + 1, by omega, by go_num, ?_, hbel.trans hb1⟩
        rw [Hg.begins_succ, List.map_append]
        exact hown1
      case measure => simp [intOf]; omega
    · obtain rfl : k = 588 := by omega
      go_wp2
      go_ret
      exact RetInts.of_own hown (Hg.begins_len _ _).symm rfl hbel

theorem Hg.lits : Hg.splitK 44033 = [4352, 4449, 4520] ∧ Hg.pairK 44033 = (44032, 4520, true) := by decide

set_option maxHeartbeats 400000 in
theorem Hg.awake (w : World) : Calls Try.prog 14 #[] w fun e w' => e = .returned (.bool true) ∧ Below w.heap.size w w' := by
  have hs := Hg.lits.1
  have hp := Hg.lits.2
  go_enter Try.func14, Try.ntmps14
  go_wp2_with (fail)
  refine (Hg.split_any _ _ (by omega) (by omega)).mono ?_
  rintro e w1 ⟨A, c, rfl, hsl, hb⟩
  rw [hs] at hsl ⊢
  clear hs
  obtain ⟨b, o, rfl, hlt, hc⟩ := hsl (by decide)
  have c0 := hc 0 (by decide)
  have c1 := hc 1 (by decide)
  have c2 := hc 2 (by decide)
  simp only [List.map, List.getElem?_cons_zero, List.getElem?_cons_succ, Nat.add_zero] at c0 c1 c2
  clear hc
  go_wp2_with (fail)
  refine (Hg.pair_any _ _ (by omega) (by omega)).mono ?_
  rintro e w' ⟨rfl, rfl⟩
  rw [hp]
  clear hp
  go_wp2
  go_ret
  exact ⟨rfl, hb⟩
end Go.Proofs.Ythikoangkdlebaa
