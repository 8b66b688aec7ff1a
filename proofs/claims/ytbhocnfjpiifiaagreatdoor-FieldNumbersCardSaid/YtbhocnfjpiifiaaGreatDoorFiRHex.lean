/- The document's Hex for the layer field, by walking its text. -/
import Derived.Test.YtbhocnfjpiifiaaGreatDoorFiRef
namespace Go.Proofs.YtbhocnfjpiifiaaGreatDoor
open Go.RowKit Go.Stop
set_option linter.unusedSimpArgs false
set_option linter.unusedVariables false

theorem Fi.rtext_int (v : Int) (h0 : 0 ≤ v) (h1 : v < 16777216) (w : World) :
    Calls Tryz.prog 17 #[.int .i64 v] w fun e w' => e = .returned (.string ⟨(Fi.text v.toNat).toArray⟩) ∧ Below w.heap.size w w' := by
  obtain ⟨n, rfl⟩ : ∃ n : Nat, v = n := ⟨v.toNat, by omega⟩
  rw [Int.toNat_natCast]
  exact Fi.rtext_any n (by omega) w

set_option maxRecDepth 100000 in
set_option maxHeartbeats 4000000 in
theorem Fi.rhex_any (s : ByteArray) (w : World) :
    Calls Tryz.prog 8 #[.string s] w fun e w' => e = .returned (.int .i64 ((Fi.hex s.data.toList).getD (-1))) ∧ Below w.heap.size w w' := by
  rcases Nat.lt_or_ge s.size 4 with h4 | h4
  · have hN : Fi.hex s.data.toList = none := Fi.long_no (by unfold Fi.long; rw [decide_eq_false (by simp; omega)]; rfl)
    have HN := Lib.hid hN
    have i4 : (s.size : Int) < 4 := by omega
    clear hN
    go_enter Tryz.func8, Tryz.ntmps8
    go_wp2_with fail
    go_ret
    exact ⟨by rw [HN.out]; rfl, Below.refl _ _⟩
  rcases Nat.lt_or_ge 6 s.size with h6 | h6
  · have hN : Fi.hex s.data.toList = none := Fi.long_no (by unfold Fi.long; rw [decide_eq_false (p := s.data.toList.length ≤ 6) (by simp; omega), Bool.false_and, Bool.and_false])
    have HN := Lib.hid hN
    have i4 : ¬ (s.size : Int) < 4 := by omega
    have i6 : (s.size : Int) > 6 := by omega
    clear hN
    go_enter Tryz.func8, Tryz.ntmps8
    go_wp2_with fail
    go_ret
    exact ⟨by rw [HN.out]; rfl, Below.refl _ _⟩
  have i4 : ¬ (s.size : Int) < 4 := by omega
  have i6 : ¬ (s.size : Int) > 6 := by omega
  go_enter Tryz.func8, Tryz.ntmps8
  go_wp2_with fail
  go_loop [3, 4] (fun vn vi => ∃ i : Nat, i ≤ s.size ∧ vi = .int .i64 i ∧ vn = .int .i64 (Fi.val (s.data.toList.take i)) ∧ Fi.good (s.data.toList.take i) = true) (fun _ vi => s.size - (intOf vi).toNat)
  case atStart => exact ⟨0, by omega, rfl, rfl, rfl⟩
  case round =>
    obtain ⟨i, hi, rfl, rfl, hg⟩ := hrel
    have hv := Fi.val_lt _ hg i (by omega)
    rw [List.take_take, Nat.min_self] at hv
    obtain ⟨v, hvv⟩ : ∃ v, Fi.val (s.data.toList.take i) = v := ⟨_, rfl⟩
    rw [hvv] at hv
    obtain ⟨v0, v1⟩ := hv
    by_cases hlt : (i : Int) < s.size
    · have hi' : i < s.size := by omega
      have hsn := Fi.take_snoc s i hi'
      have n0 : (0 : Int) ≤ (i : Int) := by omega
      obtain ⟨b, hb⟩ : ∃ b, s[i] = b := ⟨_, rfl⟩
      rw [hb] at hsn
      have hb255 := b.toNat_lt
      obtain ⟨d, hdd⟩ : ∃ d, Fi.digit b = d := ⟨_, rfl⟩
      have hval : Fi.val (s.data.toList.take (i + 1)) = v * 16 + d := by rw [hsn, Fi.val_snoc, hvv, hdd]
      have hgood : Fi.good (s.data.toList.take (i + 1)) = decide (0 ≤ d) := by rw [hsn, Fi.good_snoc, hg, hdd, Bool.true_and]
      have hN : d < 0 → Fi.hex s.data.toList = none := fun hd => Fi.good_no (fun h => by
        have := Fi.good_take h (i + 1)
        rw [hgood, decide_eq_true_eq] at this
        omega)
      unfold Fi.digit at hdd
      rw [hvv]
      have HV := Lib.hid hval
      have HG := Lib.hid hgood
      have HN := Lib.hid hN
      clear hsn hg hvv hval hgood hN
      rcases Nat.lt_or_ge b.toNat 48 with q1 | q1
      · have r1 : ¬ (b.toNat : Int) ≥ 48 := by omega
        have r2 : ¬ (b.toNat : Int) ≥ 65 := by omega
        have hdn : d < 0 := by rw [if_neg (by omega), if_neg (by omega)] at hdd; omega
        clear hdd
        go_wp2_with fail
        go_ret
        exact ⟨by rw [HN.out hdn]; rfl, Below.refl _ _⟩
      rcases Nat.lt_or_ge 57 b.toNat with q2 | q2
      · have r1 : (b.toNat : Int) ≥ 48 := by omega
        have r2 : ¬ (b.toNat : Int) ≤ 57 := by omega
        rcases Nat.lt_or_ge b.toNat 65 with q3 | q3
        · have r3 : ¬ (b.toNat : Int) ≥ 65 := by omega
          have hdn : d < 0 := by rw [if_neg (by omega), if_neg (by omega)] at hdd; omega
          clear hdd
          go_wp2_with fail
          go_ret
          exact ⟨by rw [HN.out hdn]; rfl, Below.refl _ _⟩
        have r3 : (b.toNat : Int) ≥ 65 := by omega
        rcases Nat.lt_or_ge 70 b.toNat with q4 | q4
        · have r4 : ¬ (b.toNat : Int) ≤ 70 := by omega
          have hdn : d < 0 := by rw [if_neg (by omega), if_neg (by omega)] at hdd; omega
          clear hdd
          go_wp2_with fail
          go_ret
          exact ⟨by rw [HN.out hdn]; rfl, Below.refl _ _⟩
        have r4 : (b.toNat : Int) ≤ 70 := by omega
        have hd2 : d = (b.toNat : Int) - 55 := by rw [if_neg (by omega), if_pos (by omega)] at hdd; omega
        have hdn : ¬ (b.toNat : Int) - 55 < 0 := by omega
        clear hdd
        go_wp2_with fail
        exact ⟨⟨i + 1, by omega, by go_num, by rw [HV.out, hd2]; go_num, by rw [HG.out, decide_eq_true (by omega)]⟩, by simp [intOf]; omega⟩
      · have r1 : (b.toNat : Int) ≥ 48 := by omega
        have r2 : (b.toNat : Int) ≤ 57 := by omega
        have r3 : ¬ (b.toNat : Int) ≥ 65 := by omega
        have hd2 : d = (b.toNat : Int) - 48 := by rw [if_pos (by omega)] at hdd; omega
        have hdn : ¬ (b.toNat : Int) - 48 < 0 := by omega
        clear hdd
        go_wp2_with fail
        exact ⟨⟨i + 1, by omega, by go_num, by rw [HV.out, hd2]; go_num, by rw [HG.out, decide_eq_true (by omega)]⟩, by simp [intOf]; omega⟩
    · obtain rfl : i = s.size := by omega
      rw [Fi.take_all] at hg hvv ⊢
      rw [hvv]
      by_cases hbig : v > 1114111
      · have hN : Fi.hex s.data.toList = none := by unfold Fi.hex; rw [hvv, decide_eq_false (by omega), Bool.and_false, Bool.and_false]; rfl
        have HN := Lib.hid hN
        clear hg hvv hN
        go_wp2_with fail
        go_ret
        exact ⟨by rw [HN.out]; rfl, Below.refl _ _⟩
      · have hsz : s.data.toList.length = s.size := by simp
        have hiff := Fi.hex_iff s.data.toList (by omega) (by omega) hg
        rw [hvv] at hiff
        have hI := fun W => Fi.rtext_int v v0 v1 W
        obtain ⟨t, ht⟩ : ∃ t : ByteArray, (⟨(Fi.text v.toNat).toArray⟩ : ByteArray) = t := ⟨_, rfl⟩
        simp only [ht] at hI
        by_cases heq : t = s
        · have hl : Fi.long s.data.toList = true := hiff.1 (by rw [← heq, ← ht])
          have hN : Fi.hex s.data.toList = some v := by unfold Fi.hex; rw [hvv, hl, hg, decide_eq_true (by omega)]; rfl
          have HN := Lib.hid hN
          subst heq
          clear hg hvv hN hiff hl ht hsz
          go_wp2_with fail
          refine (hI _).mono ?_
          rintro e w2 ⟨rfl, hb2⟩
          go_wp2_with fail
          go_ret
          exact ⟨by rw [HN.out]; rfl, hb2⟩
        · have hl : Fi.long s.data.toList = false := by
            rw [Bool.eq_false_iff]
            exact fun h => heq (by rw [← ht, hiff.2 h, Lib.mk_data])
          have hN : Fi.hex s.data.toList = none := Fi.long_no hl
          have HN := Lib.hid hN
          have hbeq : (t.toList == s.toList) = false := by
            rw [beq_eq_false_iff_ne, ByteArray.toList_eq, ByteArray.toList_eq]
            exact fun h => heq (by rw [← Lib.mk_data t, h, Lib.mk_data])
          clear hg hvv hN hiff hl ht hsz
          go_wp2_with fail
          refine (hI _).mono ?_
          rintro e w2 ⟨rfl, hb2⟩
          go_wp2_with fail
          go_ret
          exact ⟨by rw [HN.out]; rfl, hb2⟩
end Go.Proofs.YtbhocnfjpiifiaaGreatDoor
