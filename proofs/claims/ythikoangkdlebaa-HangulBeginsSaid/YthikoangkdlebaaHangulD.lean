/- HangulKinds: it answers true, and nothing that was there turns. -/
import Derived.Test.YthikoangkdlebaaHangulC
namespace Go.Proofs.Ythikoangkdlebaa
open Go.RowKit
set_option linter.unusedSimpArgs false
set_option linter.unusedVariables false

theorem Hg.split_len (c : Int) : (Hg.ofK c = 4 ∧ (Hg.splitK c).length = 2) ∨ (Hg.ofK c = 5 ∧ (Hg.splitK c).length = 3) ∨ (¬ Hg.ofK c = 4 ∧ ¬ Hg.ofK c = 5 ∧ (Hg.splitK c).length = 0) := by
  unfold Hg.splitK
  by_cases h4 : Hg.ofK c = 4
  · rw [if_pos h4]; exact .inl ⟨h4, rfl⟩
  · by_cases h5 : Hg.ofK c = 5
    · rw [if_neg h4, if_pos h5]; exact .inr (.inl ⟨h5, rfl⟩)
    · rw [if_neg h4, if_neg h5]; exact .inr (.inr ⟨h4, h5, rfl⟩)

theorem Sl.cell {w : World} {B : Nat} {A : Option Addr} {xs : List Value} (h : Sl w B A xs) {k : Nat} (hk : k < xs.length) : ∃ b o, A = some ⟨b, o, none⟩ ∧ b < B ∧ w.cell? ⟨b, o + k, none⟩ = xs[k]? := by
  obtain ⟨b, o, hA, hb, hc⟩ := h (by omega)
  exact ⟨b, o, hA, hb, hc k hk⟩

set_option maxRecDepth 100000 in
set_option maxHeartbeats 400000 in
theorem Hg.kinds_syl (c : Int) (w : World) (h1 : -2147483648 ≤ c) (h2 : c ≤ 2147483647) (hk : Hg.ofK c = 4 ∨ Hg.ofK c = 5) :
    Calls Try.prog 4 #[.int .i32 c] w fun e w' => e = .returned (.bool true) ∧ Below w.heap.size w w' := by
  have hp2 : (Hg.pairK c).2.2 = true := by
    rcases hk with h | h
    · rw [Hg.pairK_four c h]
    · rw [Hg.pairK_five c h]
  obtain ⟨hle, hlast⟩ := Hg.pair_last c hp2
  have hj := Hg.pair_join c hp2
  obtain ⟨p1, p2, p3, p4⟩ := Hg.pair_bd c
  obtain ⟨n, hn⟩ : ∃ n, (Hg.splitK c).length = n := ⟨_, rfl⟩
  have hn0 : 2 ≤ n := by omega
  have hlen : (Hg.ofK c = 4 ∧ n = 2) ∨ (Hg.ofK c = 5 ∧ n = 3) := by
    rcases Hg.split_len c with h | h | h
    · exact .inl ⟨h.1, by omega⟩
    · exact .inr ⟨h.1, by omega⟩
    · omega
  rw [hn] at hlast
  have hn3 : n ≤ 3 := by omega
  have hlast' : ((Hg.splitK c).map (Value.int .i32))[n - 1]? = some (.int .i32 (Hg.pairK c).2.1) := by rw [List.getElem?_map, hlast]; rfl
  obtain ⟨x, hx⟩ : ∃ x, (Hg.pairK c).1 = x := ⟨_, rfl⟩
  obtain ⟨y, hy⟩ : ∃ y, (Hg.pairK c).2.1 = y := ⟨_, rfl⟩
  rw [hx, hy] at hj
  rw [hy] at hlast'
  have hpair : Hg.pairK c = (x, y, true) := Prod.ext hx (Prod.ext hy hp2)
  rw [hx] at p1 p2
  rw [hy] at p3 p4
  have e5 : ((n : Int) == 3) = (Hg.ofK c == 5) := by
    rcases hlen with ⟨h, rfl⟩ | ⟨h, rfl⟩ <;> rw [h] <;> decide
  have e4 : ((n : Int) == 2) = (Hg.ofK c == 4) := by
    rcases hlen with ⟨h, rfl⟩ | ⟨h, rfl⟩ <;> rw [h] <;> decide
  clear hlen hlast hx hy hk hp2
  have HL := Lib.hid hlast'
  have HP := Lib.hid hpair
  have HJ := Lib.hid hj
  have HN := Lib.hid hn
  have HE5 := Lib.hid e5
  have HE4 := Lib.hid e4
  clear hlast' hpair hj hn e5 e4 hle
  have SB := Lib.hid (Hg.split_bd c)
  go_enter Try.func4, Try.ntmps4
  go_wp2_with fail
  refine (Hg.awake _).mono ?_
  rintro e w1 ⟨rfl, hbel1⟩
  go_wp2_with (first | (go_at_call 15; refine (Hg.of_any _ _ h1 h2).mono ?_; rintro e w' ⟨rfl, rfl⟩) | (go_at_call 16; refine (Hg.kind_any _ _ h1 h2).mono ?_; rintro e w' ⟨rfl, rfl⟩))
  refine (Hg.split_any _ _ h1 h2).mono ?_
  rintro e w2 ⟨A, cap, rfl, hA, hbel2⟩
  rw [HN.out]
  go_wp2_with fail
  refine (Hg.parts_any _ _ h1 h2).mono ?_
  rintro e w3 ⟨B, capB, rfl, hB, hbel3⟩
  rw [HN.out]
  replace hA := hA.below hbel3 hbel3.size
  have hb03 := (hbel1.trans (hbel2.mono hbel1.size)).trans (hbel3.mono (Nat.le_trans hbel1.size hbel2.size))
  clear hbel1 hbel2 hbel3
  generalize Hg.splitK c = l at *
  obtain ⟨b, o, rfl, hlt, -⟩ := hA.cell (k := 0) (by rw [List.length_map, HN.out]; omega)
  obtain ⟨b', o', rfl, hlt', -⟩ := hB.cell (k := 0) (by rw [List.length_map, HN.out]; omega)
  have e5 := HE5.out
  have e4 := HE4.out
  go_wp2_with (first | (go_at_call 15; refine (Hg.of_any _ _ h1 h2).mono ?_; rintro e w' ⟨rfl, rfl⟩))
  clear e5 e4
  go_loopw [49] (fun i wr => ∃ k : Nat, k ≤ n ∧ i = .int .i64 k ∧ Below w3.heap.size w3 wr) (fun i _ => n - (intOf i).toNat)
  case atStart => exact ⟨0, by omega, rfl, Below.refl _ _⟩
  case round =>
    obtain ⟨k, hk, rfl, hbel⟩ := hrel
    have hsz := hbel.size
    by_cases hkn : (k : Int) < n
    · obtain ⟨q, hq⟩ : ∃ q, l[k]? = some q := ⟨_, List.getElem?_eq_getElem (by rw [HN.out]; omega)⟩
      obtain ⟨q1, q2⟩ := SB.out q (List.mem_of_getElem? hq)
      obtain ⟨_, _, ha1, ha2, ha3⟩ := hA.cell (k := k) (by rw [List.length_map, HN.out]; omega)
      simp only [Option.some.injEq, Addr.mk.injEq, and_true] at ha1
      obtain ⟨rfl, rfl⟩ := ha1
      obtain ⟨_, _, hb1, hb2, hb3⟩ := hB.cell (k := k) (by rw [List.length_map, HN.out]; omega)
      simp only [Option.some.injEq, Addr.mk.injEq, and_true] at hb1
      obtain ⟨rfl, rfl⟩ := hb1
      rw [List.getElem?_map, hq] at ha3 hb3
      have ca := (hbel.cell (p := ⟨b, o + k, none⟩) hlt).trans ha3
      have cb := (hbel.cell (p := ⟨b', o' + k, none⟩) hlt').trans hb3
      simp only [Option.map] at ca cb
      clear ha2 ha3 hb2 hb3 hq
      go_wp2
      go_quiet (fail)
      go_wp2
      exact ⟨⟨k + 1, by omega, by go_num, below_drewN hbel _⟩, by simp [intOf]; omega⟩
    · obtain rfl : k = n := by omega
      go_wp2_with fail
      refine (Hg.pair_any _ _ h1 h2).mono ?_
      rintro e w' ⟨rfl, rfl⟩
      rw [HP.out]
      go_wp2_with fail
      refine (Hg.join_any _ _ _ (by omega) (by omega) (by omega) (by omega)).mono ?_
      rintro e w' ⟨rfl, rfl⟩
      rw [HJ.out]
      obtain ⟨_, _, ha1, ha2, ha3⟩ := hA.cell (k := k - 1) (by rw [List.length_map, HN.out]; omega)
      simp only [Option.some.injEq, Addr.mk.injEq, and_true] at ha1
      obtain ⟨rfl, rfl⟩ := ha1
      have ca := (hbel.cell (p := ⟨b, o + (k - 1), none⟩) hlt).trans (ha3.trans HL.out)
      clear ha2 ha3
      go_wp2
      go_ret
      exact ⟨rfl, hb03.trans (hbel.mono hb03.size)⟩

set_option maxRecDepth 100000 in
set_option maxHeartbeats 400000 in
theorem Hg.kinds_no (c : Int) (w : World) (h1 : -2147483648 ≤ c) (h2 : c ≤ 2147483647) (h4 : ¬ Hg.ofK c = 4) (h5 : ¬ Hg.ofK c = 5) :
    Calls Try.prog 4 #[.int .i32 c] w fun e w' => e = .returned (.bool true) ∧ Below w.heap.size w w' := by
  have hp := Hg.pairK_none c h4 h5
  have hl : Hg.splitK c = [] := by unfold Hg.splitK; rw [if_neg h4, if_neg h5]
  have e4 : (Hg.ofK c == 4) = false := beq_eq_false_iff_ne.2 h4
  have e5 : (Hg.ofK c == 5) = false := beq_eq_false_iff_ne.2 h5
  clear h4 h5
  go_enter Try.func4, Try.ntmps4
  go_wp2_with fail
  refine (Hg.awake _).mono ?_
  rintro e w1 ⟨rfl, hbel1⟩
  go_wp2_with (first | (go_at_call 15; refine (Hg.of_any _ _ h1 h2).mono ?_; rintro e w' ⟨rfl, rfl⟩) | (go_at_call 16; refine (Hg.kind_any _ _ h1 h2).mono ?_; rintro e w' ⟨rfl, rfl⟩))
  refine (Hg.split_any _ _ h1 h2).mono ?_
  rintro e w2 ⟨A, cap, rfl, hA, hbel2⟩
  rw [hl]
  go_wp2_with fail
  refine (Hg.parts_any _ _ h1 h2).mono ?_
  rintro e w3 ⟨B, capB, rfl, hB, hbel3⟩
  rw [hl]
  clear hA hB
  have hb03 := (hbel1.trans (hbel2.mono hbel1.size)).trans (hbel3.mono (Nat.le_trans hbel1.size hbel2.size))
  clear hbel1 hbel2 hbel3
  go_wp2_with (first | (go_at_call 15; refine (Hg.of_any _ _ h1 h2).mono ?_; rintro e w' ⟨rfl, rfl⟩))
  go_loop [49] (fun i => i = .int .i64 0) (fun _ => 0)
  case atStart => rfl
  case round =>
    obtain rfl := hrel
    go_wp2_with fail
    refine (Hg.pair_any _ _ h1 h2).mono ?_
    rintro e w' ⟨rfl, rfl⟩
    rw [hp]
    go_wp2
    go_ret
    exact ⟨rfl, hb03⟩

theorem Hg.kinds_walk (w : World) (c : Int) (h1 : -2147483648 ≤ c) (h2 : c ≤ 2147483647) :
    Calls Try.prog 4 #[.int .i32 c] w fun e w' => e = .returned (.bool true) ∧ Below w.heap.size w w' := by
  by_cases h4 : Hg.ofK c = 4
  · exact Hg.kinds_syl c w h1 h2 (.inl h4)
  · by_cases h5 : Hg.ofK c = 5
    · exact Hg.kinds_syl c w h1 h2 (.inr h5)
    · exact Hg.kinds_no c w h1 h2 h4 h5
end Go.Proofs.Ythikoangkdlebaa
