/- utf.Next: the first character of bytes, by walking its text. -/
import Derived.Test.YtgfkcbckddpbaaaDoorUtf
namespace Go.Proofs.YtgfkcbckddpbaaaDoor
open Go.RowKit
set_option linter.unusedSimpArgs false
set_option linter.unusedVariables false

theorem U.bv_get (s : ByteArray) (k : Nat) (h : k < s.size) : ((s[k].toNat : Nat) : Int) = U.bv s.data.toList k := by
  have h' : k < s.data.toList.length := by simpa using h
  have : s.data.toList.getD k 0 = s[k] := by
    rw [List.getD_eq_getElem?_getD, List.getElem?_eq_getElem h']
    rfl
  unfold U.bv
  rw [this]

theorem ba_list (s : ByteArray) : s.toList = s.data.toList := ByteArray.toList_eq s

theorem ba_nonempty (s : ByteArray) (h : 0 < s.size) : s.toList.isEmpty = false := by
  rw [ba_list]
  rcases hl : s.data.toList with _ | ⟨a, t⟩
  · have : s.data.toList.length = s.size := by simp
    rw [hl] at this
    simp at this
    omega
  · rfl

def U.next3 (l : List UInt8) : Int × Nat × Bool := match U.nextK l with | some (c, n) => (c, n, true) | none => (0, 0, false)

theorem U.acc_bd (l : List UInt8) (n : Nat) (hn : U.sizeK (U.bv l 0) = n) (h0 : 1 ≤ n) (i : Nat) (hi : i < n) (ht : ∀ j, j ≤ i → 1 ≤ j → 128 ≤ U.bv l j ∧ U.bv l j < 192) :
    0 ≤ U.accK l n i ∧ U.accK l n i ≤ 2097151 ∧ (i + 1 < n → U.accK l n i < 32768) := by
  have hb := U.bv_lt l 0
  have hb1 : 1 ≤ i → _ := ht 1
  have hb2 : 2 ≤ i → _ := fun h => ht 2 h (by omega)
  have hb3 : 3 ≤ i → _ := fun h => ht 3 h (by omega)
  have hn4 : n = 1 ∨ n = 2 ∨ n = 3 ∨ n = 4 := by unfold U.sizeK at hn; grind
  have hi4 : i = 0 ∨ i = 1 ∨ i = 2 ∨ i = 3 := by omega
  unfold U.sizeK at hn
  rcases hn4 with rfl | rfl | rfl | rfl <;> rcases hi4 with rfl | rfl | rfl | rfl <;> simp only [U.accK, U.headK] <;> first | omega | grind

theorem U.low_dec : ∀ n : Fin 256, ((n.val : Nat) : Int) < 128 → bits BinOp.and IntKind.u8 ((n.val : Nat) : Int) 127 = ((n.val : Nat) : Int) := by decide +kernel
theorem U.low_and (b : Int) (h1 : 0 ≤ b) (h2 : b < 128) : bits BinOp.and IntKind.u8 b 127 = b := by
  obtain ⟨n, rfl⟩ := Int.eq_ofNat_of_zero_le h1
  exact U.low_dec ⟨n, by omega⟩ h2

theorem U.tail_dec : ∀ n : Fin 256, (bits BinOp.andNot IntKind.u8 ((n.val : Nat) : Int) 63 = 128) ↔ (128 ≤ ((n.val : Nat) : Int) ∧ ((n.val : Nat) : Int) < 192) := by decide +kernel
theorem U.tail_iff (b : Int) (h1 : 0 ≤ b) (h2 : b < 256) : (bits BinOp.andNot IntKind.u8 b 63 != 128) = !decide (128 ≤ b ∧ b < 192) := by
  obtain ⟨n, rfl⟩ := Int.eq_ofNat_of_zero_le h1
  have := U.tail_dec ⟨n, by omega⟩
  rw [bne]
  congr 1
  rw [Bool.eq_iff_iff, beq_iff_eq, decide_eq_true_eq]
  exact this

theorem U.next3_small (l : List UInt8) (h : U.sizeK (U.bv l 0) = 0 ∨ l.length < U.sizeK (U.bv l 0)) : U.next3 l = (0, 0, false) := by
  have : U.nextK l = none := by
    unfold U.nextK
    by_cases hl : l = []
    · rw [if_pos hl]
    · rw [if_neg hl, if_pos h]
  unfold U.next3; rw [this]
theorem U.next3_empty : U.next3 [] = (0, 0, false) := rfl
theorem U.next3_tail (l : List UInt8) (n : Nat) (hn : U.sizeK (U.bv l 0) = n) (j : Nat) (h1 : j < n) (h2 : 1 ≤ j) (h : ¬ (128 ≤ U.bv l j ∧ U.bv l j < 192)) : U.next3 l = (0, 0, false) := by
  have : U.nextK l = none := by
    unfold U.nextK
    rw [hn]
    split
    · rfl
    · split
      · rfl
      · rw [if_neg (fun hh => h (hh.1 j h1 h2))]
  unfold U.next3; rw [this]
theorem U.next3_width (l : List UInt8) (n : Nat) (hn : U.sizeK (U.bv l 0) = n) (h : ¬ U.width (U.accK l n (n - 1)) = n) : U.next3 l = (0, 0, false) := by
  have : U.nextK l = none := by
    unfold U.nextK
    rw [hn]
    split
    · rfl
    · split
      · rfl
      · rw [if_neg (fun hh => h hh.2)]
  unfold U.next3; rw [this]
theorem U.next3_yes (l : List UInt8) (n : Nat) (h0 : 1 ≤ n) (hl : n ≤ l.length) (hn : U.sizeK (U.bv l 0) = n) (ht : ∀ j, j ≤ n - 1 → 1 ≤ j → 128 ≤ U.bv l j ∧ U.bv l j < 192) (h : U.width (U.accK l n (n - 1)) = n) :
    U.next3 l = (U.accK l n (n - 1), n, true) := by
  have : U.nextK l = some (U.accK l n (n - 1), n) := by
    unfold U.nextK
    rw [hn]
    rw [if_neg (by rintro rfl; simp at hl; omega), if_neg (by omega), if_pos ⟨fun j h1 h2 => ht j (by omega) h2, h⟩]
  unfold U.next3; rw [this]

set_option maxRecDepth 100000 in
set_option maxHeartbeats 400000 in
theorem U.next_1 (s : ByteArray) (w : World) (hs : s.size ≤ maxLen) (h1 : 1 ≤ s.size) (hn : U.sizeK (U.bv s.data.toList 0) = 1) (hH : Heads w) :
    Calls Tryd.prog 25 #[.string s] w fun e w' => e = .returned (.tuple #[.int .i32 (U.next3 s.data.toList).1, .int .i64 (U.next3 s.data.toList).2.1, .bool (U.next3 s.data.toList).2.2]) ∧ Below w.heap.size w w' := by
  have hm := hH.cell (3 * 1 - 2)
  have hlen : 0 < s.size := by omega
  have hb0 := U.bv_get s 0 hlen
  have hne := ba_nonempty s hlen
  obtain ⟨q1, q2⟩ := U.bv_lt s.data.toList 0
  have BD := Lib.hid (U.acc_bd s.data.toList 1 hn (by omega))
  have NT := Lib.hid (U.next3_tail s.data.toList 1 hn)
  have NW := Lib.hid (U.next3_width s.data.toList 1 hn)
  have NY := Lib.hid (U.next3_yes s.data.toList 1 (by omega) (by simpa using h1) hn)
  have hlow := U.low_and (U.bv s.data.toList 0) q1 (by unfold U.sizeK at hn; grind)
  have hbn : U.accK s.data.toList 1 0 = U.bv s.data.toList 0 := by
    unfold U.sizeK at hn
    simp only [U.accK, U.headK]
    omega
  have HN := Lib.hid hn
  clear hn
  unfold maxLen at hs
  simp [U.row] at hm
  have HB := Lib.hid hbn
  clear hbn
  go_enter Tryd.func25, Tryd.ntmps25
  go_wp2_with fail
  refine (U.size_any _ _ q1 q2 hH).mono ?_
  rintro e w1 ⟨rfl, hbel⟩
  rw [HN.out]
  replace hm := (hbel.cell (p := ⟨0, _, none⟩) hH.lt).trans hm
  go_wp2
  go_quiet (fail)
  go_wp2
  rw [← HB.out]
  have hH1 : Heads (w1.drewN nq) := hH.next (below_drewN hbel _)
  have hbel1 := below_drewN hbel nq
  clear hm
  generalize w1.drewN nq = w2 at *
  clear hbel
  go_loop [7, 6] (fun i c => ∃ k : Nat, 1 ≤ k ∧ k ≤ 1 ∧ i = .int .i64 k ∧ c = .int .i32 (U.accK s.data.toList 1 (k - 1)) ∧ ∀ j, j ≤ k - 1 → 1 ≤ j → 128 ≤ U.bv s.data.toList j ∧ U.bv s.data.toList j < 192) (fun i _ => 5 - (intOf i).toNat)
  case atStart => exact ⟨1, by omega, by omega, rfl, rfl, fun j h1 h2 => by omega⟩
  case round =>
    obtain ⟨k, hk1, hk2, rfl, rfl, ht⟩ := hrel
    obtain ⟨b1, b2, b3⟩ := BD.out (k - 1) (by omega) ht
    have HT := Lib.hid ht
    clear ht
    by_cases hkn : (k : Int) < 1
    · exact absurd hkn (by omega)
    · obtain rfl : k = 1 := by omega
      clear b3
      by_cases hw : U.width (U.accK s.data.toList 1 (1 - 1)) = 1
      · have hy := NY.out HT.out hw
        have HY := Lib.hid hy
        have HW := Lib.hid hw
        clear hy hw
        go_wp2_with fail
        refine (U.width_any _ _ (Int.le_trans (by decide) b1) (Int.le_trans b2 (by decide)) hH1).mono ?_
        rintro e w' ⟨rfl, rfl⟩
        rw [HW.out]
        go_wp2
        go_ret3
        rw [HY.out]
        exact ⟨rfl, hbel1⟩
      · have hy := NW.out hw
        have HY := Lib.hid hy
        have hwi : (((U.width (U.accK s.data.toList 1 (1 - 1)) : Nat) : Int) != 1) = true := by rw [bne_iff_ne]; omega
        clear hy hw
        go_wp2_with fail
        refine (U.width_any _ _ (Int.le_trans (by decide) b1) (Int.le_trans b2 (by decide)) hH1).mono ?_
        rintro e w' ⟨rfl, rfl⟩
        go_wp2
        go_ret3
        rw [HY.out]
        exact ⟨rfl, hbel1⟩

set_option maxRecDepth 100000 in
set_option maxHeartbeats 400000 in
theorem U.next_2 (s : ByteArray) (w : World) (hs : s.size ≤ maxLen) (h1 : 2 ≤ s.size) (hn : U.sizeK (U.bv s.data.toList 0) = 2) (hH : Heads w) :
    Calls Tryd.prog 25 #[.string s] w fun e w' => e = .returned (.tuple #[.int .i32 (U.next3 s.data.toList).1, .int .i64 (U.next3 s.data.toList).2.1, .bool (U.next3 s.data.toList).2.2]) ∧ Below w.heap.size w w' := by
  have hm := hH.cell (3 * 2 - 2)
  have hlen : 0 < s.size := by omega
  have hb0 := U.bv_get s 0 hlen
  have hne := ba_nonempty s hlen
  obtain ⟨q1, q2⟩ := U.bv_lt s.data.toList 0
  have BD := Lib.hid (U.acc_bd s.data.toList 2 hn (by omega))
  have NT := Lib.hid (U.next3_tail s.data.toList 2 hn)
  have NW := Lib.hid (U.next3_width s.data.toList 2 hn)
  have NY := Lib.hid (U.next3_yes s.data.toList 2 (by omega) (by simpa using h1) hn)
  have hbn : U.accK s.data.toList 2 0 = U.bv s.data.toList 0 % 32 := by
    unfold U.sizeK at hn
    simp only [U.accK, U.headK]
    grind
  have HN := Lib.hid hn
  clear hn
  unfold maxLen at hs
  simp [U.row] at hm
  have HB := Lib.hid hbn
  clear hbn
  go_enter Tryd.func25, Tryd.ntmps25
  go_wp2_with fail
  refine (U.size_any _ _ q1 q2 hH).mono ?_
  rintro e w1 ⟨rfl, hbel⟩
  rw [HN.out]
  replace hm := (hbel.cell (p := ⟨0, _, none⟩) hH.lt).trans hm
  go_wp2
  go_quiet (fail)
  go_wp2
  rw [← HB.out]
  have hH1 : Heads (w1.drewN nq) := hH.next (below_drewN hbel _)
  have hbel1 := below_drewN hbel nq
  clear hm
  generalize w1.drewN nq = w2 at *
  clear hbel
  go_loop [7, 6] (fun i c => ∃ k : Nat, 1 ≤ k ∧ k ≤ 2 ∧ i = .int .i64 k ∧ c = .int .i32 (U.accK s.data.toList 2 (k - 1)) ∧ ∀ j, j ≤ k - 1 → 1 ≤ j → 128 ≤ U.bv s.data.toList j ∧ U.bv s.data.toList j < 192) (fun i _ => 5 - (intOf i).toNat)
  case atStart => exact ⟨1, by omega, by omega, rfl, rfl, fun j h1 h2 => by omega⟩
  case round =>
    obtain ⟨k, hk1, hk2, rfl, rfl, ht⟩ := hrel
    obtain ⟨b1, b2, b3⟩ := BD.out (k - 1) (by omega) ht
    have HT := Lib.hid ht
    clear ht
    by_cases hkn : (k : Int) < 2
    · have b4 := b3 (by omega)
      have hks : k < s.size := by omega
      have hbk := U.bv_get s k hks
      obtain ⟨z1, z2⟩ := U.bv_lt s.data.toList k
      have hti := U.tail_iff _ z1 z2
      clear b3
      by_cases hta : 128 ≤ U.bv s.data.toList k ∧ U.bv s.data.toList k < 192
      · rw [decide_eq_true hta] at hti
        obtain ⟨z3, z4⟩ := hta
        go_wp2
        refine ⟨⟨k + 1, by omega, by omega, by go_num, ?_, ?_⟩, by simp [intOf]; omega⟩
        · obtain ⟨k', rfl⟩ : ∃ k', k = k' + 1 := ⟨k - 1, by omega⟩
          have e : U.accK s.data.toList 2 (k' + 1 + 1 - 1) = U.accK s.data.toList 2 k' * 64 + (U.bv s.data.toList (k' + 1) - 128) := rfl
          rw [e, show U.bv s.data.toList (k' + 1) % 64 = U.bv s.data.toList (k' + 1) - 128 from by omega]
          rfl
        · intro j hj1 hj2
          by_cases hjk : j = k
          · subst hjk; exact ⟨z3, z4⟩
          · exact HT.out j (by omega) hj2
      · rw [decide_eq_false hta] at hti
        have hy := NT.out k (by omega) hk1 hta
        have HY := Lib.hid hy
        clear hy hta
        go_wp2
        go_ret3
        rw [HY.out]
        exact ⟨rfl, hbel1⟩
    · obtain rfl : k = 2 := by omega
      clear b3
      by_cases hw : U.width (U.accK s.data.toList 2 (2 - 1)) = 2
      · have hy := NY.out HT.out hw
        have HY := Lib.hid hy
        have HW := Lib.hid hw
        clear hy hw
        go_wp2_with fail
        refine (U.width_any _ _ (Int.le_trans (by decide) b1) (Int.le_trans b2 (by decide)) hH1).mono ?_
        rintro e w' ⟨rfl, rfl⟩
        rw [HW.out]
        go_wp2
        go_ret3
        rw [HY.out]
        exact ⟨rfl, hbel1⟩
      · have hy := NW.out hw
        have HY := Lib.hid hy
        have hwi : (((U.width (U.accK s.data.toList 2 (2 - 1)) : Nat) : Int) != 2) = true := by rw [bne_iff_ne]; omega
        clear hy hw
        go_wp2_with fail
        refine (U.width_any _ _ (Int.le_trans (by decide) b1) (Int.le_trans b2 (by decide)) hH1).mono ?_
        rintro e w' ⟨rfl, rfl⟩
        go_wp2
        go_ret3
        rw [HY.out]
        exact ⟨rfl, hbel1⟩

set_option maxRecDepth 100000 in
set_option maxHeartbeats 400000 in
theorem U.next_3 (s : ByteArray) (w : World) (hs : s.size ≤ maxLen) (h1 : 3 ≤ s.size) (hn : U.sizeK (U.bv s.data.toList 0) = 3) (hH : Heads w) :
    Calls Tryd.prog 25 #[.string s] w fun e w' => e = .returned (.tuple #[.int .i32 (U.next3 s.data.toList).1, .int .i64 (U.next3 s.data.toList).2.1, .bool (U.next3 s.data.toList).2.2]) ∧ Below w.heap.size w w' := by
  have hm := hH.cell (3 * 3 - 2)
  have hlen : 0 < s.size := by omega
  have hb0 := U.bv_get s 0 hlen
  have hne := ba_nonempty s hlen
  obtain ⟨q1, q2⟩ := U.bv_lt s.data.toList 0
  have BD := Lib.hid (U.acc_bd s.data.toList 3 hn (by omega))
  have NT := Lib.hid (U.next3_tail s.data.toList 3 hn)
  have NW := Lib.hid (U.next3_width s.data.toList 3 hn)
  have NY := Lib.hid (U.next3_yes s.data.toList 3 (by omega) (by simpa using h1) hn)
  have hbn : U.accK s.data.toList 3 0 = U.bv s.data.toList 0 % 16 := by
    unfold U.sizeK at hn
    simp only [U.accK, U.headK]
    grind
  have HN := Lib.hid hn
  clear hn
  unfold maxLen at hs
  simp [U.row] at hm
  have HB := Lib.hid hbn
  clear hbn
  go_enter Tryd.func25, Tryd.ntmps25
  go_wp2_with fail
  refine (U.size_any _ _ q1 q2 hH).mono ?_
  rintro e w1 ⟨rfl, hbel⟩
  rw [HN.out]
  replace hm := (hbel.cell (p := ⟨0, _, none⟩) hH.lt).trans hm
  go_wp2
  go_quiet (fail)
  go_wp2
  rw [← HB.out]
  have hH1 : Heads (w1.drewN nq) := hH.next (below_drewN hbel _)
  have hbel1 := below_drewN hbel nq
  clear hm
  generalize w1.drewN nq = w2 at *
  clear hbel
  go_loop [7, 6] (fun i c => ∃ k : Nat, 1 ≤ k ∧ k ≤ 3 ∧ i = .int .i64 k ∧ c = .int .i32 (U.accK s.data.toList 3 (k - 1)) ∧ ∀ j, j ≤ k - 1 → 1 ≤ j → 128 ≤ U.bv s.data.toList j ∧ U.bv s.data.toList j < 192) (fun i _ => 5 - (intOf i).toNat)
  case atStart => exact ⟨1, by omega, by omega, rfl, rfl, fun j h1 h2 => by omega⟩
  case round =>
    obtain ⟨k, hk1, hk2, rfl, rfl, ht⟩ := hrel
    obtain ⟨b1, b2, b3⟩ := BD.out (k - 1) (by omega) ht
    have HT := Lib.hid ht
    clear ht
    by_cases hkn : (k : Int) < 3
    · have b4 := b3 (by omega)
      have hks : k < s.size := by omega
      have hbk := U.bv_get s k hks
      obtain ⟨z1, z2⟩ := U.bv_lt s.data.toList k
      have hti := U.tail_iff _ z1 z2
      clear b3
      by_cases hta : 128 ≤ U.bv s.data.toList k ∧ U.bv s.data.toList k < 192
      · rw [decide_eq_true hta] at hti
        obtain ⟨z3, z4⟩ := hta
        go_wp2
        refine ⟨⟨k + 1, by omega, by omega, by go_num, ?_, ?_⟩, by simp [intOf]; omega⟩
        · obtain ⟨k', rfl⟩ : ∃ k', k = k' + 1 := ⟨k - 1, by omega⟩
          have e : U.accK s.data.toList 3 (k' + 1 + 1 - 1) = U.accK s.data.toList 3 k' * 64 + (U.bv s.data.toList (k' + 1) - 128) := rfl
          rw [e, show U.bv s.data.toList (k' + 1) % 64 = U.bv s.data.toList (k' + 1) - 128 from by omega]
          rfl
        · intro j hj1 hj2
          by_cases hjk : j = k
          · subst hjk; exact ⟨z3, z4⟩
          · exact HT.out j (by omega) hj2
      · rw [decide_eq_false hta] at hti
        have hy := NT.out k (by omega) hk1 hta
        have HY := Lib.hid hy
        clear hy hta
        go_wp2
        go_ret3
        rw [HY.out]
        exact ⟨rfl, hbel1⟩
    · obtain rfl : k = 3 := by omega
      clear b3
      by_cases hw : U.width (U.accK s.data.toList 3 (3 - 1)) = 3
      · have hy := NY.out HT.out hw
        have HY := Lib.hid hy
        have HW := Lib.hid hw
        clear hy hw
        go_wp2_with fail
        refine (U.width_any _ _ (Int.le_trans (by decide) b1) (Int.le_trans b2 (by decide)) hH1).mono ?_
        rintro e w' ⟨rfl, rfl⟩
        rw [HW.out]
        go_wp2
        go_ret3
        rw [HY.out]
        exact ⟨rfl, hbel1⟩
      · have hy := NW.out hw
        have HY := Lib.hid hy
        have hwi : (((U.width (U.accK s.data.toList 3 (3 - 1)) : Nat) : Int) != 3) = true := by rw [bne_iff_ne]; omega
        clear hy hw
        go_wp2_with fail
        refine (U.width_any _ _ (Int.le_trans (by decide) b1) (Int.le_trans b2 (by decide)) hH1).mono ?_
        rintro e w' ⟨rfl, rfl⟩
        go_wp2
        go_ret3
        rw [HY.out]
        exact ⟨rfl, hbel1⟩

set_option maxRecDepth 100000 in
set_option maxHeartbeats 400000 in
theorem U.next_4 (s : ByteArray) (w : World) (hs : s.size ≤ maxLen) (h1 : 4 ≤ s.size) (hn : U.sizeK (U.bv s.data.toList 0) = 4) (hH : Heads w) :
    Calls Tryd.prog 25 #[.string s] w fun e w' => e = .returned (.tuple #[.int .i32 (U.next3 s.data.toList).1, .int .i64 (U.next3 s.data.toList).2.1, .bool (U.next3 s.data.toList).2.2]) ∧ Below w.heap.size w w' := by
  have hm := hH.cell (3 * 4 - 2)
  have hlen : 0 < s.size := by omega
  have hb0 := U.bv_get s 0 hlen
  have hne := ba_nonempty s hlen
  obtain ⟨q1, q2⟩ := U.bv_lt s.data.toList 0
  have BD := Lib.hid (U.acc_bd s.data.toList 4 hn (by omega))
  have NT := Lib.hid (U.next3_tail s.data.toList 4 hn)
  have NW := Lib.hid (U.next3_width s.data.toList 4 hn)
  have NY := Lib.hid (U.next3_yes s.data.toList 4 (by omega) (by simpa using h1) hn)
  have hbn : U.accK s.data.toList 4 0 = U.bv s.data.toList 0 % 8 := by
    unfold U.sizeK at hn
    simp only [U.accK, U.headK]
    grind
  have HN := Lib.hid hn
  clear hn
  unfold maxLen at hs
  simp [U.row] at hm
  have HB := Lib.hid hbn
  clear hbn
  go_enter Tryd.func25, Tryd.ntmps25
  go_wp2_with fail
  refine (U.size_any _ _ q1 q2 hH).mono ?_
  rintro e w1 ⟨rfl, hbel⟩
  rw [HN.out]
  replace hm := (hbel.cell (p := ⟨0, _, none⟩) hH.lt).trans hm
  go_wp2
  go_quiet (fail)
  go_wp2
  rw [← HB.out]
  have hH1 : Heads (w1.drewN nq) := hH.next (below_drewN hbel _)
  have hbel1 := below_drewN hbel nq
  clear hm
  generalize w1.drewN nq = w2 at *
  clear hbel
  go_loop [7, 6] (fun i c => ∃ k : Nat, 1 ≤ k ∧ k ≤ 4 ∧ i = .int .i64 k ∧ c = .int .i32 (U.accK s.data.toList 4 (k - 1)) ∧ ∀ j, j ≤ k - 1 → 1 ≤ j → 128 ≤ U.bv s.data.toList j ∧ U.bv s.data.toList j < 192) (fun i _ => 5 - (intOf i).toNat)
  case atStart => exact ⟨1, by omega, by omega, rfl, rfl, fun j h1 h2 => by omega⟩
  case round =>
    obtain ⟨k, hk1, hk2, rfl, rfl, ht⟩ := hrel
    obtain ⟨b1, b2, b3⟩ := BD.out (k - 1) (by omega) ht
    have HT := Lib.hid ht
    clear ht
    by_cases hkn : (k : Int) < 4
    · have b4 := b3 (by omega)
      have hks : k < s.size := by omega
      have hbk := U.bv_get s k hks
      obtain ⟨z1, z2⟩ := U.bv_lt s.data.toList k
      have hti := U.tail_iff _ z1 z2
      clear b3
      by_cases hta : 128 ≤ U.bv s.data.toList k ∧ U.bv s.data.toList k < 192
      · rw [decide_eq_true hta] at hti
        obtain ⟨z3, z4⟩ := hta
        go_wp2
        refine ⟨⟨k + 1, by omega, by omega, by go_num, ?_, ?_⟩, by simp [intOf]; omega⟩
        · obtain ⟨k', rfl⟩ : ∃ k', k = k' + 1 := ⟨k - 1, by omega⟩
          have e : U.accK s.data.toList 4 (k' + 1 + 1 - 1) = U.accK s.data.toList 4 k' * 64 + (U.bv s.data.toList (k' + 1) - 128) := rfl
          rw [e, show U.bv s.data.toList (k' + 1) % 64 = U.bv s.data.toList (k' + 1) - 128 from by omega]
          rfl
        · intro j hj1 hj2
          by_cases hjk : j = k
          · subst hjk; exact ⟨z3, z4⟩
          · exact HT.out j (by omega) hj2
      · rw [decide_eq_false hta] at hti
        have hy := NT.out k (by omega) hk1 hta
        have HY := Lib.hid hy
        clear hy hta
        go_wp2
        go_ret3
        rw [HY.out]
        exact ⟨rfl, hbel1⟩
    · obtain rfl : k = 4 := by omega
      clear b3
      by_cases hw : U.width (U.accK s.data.toList 4 (4 - 1)) = 4
      · have hy := NY.out HT.out hw
        have HY := Lib.hid hy
        have HW := Lib.hid hw
        clear hy hw
        go_wp2_with fail
        refine (U.width_any _ _ (Int.le_trans (by decide) b1) (Int.le_trans b2 (by decide)) hH1).mono ?_
        rintro e w' ⟨rfl, rfl⟩
        rw [HW.out]
        go_wp2
        go_ret3
        rw [HY.out]
        exact ⟨rfl, hbel1⟩
      · have hy := NW.out hw
        have HY := Lib.hid hy
        have hwi : (((U.width (U.accK s.data.toList 4 (4 - 1)) : Nat) : Int) != 4) = true := by rw [bne_iff_ne]; omega
        clear hy hw
        go_wp2_with fail
        refine (U.width_any _ _ (Int.le_trans (by decide) b1) (Int.le_trans b2 (by decide)) hH1).mono ?_
        rintro e w' ⟨rfl, rfl⟩
        go_wp2
        go_ret3
        rw [HY.out]
        exact ⟨rfl, hbel1⟩

set_option maxRecDepth 100000 in
set_option maxHeartbeats 400000 in
theorem U.next_any (s : ByteArray) (w : World) (hs : s.size ≤ maxLen) (hH : Heads w) :
    Calls Tryd.prog 25 #[.string s] w fun e w' => e = .returned (.tuple #[.int .i32 (U.next3 s.data.toList).1, .int .i64 (U.next3 s.data.toList).2.1, .bool (U.next3 s.data.toList).2.2]) ∧ Below w.heap.size w w' := by
  by_cases h0 : s.size = 0
  · have hl : s.data.toList = [] := List.eq_nil_of_length_eq_zero (by simpa using h0)
    have he : s.toList.isEmpty = true := by rw [ba_list, hl]; rfl
    rw [hl, U.next3_empty]
    clear hl h0
    go_enter Tryd.func25, Tryd.ntmps25
    go_wp2
    go_ret3
    exact ⟨rfl, Below.refl _ _⟩
  · have hlen : 0 < s.size := by omega
    have hn4 : U.sizeK (U.bv s.data.toList 0) ≤ 4 := by unfold U.sizeK; grind
    by_cases hsm : U.sizeK (U.bv s.data.toList 0) = 0 ∨ s.size < U.sizeK (U.bv s.data.toList 0)
    · have hy := U.next3_small s.data.toList (by simpa using hsm)
      have HY := Lib.hid hy
      have hb0 := U.bv_get s 0 hlen
      have hne := ba_nonempty s hlen
      obtain ⟨q1, q2⟩ := U.bv_lt s.data.toList 0
      clear hy
      unfold maxLen at hs
      obtain ⟨n, hn⟩ : ∃ n, U.sizeK (U.bv s.data.toList 0) = n := ⟨_, rfl⟩
      rw [hn] at hn4 hsm
      have HN := Lib.hid hn
      clear hn h0
      by_cases hz : n = 0
      · subst hz
        clear hsm
        go_enter Tryd.func25, Tryd.ntmps25
        go_wp2_with fail
        refine (U.size_any _ _ q1 q2 hH).mono ?_
        rintro e w1 ⟨rfl, hbel⟩
        rw [HN.out]
        go_wp2
        go_ret3
        rw [HY.out]
        exact ⟨rfl, hbel⟩
      · have hz' : ((n : Int) == 0) = false := by simp; omega
        have hs' : (s.size : Int) < (n : Int) := by omega
        clear hsm hz
        go_enter Tryd.func25, Tryd.ntmps25
        go_wp2_with fail
        refine (U.size_any _ _ q1 q2 hH).mono ?_
        rintro e w1 ⟨rfl, hbel⟩
        rw [HN.out]
        go_wp2
        go_ret3
        rw [HY.out]
        exact ⟨rfl, hbel⟩
    · have hc : U.sizeK (U.bv s.data.toList 0) = 1 ∨ U.sizeK (U.bv s.data.toList 0) = 2 ∨ U.sizeK (U.bv s.data.toList 0) = 3 ∨ U.sizeK (U.bv s.data.toList 0) = 4 := by omega
      rcases hc with h | h | h | h
      · exact U.next_1 s w hs (by omega) h hH
      · exact U.next_2 s w hs (by omega) h hH
      · exact U.next_3 s w hs (by omega) h hH
      · exact U.next_4 s w hs (by omega) h hH
end Go.Proofs.YtgfkcbckddpbaaaDoor
