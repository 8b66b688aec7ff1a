/- The reference's functions on bytes: Is, number, Bytes, First. -/
import Derived.Test.YthikoangkdlebaaDoorUtfNext
import Derived.Deep.RegionHeld3
namespace Go.Proofs.YthikoangkdlebaaDoor
open Go.RowKit
set_option linter.unusedSimpArgs false
set_option linter.unusedVariables false

set_option maxRecDepth 100000 in
set_option maxHeartbeats 400000 in
theorem U.ris_any (c : Int) (w : World) :
    Calls Tryd.prog 21 #[.int .i64 c] w fun e w' => e = .returned (.bool (U.isC c)) ∧ w = w' := by
  have hd : ∀ x : Bool, (x = true ↔ (0 ≤ c ∧ c ≤ 1114111 ∧ (c < 55296 ∨ 57343 < c))) → U.isC c = x := by
    intro x hx
    rw [Bool.eq_iff_iff, U.isC_iff, hx]
  have HD := Lib.hid hd
  clear hd
  go_enter Tryd.func21, Tryd.ntmps21
  go_wp2
  all_goals
    go_ret
    refine ⟨ret_bool (HD.out _ ?_).symm, rfl⟩
    simp
    try omega

theorem U.num_bd (l : List UInt8) (n i : Nat) (hi : i ≤ 3) : -100000000 ≤ U.accK l n i ∧ U.accK l n i ≤ 100000000 := by
  have h0 := U.bv_lt l 0
  have h1 := U.bv_lt l 1
  have h2 := U.bv_lt l 2
  have h3 := U.bv_lt l 3
  have hh : 0 ≤ U.headK n ∧ U.headK n ≤ 240 := by unfold U.headK; split <;> omega
  have hi4 : i = 0 ∨ i = 1 ∨ i = 2 ∨ i = 3 := by omega
  rcases hi4 with rfl | rfl | rfl | rfl <;> simp only [U.accK, Nat.zero_add, Nat.reduceAdd] <;> omega

set_option maxRecDepth 100000 in
set_option maxHeartbeats 400000 in
theorem U.number_any (s : ByteArray) (w : World) (h1 : 1 ≤ s.size) (h2 : s.size ≤ 4) :
    Calls Tryd.prog 27 #[.string s] w fun e w' => e = .returned (.int .i64 (U.accK s.data.toList s.size (s.size - 1))) ∧ w = w' := by
  have hb0 := U.bv_get s 0 (by omega)
  obtain ⟨q1, q2⟩ := U.bv_lt s.data.toList 0
  have BD := Lib.hid (U.num_bd s.data.toList s.size)
  obtain ⟨n, hn⟩ : ∃ n, s.size = n := ⟨_, rfl⟩
  have hlen : 0 < s.size := by omega
  have hn4 : n = 1 ∨ n = 2 ∨ n = 3 ∨ n = 4 := by omega
  have ha : U.accK s.data.toList n 0 = U.bv s.data.toList 0 - U.headK n := rfl
  rcases hn4 with rfl | rfl | rfl | rfl
  all_goals
    simp only [U.headK] at ha
    have HA := Lib.hid ha
    clear ha
    go_enter Tryd.func27, Tryd.ntmps27
    go_wp2
    go_loop [4, 3] (fun i c => ∃ k : Nat, 1 ≤ k ∧ k ≤ s.size ∧ i = .int .i64 k ∧ c = .int .i64 (U.accK s.data.toList s.size (k - 1))) (fun i _ => 5 - (intOf i).toNat)
    case atStart => exact ⟨1, by omega, by omega, rfl, by rw [hn]; exact congrArg _ (by first | exact HA.out.symm | exact HA.out.symm.trans (by omega) | (have := HA.out; omega))⟩
    case round =>
      obtain ⟨k, hk1, hk2, rfl, rfl⟩ := hrel
      by_cases hkn : (k : Int) < s.size
      · have hks : k < s.size := by omega
        have hbk := U.bv_get s k hks
        obtain ⟨z1, z2⟩ := U.bv_lt s.data.toList k
        have b12 := BD.out (k - 1) (by omega)
        obtain ⟨b1, b2⟩ := b12
        have HN := Lib.hid hn
        clear hn
        go_wp2
        refine ⟨⟨k + 1, by omega, by omega, by go_num, ?_⟩, by simp [intOf]; omega⟩
        obtain ⟨k', rfl⟩ : ∃ k', k = k' + 1 := ⟨k - 1, by omega⟩
        have e : U.accK s.data.toList s.size (k' + 1 + 1 - 1) = U.accK s.data.toList s.size k' * 64 + (U.bv s.data.toList (k' + 1) - 128) := rfl
        rw [e]
        exact congrArg _ (by simp only [Nat.add_sub_cancel]; omega)
      · obtain rfl : k = s.size := by omega
        go_wp2
        go_ret
        exact ⟨rfl, rfl⟩

theorem U.enc1 (c : Int) (h : c < 128) : strOfNums [c] = ⟨(U.enc c).toArray⟩ := by unfold U.enc; rw [if_pos h]; rfl
theorem U.enc2 (c : Int) (h : ¬ c < 128) (h' : c < 2048) : strOfNums [192 + c / 64, 128 + c % 64] = ⟨(U.enc c).toArray⟩ := by unfold U.enc; rw [if_neg h, if_pos h']; rfl
theorem U.enc3 (c : Int) (h : ¬ c < 128) (h' : ¬ c < 2048) (h'' : c < 65536) : strOfNums [224 + c / 4096, 128 + c / 64 % 64, 128 + c % 64] = ⟨(U.enc c).toArray⟩ := by unfold U.enc; rw [if_neg h, if_neg h', if_pos h'']; rfl
theorem U.enc4 (c : Int) (h : ¬ c < 128) (h' : ¬ c < 2048) (h'' : ¬ c < 65536) : strOfNums [240 + c / 262144, 128 + c / 4096 % 64, 128 + c / 64 % 64, 128 + c % 64] = ⟨(U.enc c).toArray⟩ := by unfold U.enc; rw [if_neg h, if_neg h', if_neg h'']; rfl

/-- 'string([]byte{..})' of a slice laid just now. -/
theorem conv_lit (w : World) (xs : List Int) (n : Nat) (hn : xs.length = n) :
    (convert 58 9 (.slice (some ⟨w.heap.size, 0, none⟩) n n)).run Tryd.prog (w.alloc (.cells (xs.map (Value.int .u8)).toArray 5)) = .ok (.string (strOfNums xs)) (w.alloc (.cells (xs.map (Value.int .u8)).toArray 5)) := by
  refine run_convert_bytes_arg _ _ 5 Tryd.underlying58 Tryd.underlying5 _ 0 n n xs hn (fun i hi => ?_) _ Tryd.underlying9
  have hb : (w.alloc (.cells (xs.map (Value.int .u8)).toArray 5)).heap[w.heap.size]? = some (.cells (xs.map (Value.int .u8)).toArray 5 (0, 0)) := heap_alloc_new _ _
  simp only [World.cell?, hb]
  have : i < xs.length := by omega
  simp [this, List.getD]

set_option maxRecDepth 100000 in
set_option maxHeartbeats 400000 in
theorem U.bytes_any (c : Int) (w : World) (hc : U.isC c = true) :
    Calls Tryd.prog 24 #[.int .i64 c] w fun e w' => e = .returned (.string ⟨(U.enc c).toArray⟩) ∧ Below w.heap.size w w' := by
  obtain ⟨h1, h2, h3⟩ := (U.isC_iff c).1 hc
  clear h3 hc
  by_cases c1 : c < 128
  · have hcv := conv_lit w [c] 1 rfl
    rw [U.enc1 c c1] at hcv
    simp only [List.map_cons, List.map_nil] at hcv
    go_enter Tryd.func24, Tryd.ntmps24
    go_wp2
    go_ret
    exact ⟨rfl, (Below.refl _ _).alloc (Nat.le_refl _) _⟩
  · by_cases c2 : c < 2048
    · have hcv := conv_lit w [192 + c / 64, 128 + c % 64] 2 rfl
      rw [U.enc2 c c1 c2] at hcv
      simp only [List.map_cons, List.map_nil] at hcv
      go_enter Tryd.func24, Tryd.ntmps24
      go_wp2
      go_ret
      exact ⟨rfl, (Below.refl _ _).alloc (Nat.le_refl _) _⟩
    · by_cases c3 : c < 65536
      · have hcv := conv_lit w [224 + c / 4096, 128 + c / 64 % 64, 128 + c % 64] 3 rfl
        rw [U.enc3 c c1 c2 c3] at hcv
        simp only [List.map_cons, List.map_nil] at hcv
        go_enter Tryd.func24, Tryd.ntmps24
        go_wp2
        go_ret
        exact ⟨rfl, (Below.refl _ _).alloc (Nat.le_refl _) _⟩
      · have hcv := conv_lit w [240 + c / 262144, 128 + c / 4096 % 64, 128 + c / 64 % 64, 128 + c % 64] 4 rfl
        rw [U.enc4 c c1 c2 c3] at hcv
        simp only [List.map_cons, List.map_nil] at hcv
        go_enter Tryd.func24, Tryd.ntmps24
        go_wp2
        go_ret
        exact ⟨rfl, (Below.refl _ _).alloc (Nat.le_refl _) _⟩
end Go.Proofs.YthikoangkdlebaaDoor
