/- The layer field: Hex, by walking its text. -/
import Derived.Test.YtppmcnpjglackaaGreatDoorFiPlain
import Derived.Test.YtppmcnpjglackaaGreatDoorShelf
namespace Go.Proofs.YtppmcnpjglackaaGreatDoor
open Go.RowKit Go.Stop
set_option linter.unusedSimpArgs false
set_option linter.unusedVariables false

theorem Fi.val_lt (l : List UInt8) (hg : Fi.good l = true) (i : Nat) (hi : i ≤ 6) : 0 ≤ Fi.val (l.take i) ∧ Fi.val (l.take i) < 16777216 := by
  have hg' : Fi.good (l.take i) = true := by
    simp only [Fi.good, List.all_eq_true] at hg ⊢
    exact fun x hx => hg x (List.mem_of_mem_take hx)
  obtain ⟨h0, h1, _⟩ := Fi.low_val _ hg'
  have : (16 : Nat) ^ (l.take i).length ≤ 16 ^ 6 := Nat.pow_le_pow_right (by decide) (by rw [List.length_take]; omega)
  clear hg hg'
  have e : (16 : Nat) ^ 6 = 16777216 := by decide
  rw [e] at this
  exact ⟨h0, by omega⟩

def Fi.RetHex (l : List UInt8) (e : Ending) : Prop := e = .returned (.tuple #[.int .i32 ((Fi.hex l).getD 0), .bool (Fi.hex l).isSome])

theorem Fi.long_no {l : List UInt8} (h : Fi.long l = false) : Fi.hex l = none := by unfold Fi.hex; rw [h]; rfl

theorem Fi.good_no {l : List UInt8} (h : ¬ Fi.good l = true) : Fi.hex l = none := by unfold Fi.hex; rw [Bool.not_eq_true] at h; rw [h, Bool.false_and, Bool.and_false]; rfl
theorem Fi.good_take {l : List UInt8} (h : Fi.good l = true) (i : Nat) : Fi.good (l.take i) = true := by
  simp only [Fi.good, List.all_eq_true] at h ⊢
  exact fun x hx => h x (List.mem_of_mem_take hx)
theorem Fi.take_snoc (s : ByteArray) (i : Nat) (h : i < s.size) : s.data.toList.take (i + 1) = s.data.toList.take i ++ [s[i]] := by
  have h' : i < s.data.toList.length := by simpa using h
  rw [List.take_succ_eq_append_getElem h']
  rfl
theorem Fi.take_all (s : ByteArray) : s.data.toList.take s.size = s.data.toList := List.take_of_length_le (by simp)
theorem Fi.head_get (s : ByteArray) (h : 0 < s.size) : s.data.toList.head? = some s[0] := by
  rw [List.head?_eq_getElem?, List.getElem?_eq_getElem (by simpa using h)]
  rfl

set_option maxRecDepth 100000 in
set_option maxHeartbeats 4000000 in
theorem Fi.hex_any (s : ByteArray) (w : World) :
    Calls Tryz.prog 58 #[.string s] w fun e w' => Fi.RetHex s.data.toList e ∧ w' = w := by
  rcases Nat.lt_or_ge s.size 4 with h4 | h4
  · have hN : Fi.hex s.data.toList = none := Fi.long_no (by unfold Fi.long; rw [decide_eq_false (by simp; omega)]; rfl)
    have i4 : (s.size : Int) < 4 := by omega
    go_enter Tryz.func58, Tryz.ntmps58
    go_wp2
    go_ret2
    exact ⟨by unfold Fi.RetHex; rw [hN]; rfl, rfl⟩
  rcases Nat.lt_or_ge 6 s.size with h6 | h6
  · have hN : Fi.hex s.data.toList = none := Fi.long_no (by unfold Fi.long; rw [decide_eq_false (p := s.data.toList.length ≤ 6) (by simp; omega), Bool.false_and, Bool.and_false])
    have i4 : ¬ (s.size : Int) < 4 := by omega
    have i6 : (s.size : Int) > 6 := by omega
    go_enter Tryz.func58, Tryz.ntmps58
    go_wp2
    go_ret2
    exact ⟨by unfold Fi.RetHex; rw [hN]; rfl, rfl⟩
  have i4 : ¬ (s.size : Int) < 4 := by omega
  have i6 : ¬ (s.size : Int) > 6 := by omega
  have l4 : decide (4 ≤ s.data.toList.length) = true := decide_eq_true (by simp; omega)
  have l6 : decide (s.data.toList.length ≤ 6) = true := decide_eq_true (by simp; omega)
  rcases Nat.lt_or_ge 4 s.size with h5 | h5
  · have i5 : (s.size : Int) > 4 := by omega
    have i0 : (0 : Int) < s.size := by omega
    have h0 : 0 < s.size := by omega
    obtain ⟨b, hb⟩ : ∃ b, s[0] = b := ⟨_, rfl⟩
    have hh := Fi.head_get s h0
    rw [hb] at hh
    by_cases hz : b = 48
    · have hN : Fi.hex s.data.toList = none := Fi.long_no (by unfold Fi.long; rw [l4, l6, hh, hz, decide_eq_true (p := 4 < s.data.toList.length) (by simp; omega)]; rfl)
      have hz' : (b.toNat : Int) = 48 := by rw [hz]; rfl
      clear hh hz
      go_enter Tryz.func58, Tryz.ntmps58
      go_wp2_with fail
      go_ret2
      exact ⟨by unfold Fi.RetHex; rw [hN]; rfl, rfl⟩
    have hL : Fi.long s.data.toList = true := by unfold Fi.long; rw [l4, l6, hh]; simp [hz]
    have hz' : ¬ (b.toNat : Int) = 48 := fun h => hz (UInt8.toNat_inj.1 (show b.toNat = 48 by omega))
    have HL := Lib.hid hL
    clear hh hz hL l4 l6
    go_enter Tryz.func58, Tryz.ntmps58
    go_wp2_with fail
    go_loop [4, 27] (fun vn vi => ∃ i : Nat, i ≤ s.size ∧ vi = .int .i64 i ∧ vn = .int .i64 (Fi.val (s.data.toList.take i)) ∧ Fi.good (s.data.toList.take i) = true) (fun _ vi => s.size - (intOf vi).toNat)
    case atStart => exact ⟨0, by omega, rfl, rfl, rfl⟩
    case round =>
      obtain ⟨i, hi, rfl, rfl, hg⟩ := hrel
      have hv := Fi.val_lt _ hg i (by omega)
      rw [List.take_take, Nat.min_self] at hv
      obtain ⟨v, hvv⟩ : ∃ v, Fi.val (s.data.toList.take i) = v := ⟨_, rfl⟩
      rw [hvv] at hv
      by_cases hlt : (i : Int) < s.size
      · have hi' : i < s.size := by omega
        have hsn := Fi.take_snoc s i hi'
        have n0 : (0 : Int) ≤ (i : Int) := by omega
        obtain ⟨b, hb⟩ : ∃ b, s[i] = b := ⟨_, rfl⟩
        rw [hb] at hsn
        have hbt : ((b.toNat : Int)).toNat.toUInt8 = b := by simp
        have hdl := Fi.digit_lt b
        rcases Int.lt_or_le (Fi.digit b) 0 with hd | hd
        · have hN : Fi.hex s.data.toList = none := Fi.good_no (fun h => by
            have := Fi.good_take h (i + 1)
            rw [hsn, Fi.good_snoc, Bool.and_eq_true, decide_eq_true_eq] at this
            omega)
          clear hsn hg hvv
          go_wp2_with (refine (Tryz.strings_IndexByte _ _ _).mono ?_; rintro e w1 ⟨rfl, rfl⟩; rw [hbt, Fi.digit_index])
          go_ret2
          exact ⟨by unfold Fi.RetHex; rw [hN]; rfl, rfl⟩
        · have hnd : ¬ Fi.digit b < 0 := by omega
          have hval : Fi.val (s.data.toList.take (i + 1)) = v * 16 + Fi.digit b := by rw [hsn, Fi.val_snoc, hvv]
          have hgood : Fi.good (s.data.toList.take (i + 1)) = true := by rw [hsn, Fi.good_snoc, hg, decide_eq_true hd]; rfl
          have HV := Lib.hid hval
          have HG := Lib.hid hgood
          have HVV := Lib.hid hvv
          clear hsn hg hval hgood hvv
          rw [HVV.out]
          go_wp2_with (refine (Tryz.strings_IndexByte _ _ _).mono ?_; rintro e w1 ⟨rfl, rfl⟩; rw [hbt, Fi.digit_index])
          exact ⟨⟨i + 1, by omega, by go_num, by rw [HV.out], HG.out⟩, by simp [intOf]; omega⟩
      · obtain rfl : i = s.size := by omega
        rw [Fi.take_all] at hg hvv ⊢
        have HG := Lib.hid hg
        have HVV := Lib.hid hvv
        clear hg hvv
        rw [HVV.out]
        by_cases hbig : v > 1114111
        · have hN : Fi.hex s.data.toList = none := by unfold Fi.hex; rw [HVV.out, decide_eq_false (by omega), Bool.and_false, Bool.and_false]; rfl
          go_wp2
          go_ret2
          exact ⟨by unfold Fi.RetHex; rw [hN]; rfl, rfl⟩
        · have hN : Fi.hex s.data.toList = some v := by unfold Fi.hex; rw [HL.out, HG.out, HVV.out, decide_eq_true (by omega)]; rfl
          have HN := Lib.hid hN
          clear hN
          go_wp2
          go_ret2
          exact ⟨by unfold Fi.RetHex; rw [HN.out]; rfl, rfl⟩
  · have i5 : ¬ (s.size : Int) > 4 := by omega
    have hL : Fi.long s.data.toList = true := by unfold Fi.long; rw [l4, l6, decide_eq_false (p := 4 < s.data.toList.length) (by simp; omega)]; rfl
    have HL := Lib.hid hL
    clear hL l4 l6
    go_enter Tryz.func58, Tryz.ntmps58
    go_wp2_with fail
    go_loop [4, 27] (fun vn vi => ∃ i : Nat, i ≤ s.size ∧ vi = .int .i64 i ∧ vn = .int .i64 (Fi.val (s.data.toList.take i)) ∧ Fi.good (s.data.toList.take i) = true) (fun _ vi => s.size - (intOf vi).toNat)
    case atStart => exact ⟨0, by omega, rfl, rfl, rfl⟩
    case round =>
      obtain ⟨i, hi, rfl, rfl, hg⟩ := hrel
      have hv := Fi.val_lt _ hg i (by omega)
      rw [List.take_take, Nat.min_self] at hv
      obtain ⟨v, hvv⟩ : ∃ v, Fi.val (s.data.toList.take i) = v := ⟨_, rfl⟩
      rw [hvv] at hv
      by_cases hlt : (i : Int) < s.size
      · have hi' : i < s.size := by omega
        have hsn := Fi.take_snoc s i hi'
        have n0 : (0 : Int) ≤ (i : Int) := by omega
        obtain ⟨b, hb⟩ : ∃ b, s[i] = b := ⟨_, rfl⟩
        rw [hb] at hsn
        have hbt : ((b.toNat : Int)).toNat.toUInt8 = b := by simp
        have hdl := Fi.digit_lt b
        rcases Int.lt_or_le (Fi.digit b) 0 with hd | hd
        · have hN : Fi.hex s.data.toList = none := Fi.good_no (fun h => by
            have := Fi.good_take h (i + 1)
            rw [hsn, Fi.good_snoc, Bool.and_eq_true, decide_eq_true_eq] at this
            omega)
          clear hsn hg hvv
          go_wp2_with (refine (Tryz.strings_IndexByte _ _ _).mono ?_; rintro e w1 ⟨rfl, rfl⟩; rw [hbt, Fi.digit_index])
          go_ret2
          exact ⟨by unfold Fi.RetHex; rw [hN]; rfl, rfl⟩
        · have hnd : ¬ Fi.digit b < 0 := by omega
          have hval : Fi.val (s.data.toList.take (i + 1)) = v * 16 + Fi.digit b := by rw [hsn, Fi.val_snoc, hvv]
          have hgood : Fi.good (s.data.toList.take (i + 1)) = true := by rw [hsn, Fi.good_snoc, hg, decide_eq_true hd]; rfl
          have HV := Lib.hid hval
          have HG := Lib.hid hgood
          have HVV := Lib.hid hvv
          clear hsn hg hval hgood hvv
          rw [HVV.out]
          go_wp2_with (refine (Tryz.strings_IndexByte _ _ _).mono ?_; rintro e w1 ⟨rfl, rfl⟩; rw [hbt, Fi.digit_index])
          exact ⟨⟨i + 1, by omega, by go_num, by rw [HV.out], HG.out⟩, by simp [intOf]; omega⟩
      · obtain rfl : i = s.size := by omega
        rw [Fi.take_all] at hg hvv ⊢
        have HG := Lib.hid hg
        have HVV := Lib.hid hvv
        clear hg hvv
        rw [HVV.out]
        by_cases hbig : v > 1114111
        · have hN : Fi.hex s.data.toList = none := by unfold Fi.hex; rw [HVV.out, decide_eq_false (by omega), Bool.and_false, Bool.and_false]; rfl
          go_wp2
          go_ret2
          exact ⟨by unfold Fi.RetHex; rw [hN]; rfl, rfl⟩
        · have hN : Fi.hex s.data.toList = some v := by unfold Fi.hex; rw [HL.out, HG.out, HVV.out, decide_eq_true (by omega)]; rfl
          have HN := Lib.hid hN
          clear hN
          go_wp2
          go_ret2
          exact ⟨by unfold Fi.RetHex; rw [HN.out]; rfl, rfl⟩
end Go.Proofs.YtppmcnpjglackaaGreatDoor
