/- What the model's own decoding (of 'for range' over a string) answers at a character's bytes. -/
import Derived.Test.YtjakbblocbicjaaGreatDoorUtf
import Derived.Lib.DecodeN
namespace Go.Proofs.YtjakbblocbicjaaGreatDoor
set_option linter.unusedSimpArgs false
set_option linter.unusedVariables false
theorem ba_get (s : ByteArray) (i : Nat) : s.get! i = s.data.toList.getD i 0 := by
  cases s with
  | mk d =>
    show d[i]! = d.toList.getD i 0
    by_cases h : i < d.size
    · rw [getElem!_pos d i h]; simp [List.getD, h]
    · rw [getElem!_neg d i h]; simp [List.getD, h]; rfl
theorem U.u8_nat {x : Int} (h0 : 0 ≤ x) (h1 : x < 256) : (U.u8 x).toNat = x.toNat := by
  unfold U.u8
  rw [UInt8.toNat_ofNat']
  omega
set_option maxHeartbeats 4000000 in
theorem U.dec_at (s : ByteArray) (a r : List UInt8) (c : Int) (hs : s.data.toList = a ++ (zAn c ++ r)) (h0 : 0 ≤ c) (h1 : c ≤ 1114111) (h2 : ¬ (55296 ≤ c ∧ c ≤ 57343)) : Utf8.decode s a.length = (c.toNat, (zAn c).length) := by
  have hg : ∀ k, s.get! (a.length + k) = (zAn c ++ r).getD k 0 := fun k => by
    rw [ba_get, hs, List.getD_eq_getElem?_getD, List.getD_eq_getElem?_getD, List.getElem?_append_right (by omega), Nat.add_sub_cancel_left]
  have hl : s.size - a.length = (zAn c ++ r).length := by
    have : s.data.toList.length = s.size := by simp
    rw [← this, hs, List.length_append]; omega
  have hg0 := hg 0
  rw [Nat.add_zero] at hg0
  rw [Go.Lib.decode_at, hl, hg0, hg 1, hg 2, hg 3]
  clear hg hg0 hl hs
  have hb : ∀ x : UInt8, x.toNat < 256 := fun x => x.toNat_lt
  unfold zAn
  split
  · have e1 := U.u8_nat h0 (show c < 256 by omega)
    simp only [List.cons_append, List.nil_append, List.getD_cons_zero, e1, List.length_cons, List.length_nil]
    unfold Go.Lib.decodeN
    rw [if_pos (by omega)]
  · split
    · have e1 := U.u8_nat (x := 192 + c / 64) (by omega) (by omega)
      have e2 := U.u8_nat (x := 128 + c % 64) (by omega) (by omega)
      simp only [List.cons_append, List.nil_append, List.getD_cons_zero, List.getD_cons_succ, e1, e2, List.length_cons, List.length_nil]
      unfold Go.Lib.decodeN
      rw [if_neg (by omega), if_pos (by omega), if_pos (by omega)]
      exact Prod.ext (by simp only; omega) rfl
    · split
      · have e1 := U.u8_nat (x := 224 + c / 4096) (by omega) (by omega)
        have e2 := U.u8_nat (x := 128 + c / 64 % 64) (by omega) (by omega)
        have e3 := U.u8_nat (x := 128 + c % 64) (by omega) (by omega)
        simp only [List.cons_append, List.nil_append, List.getD_cons_zero, List.getD_cons_succ, e1, e2, e3, List.length_cons, List.length_nil]
        have f0 : (224 + c / 4096).toNat / 16 = 14 := by omega
        have f1 : (224 + c / 4096).toNat % 16 = (c / 4096).toNat := by omega
        have f2 : (128 + c / 64 % 64).toNat % 64 = (c / 64 % 64).toNat := by omega
        have f3 : (128 + c % 64).toNat % 64 = (c % 64).toNat := by omega
        have f4 : (c / 4096).toNat * 4096 + (c / 64 % 64).toNat * 64 + (c % 64).toNat = c.toNat := by omega
        unfold Go.Lib.decodeN
        rw [f0, f1, f2, f3, f4, if_neg (by omega), if_neg (by omega), if_pos (by omega), if_pos (by omega)]
      · have e1 := U.u8_nat (x := 240 + c / 262144) (by omega) (by omega)
        have e2 := U.u8_nat (x := 128 + c / 4096 % 64) (by omega) (by omega)
        have e3 := U.u8_nat (x := 128 + c / 64 % 64) (by omega) (by omega)
        have e4 := U.u8_nat (x := 128 + c % 64) (by omega) (by omega)
        simp only [List.cons_append, List.nil_append, List.getD_cons_zero, List.getD_cons_succ, e1, e2, e3, e4, List.length_cons, List.length_nil]
        have f0 : (240 + c / 262144).toNat / 8 = 30 := by omega
        have f1 : (240 + c / 262144).toNat % 8 = (c / 262144).toNat := by omega
        have f2 : (128 + c / 4096 % 64).toNat % 64 = (c / 4096 % 64).toNat := by omega
        have f3 : (128 + c / 64 % 64).toNat % 64 = (c / 64 % 64).toNat := by omega
        have f5 : (128 + c % 64).toNat % 64 = (c % 64).toNat := by omega
        have f4 : (c / 262144).toNat * 262144 + (c / 4096 % 64).toNat * 4096 + (c / 64 % 64).toNat * 64 + (c % 64).toNat = c.toNat := by omega
        unfold Go.Lib.decodeN
        rw [f0, f1, f2, f3, f5, f4, if_neg (by omega), if_neg (by omega), if_neg (by omega), if_pos (by omega), if_pos (by omega)]
end Go.Proofs.YtjakbblocbicjaaGreatDoor
