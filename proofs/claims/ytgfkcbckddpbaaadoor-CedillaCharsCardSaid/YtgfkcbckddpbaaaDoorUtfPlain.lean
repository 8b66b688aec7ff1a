/- The layer utf in plain Lean: a character's bytes, and the first character of bytes. No program in sight. -/
import Derived.WalkKit
namespace Go.Proofs.YtgfkcbckddpbaaaDoor
set_option linter.unusedSimpArgs false
set_option linter.unusedVariables false

def U.isC (c : Int) : Bool := decide (0 ≤ c ∧ c ≤ 1114111 ∧ (c < 55296 ∨ 57343 < c))
def U.width (c : Int) : Nat := if U.isC c then (if c < 128 then 1 else if c < 2048 then 2 else if c < 65536 then 3 else 4) else 0
def U.u8 (c : Int) : UInt8 := UInt8.ofNat c.toNat
def U.enc (c : Int) : List UInt8 :=
  if c < 128 then [U.u8 c] else if c < 2048 then [U.u8 (192 + c / 64), U.u8 (128 + c % 64)]
  else if c < 65536 then [U.u8 (224 + c / 4096), U.u8 (128 + c / 64 % 64), U.u8 (128 + c % 64)]
  else [U.u8 (240 + c / 262144), U.u8 (128 + c / 4096 % 64), U.u8 (128 + c / 64 % 64), U.u8 (128 + c % 64)]
def U.bv (l : List UInt8) (i : Nat) : Int := ((l.getD i 0).toNat : Int)
def U.sizeK (b : Int) : Nat := if b < 128 then 1 else if b < 192 then 0 else if b < 224 then 2 else if b < 240 then 3 else if b < 248 then 4 else 0
def U.headK : Nat → Int | 1 => 0 | 2 => 192 | 3 => 224 | _ => 240
def U.accK (l : List UInt8) (n : Nat) : Nat → Int | 0 => U.bv l 0 - U.headK n | i + 1 => U.accK l n i * 64 + (U.bv l (i + 1) - 128)
def U.tails (l : List UInt8) (n : Nat) : Prop := ∀ j, j < n → 1 ≤ j → 128 ≤ U.bv l j ∧ U.bv l j < 192
instance (l : List UInt8) (n : Nat) : Decidable (U.tails l n) := by unfold U.tails; exact inferInstance
def U.nextK (l : List UInt8) : Option (Int × Nat) :=
  if l = [] then none else
  if U.sizeK (U.bv l 0) = 0 ∨ l.length < U.sizeK (U.bv l 0) then none else
  if U.tails l (U.sizeK (U.bv l 0)) ∧ U.width (U.accK l (U.sizeK (U.bv l 0)) (U.sizeK (U.bv l 0) - 1)) = U.sizeK (U.bv l 0)
  then some (U.accK l (U.sizeK (U.bv l 0)) (U.sizeK (U.bv l 0) - 1), U.sizeK (U.bv l 0)) else none

theorem U.bv_lt (l : List UInt8) (i : Nat) : 0 ≤ U.bv l i ∧ U.bv l i < 256 := by
  unfold U.bv
  have := (l.getD i 0).toNat_lt
  omega
theorem U.u8_toNat (c : Int) (h0 : 0 ≤ c) (h1 : c < 256) : ((U.u8 c).toNat : Int) = c := by
  unfold U.u8
  rw [UInt8.toNat_ofNat']
  omega
theorem U.u8_of (b : UInt8) (c : Int) (h : c = (b.toNat : Int)) : U.u8 c = b := by
  subst h
  unfold U.u8
  simp
theorem U.bv0 (b : UInt8) (t : List UInt8) : U.bv (b :: t) 0 = (b.toNat : Int) := rfl
theorem U.bvS (b : UInt8) (t : List UInt8) (i : Nat) : U.bv (b :: t) (i + 1) = U.bv t i := rfl

theorem U.isC_iff (c : Int) : U.isC c = true ↔ (0 ≤ c ∧ c ≤ 1114111 ∧ (c < 55296 ∨ 57343 < c)) := by unfold U.isC; simp
theorem U.width_pos (c : Int) : 0 < U.width c ↔ U.isC c = true := by unfold U.width; grind
theorem U.enc_len (c : Int) (h : U.isC c = true) : (U.enc c).length = U.width c := by
  unfold U.enc U.width; rw [if_pos h]; grind
theorem U.width_le (c : Int) : U.width c ≤ 4 := by unfold U.width; grind

theorem U.nextK_of (c : Int) (hc : U.isC c = true) (l : List UInt8) : U.nextK (U.enc c ++ l) = some (c, (U.enc c).length) := by
  have h := (U.isC_iff c).1 hc
  have hw := U.enc_len c hc
  by_cases h1 : c < 128
  · have e : U.enc c = [U.u8 c] := by unfold U.enc; rw [if_pos h1]
    have hb : U.bv ([U.u8 c] ++ l) 0 = c := U.u8_toNat c (by omega) (by omega)
    have hs : U.sizeK c = 1 := by unfold U.sizeK; rw [if_pos h1]
    rw [e] at hw ⊢
    unfold U.nextK
    rw [hb, hs, if_neg (by simp), if_neg (by simp)]
    have ha : U.accK ([U.u8 c] ++ l) 1 (1 - 1) = c := by show U.bv _ 0 - 0 = c; rw [hb]; omega
    rw [ha, if_pos ⟨fun j h1 h2 => by omega, by simpa using hw.symm⟩]
    simp
  · by_cases h2 : c < 2048
    · have e : U.enc c = [U.u8 (192 + c / 64), U.u8 (128 + c % 64)] := by unfold U.enc; rw [if_neg h1, if_pos h2]
      have hb : U.bv ([U.u8 (192 + c / 64), U.u8 (128 + c % 64)] ++ l) 0 = 192 + c / 64 := U.u8_toNat _ (by omega) (by omega)
      have hb1 : U.bv ([U.u8 (192 + c / 64), U.u8 (128 + c % 64)] ++ l) 1 = 128 + c % 64 := U.u8_toNat _ (by omega) (by omega)
      have hs : U.sizeK (192 + c / 64) = 2 := by unfold U.sizeK; rw [if_neg (by omega), if_neg (by omega), if_pos (by omega)]
      rw [e] at hw ⊢
      unfold U.nextK
      rw [hb, hs, if_neg (by simp), if_neg (by simp)]
      have ha : U.accK ([U.u8 (192 + c / 64), U.u8 (128 + c % 64)] ++ l) 2 (2 - 1) = c := by show (U.bv _ 0 - 192) * 64 + (U.bv _ 1 - 128) = c; rw [hb, hb1]; omega
      rw [ha, if_pos ⟨fun j h1 h2 => by obtain rfl : j = 1 := by omega
                                        rw [hb1]; omega, by simpa using hw.symm⟩]
      simp
    · by_cases h3 : c < 65536
      · have e : U.enc c = [U.u8 (224 + c / 4096), U.u8 (128 + c / 64 % 64), U.u8 (128 + c % 64)] := by unfold U.enc; rw [if_neg h1, if_neg h2, if_pos h3]
        generalize hL : [U.u8 (224 + c / 4096), U.u8 (128 + c / 64 % 64), U.u8 (128 + c % 64)] = L at e
        have hb : U.bv (L ++ l) 0 = 224 + c / 4096 := by rw [← hL]; exact U.u8_toNat _ (by omega) (by omega)
        have hb1 : U.bv (L ++ l) 1 = 128 + c / 64 % 64 := by rw [← hL]; exact U.u8_toNat _ (by omega) (by omega)
        have hb2 : U.bv (L ++ l) 2 = 128 + c % 64 := by rw [← hL]; exact U.u8_toNat _ (by omega) (by omega)
        have hs : U.sizeK (224 + c / 4096) = 3 := by unfold U.sizeK; rw [if_neg (by omega), if_neg (by omega), if_neg (by omega), if_pos (by omega)]
        have hl : L.length = 3 := by rw [← hL]; rfl
        rw [e] at hw ⊢
        unfold U.nextK
        rw [hb, hs, if_neg (fun h => by have := congrArg List.length h; simp [hl] at this), if_neg (by simp [hl])]
        have ha : U.accK (L ++ l) 3 (3 - 1) = c := by show ((U.bv _ 0 - 224) * 64 + (U.bv _ 1 - 128)) * 64 + (U.bv _ 2 - 128) = c; rw [hb, hb1, hb2]; omega
        rw [ha, if_pos ⟨fun j h1 h2 => by have hj : j = 1 ∨ j = 2 := by omega
                                          rcases hj with rfl | rfl
                                          · rw [hb1]; omega
                                          · rw [hb2]; omega, by rw [← hw, hl]⟩, hl]
      · have e : U.enc c = [U.u8 (240 + c / 262144), U.u8 (128 + c / 4096 % 64), U.u8 (128 + c / 64 % 64), U.u8 (128 + c % 64)] := by unfold U.enc; rw [if_neg h1, if_neg h2, if_neg h3]
        generalize hL : [U.u8 (240 + c / 262144), U.u8 (128 + c / 4096 % 64), U.u8 (128 + c / 64 % 64), U.u8 (128 + c % 64)] = L at e
        have hb : U.bv (L ++ l) 0 = 240 + c / 262144 := by rw [← hL]; exact U.u8_toNat _ (by omega) (by omega)
        have hb1 : U.bv (L ++ l) 1 = 128 + c / 4096 % 64 := by rw [← hL]; exact U.u8_toNat _ (by omega) (by omega)
        have hb2 : U.bv (L ++ l) 2 = 128 + c / 64 % 64 := by rw [← hL]; exact U.u8_toNat _ (by omega) (by omega)
        have hb3 : U.bv (L ++ l) 3 = 128 + c % 64 := by rw [← hL]; exact U.u8_toNat _ (by omega) (by omega)
        have hs : U.sizeK (240 + c / 262144) = 4 := by unfold U.sizeK; rw [if_neg (by omega), if_neg (by omega), if_neg (by omega), if_neg (by omega), if_pos (by omega)]
        have hl : L.length = 4 := by rw [← hL]; rfl
        rw [e] at hw ⊢
        unfold U.nextK
        rw [hb, hs, if_neg (fun h => by have := congrArg List.length h; simp [hl] at this), if_neg (by simp [hl])]
        have ha : U.accK (L ++ l) 4 (4 - 1) = c := by
          show (((U.bv _ 0 - 240) * 64 + (U.bv _ 1 - 128)) * 64 + (U.bv _ 2 - 128)) * 64 + (U.bv _ 3 - 128) = c
          rw [hb, hb1, hb2, hb3]; omega
        rw [ha, if_pos ⟨fun j h1 h2 => by have hj : j = 1 ∨ j = 2 ∨ j = 3 := by omega
                                          rcases hj with rfl | rfl | rfl
                                          · rw [hb1]; omega
                                          · rw [hb2]; omega
                                          · rw [hb3]; omega, by rw [← hw, hl]⟩, hl]

theorem U.nextK_some (l : List UInt8) (c : Int) (n : Nat) (h : U.nextK l = some (c, n)) : U.isC c = true ∧ n = U.width c ∧ ∃ t, l = U.enc c ++ t := by
  unfold U.nextK at h
  split at h
  · cases h
  · split at h
    · cases h
    · split at h
      · rename_i hl hn hh
        obtain ⟨ht, hw⟩ := hh
        simp only [Option.some.injEq, Prod.mk.injEq] at h
        obtain ⟨h1, h2⟩ := h
        rw [h2] at hw hn ht
        rw [h2, ] at h1
        rw [h1] at hw
        have hc : U.isC c = true := (U.width_pos c).1 (by omega)
        have hb := U.bv_lt l 0
        refine ⟨hc, hw.symm, ?_⟩
        have hwd := hw
        unfold U.width at hwd
        rw [if_pos hc] at hwd
        have hci := (U.isC_iff c).1 hc
        have hsz := h2
        unfold U.sizeK at hsz
        rcases l with _ | ⟨b0, t0⟩
        · exact absurd rfl hl
        rw [U.bv0] at *
        have hn' : n = 1 ∨ n = 2 ∨ n = 3 ∨ n = 4 := by have := U.width_le c; omega
        rcases hn' with rfl | rfl | rfl | rfl
        · refine ⟨t0, ?_⟩
          have h1' : (b0.toNat : Int) - 0 = c := h1
          unfold U.enc
          rw [if_pos (by grind)]
          rw [U.u8_of b0 c (by omega)]
          rfl
        · rcases t0 with _ | ⟨b1, t1⟩
          · simp at hn
          have t1' := ht 1 (by omega) (by omega)
          have h1' : ((b0.toNat : Int) - 192) * 64 + ((b1.toNat : Int) - 128) = c := h1
          change 128 ≤ (b1.toNat : Int) ∧ (b1.toNat : Int) < 192 at t1'
          refine ⟨t1, ?_⟩
          unfold U.enc
          rw [if_neg (by grind), if_pos (by grind)]
          rw [U.u8_of b0 (192 + c / 64) (by omega), U.u8_of b1 (128 + c % 64) (by omega)]
          rfl
        · rcases t0 with _ | ⟨b1, t1⟩
          · simp at hn
          rcases t1 with _ | ⟨b2, t2⟩
          · simp at hn
          have t1' := ht 1 (by omega) (by omega)
          have t2' := ht 2 (by omega) (by omega)
          have h1' : (((b0.toNat : Int) - 224) * 64 + ((b1.toNat : Int) - 128)) * 64 + ((b2.toNat : Int) - 128) = c := h1
          change 128 ≤ (b1.toNat : Int) ∧ (b1.toNat : Int) < 192 at t1'
          change 128 ≤ (b2.toNat : Int) ∧ (b2.toNat : Int) < 192 at t2'
          refine ⟨t2, ?_⟩
          unfold U.enc
          rw [if_neg (by grind), if_neg (by grind), if_pos (by grind)]
          rw [U.u8_of b0 (224 + c / 4096) (by omega), U.u8_of b1 (128 + c / 64 % 64) (by omega), U.u8_of b2 (128 + c % 64) (by omega)]
          rfl
        · rcases t0 with _ | ⟨b1, t1⟩
          · simp at hn
          rcases t1 with _ | ⟨b2, t2⟩
          · simp at hn
          rcases t2 with _ | ⟨b3, t3⟩
          · simp at hn
          have t1' := ht 1 (by omega) (by omega)
          have t2' := ht 2 (by omega) (by omega)
          have t3' := ht 3 (by omega) (by omega)
          have h1' : ((((b0.toNat : Int) - 240) * 64 + ((b1.toNat : Int) - 128)) * 64 + ((b2.toNat : Int) - 128)) * 64 + ((b3.toNat : Int) - 128) = c := h1
          change 128 ≤ (b1.toNat : Int) ∧ (b1.toNat : Int) < 192 at t1'
          change 128 ≤ (b2.toNat : Int) ∧ (b2.toNat : Int) < 192 at t2'
          change 128 ≤ (b3.toNat : Int) ∧ (b3.toNat : Int) < 192 at t3'
          refine ⟨t3, ?_⟩
          unfold U.enc
          rw [if_neg (by grind), if_neg (by grind), if_neg (by grind)]
          rw [U.u8_of b0 (240 + c / 262144) (by omega), U.u8_of b1 (128 + c / 4096 % 64) (by omega), U.u8_of b2 (128 + c / 64 % 64) (by omega), U.u8_of b3 (128 + c % 64) (by omega)]
          rfl
      · cases h
end Go.Proofs.YtgfkcbckddpbaaaDoor
