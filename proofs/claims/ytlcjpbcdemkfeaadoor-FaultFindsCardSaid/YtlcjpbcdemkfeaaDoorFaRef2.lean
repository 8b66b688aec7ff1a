/- The document's answers for the layer fault: a number's digits, by walking their texts. -/
import Derived.Test.YtlcjpbcdemkfeaaDoorFaRef
namespace Go.Proofs.YtlcjpbcdemkfeaaDoor
open Go.RowKit Go.Stop
set_option linter.unusedSimpArgs false
set_option linter.unusedVariables false

/-- 'string([]byte{d})'. -/
theorem F.conv1 (w : World) (d : Int) :
    (convert 89 9 (.slice (some ⟨w.heap.size, 0, none⟩) 1 1)).run Tryd.prog (w.alloc (.cells #[.int .u8 d] 5)) = .ok (.string ⟨#[UInt8.ofNat d.toNat]⟩) (w.alloc (.cells #[.int .u8 d] 5)) := by
  exact run_convert_bytes_arg _ 89 5 Tryd.underlying89 Tryd.underlying5 w.heap.size 0 1 1 [d] rfl (fun i hi => by
    obtain rfl : i = 0 := by omega
    simp) 9 Tryd.underlying9
theorem F.ba_app (a b : List UInt8) : (⟨a.toArray⟩ ++ ⟨b.toArray⟩ : ByteArray) = ⟨(a ++ b).toArray⟩ := by
  apply ByteArray.ext
  simp
theorem F.dec_step {u x : Nat} {s : List UInt8} (hx : 0 < x) (h : Lib.decDigits u = Lib.decDigits x ++ s) :
    Lib.decDigits u = (if x / 10 = 0 then [] else Lib.decDigits (x / 10)) ++ (UInt8.ofNat (48 + x % 10) :: s) := by
  rw [h, Lib.decDigits]
  by_cases hx10 : x < 10
  · rw [dif_pos hx10, if_pos (by omega), Nat.mod_eq_of_lt hx10]; rfl
  · rw [dif_neg hx10, if_neg (by omega), List.append_assoc]; rfl

set_option maxRecDepth 100000 in
set_option maxHeartbeats 4000000 in
theorem F.word_any (u : Nat) (w : World) (hu : u < 18446744073709551616) :
    Calls Tryd.prog 48 #[.int .u64 u] w fun e w' => e = .returned (.string ⟨(Lib.decDigits u).toArray⟩) ∧ Below w.heap.size w w' := by
  go_enter Tryd.func48, Tryd.ntmps48
  go_wp2
  go_loopw [0, 3, 4] (fun vx vs vi wr => ∃ (i x : Nat) (s : List UInt8), vx = .int .u64 x ∧ vs = .string ⟨s.toArray⟩ ∧ vi = .int .i64 i ∧ i ≤ 64 ∧ s.length = i ∧ x < 2 ^ (64 - i) ∧ ((i = 0 ∧ x = u ∧ s = []) ∨ (0 < i ∧ Lib.decDigits u = (if x = 0 then [] else Lib.decDigits x) ++ s)) ∧ Below w.heap.size w wr) (fun _ _ vi _ => 65 - (intOf vi).toNat)
  case atStart => exact ⟨0, u, [], rfl, rfl, rfl, by omega, rfl, by simpa using hu, .inl ⟨rfl, rfl, rfl⟩, Below.refl _ _⟩
  case round =>
    obtain ⟨i, x, s, rfl, rfl, rfl, hi, hsl, hx, hor, hbr⟩ := hrel
    obtain ⟨w1, rfl⟩ : ∃ w1 : World, w1 = wr := ⟨_, rfl⟩
    have hs1 := hbr.size
    have HBR := Lib.hid hbr
    have hC := F.conv1 w1 (48 + (x : Int) % 10)
    rw [show (48 + (x : Int) % 10).toNat = 48 + x % 10 by omega] at hC
    have HSL := Lib.hid hsl
    have hcat : ¬ 9223372036854775807 < 1 + s.length := by omega
    have HBA := Lib.hid (hbr.alloc hs1 (.cells #[.int .u8 (48 + (x : Int) % 10)] 5))
    clear hsl
    by_cases hgo : i = 0 ∨ 0 < x
    · have hst : Lib.decDigits u = (if x / 10 = 0 then [] else Lib.decDigits (x / 10)) ++ (UInt8.ofNat (48 + x % 10) :: s) := by
        rcases hor with ⟨rfl, rfl, rfl⟩ | ⟨h0, h⟩
        · rcases Nat.eq_zero_or_pos x with rfl | hp
          · rw [Lib.decDigits]; rfl
          · exact F.dec_step hp (by simp)
        · have hp : 0 < x := by omega
          rw [if_neg (by omega)] at h
          exact F.dec_step hp h
      have hi64 : i < 64 := by
        rcases hgo with rfl | hp
        · omega
        · rcases Nat.lt_or_ge i 64 with h | h
          · exact h
          · have : 64 - i = 0 := by omega
            rw [this] at hx; omega
      have hx2 : x / 10 < 2 ^ (64 - (i + 1)) := by
        have e : 64 - i = (64 - (i + 1)) + 1 := by omega
        rw [e, Nat.pow_succ] at hx
        omega
      have hx64 : x < 18446744073709551616 := by
        have : 2 ^ (64 - i) ≤ 2 ^ 64 := Nat.pow_le_pow_right (by decide) (by omega)
        have e : (2 : Nat) ^ 64 = 18446744073709551616 := by decide
        omega
      have HST := Lib.hid hst
      have HX2 := Lib.hid hx2
      clear hst hx2 hx hor hbr
      obtain ⟨dg, hdg⟩ : ∃ dg, UInt8.ofNat (48 + x % 10) = dg := ⟨_, rfl⟩
      rw [hdg] at hC HST
      have HAPP := Lib.hid (F.ba_app [dg] s)
      clear hdg
      rcases Nat.eq_zero_or_pos i with hi0 | hp
      · have HI := Lib.hid hi0
        subst hi0
        go_wp2
        refine ⟨⟨1, x / 10, dg :: s, by go_num, by first | exact congrArg Value.string HAPP.out | (congr 1; exact HAPP.out), rfl, by omega, by rw [List.length_cons, HSL.out], HX2.out, .inr ⟨by omega, HST.out⟩, HBA.out⟩, by simp [intOf]⟩
      · have hne : ¬ (i : Int) = 0 := by omega
        have hx0 : 0 < x := by omega
        have hxp : (x : Int) > 0 := by omega
        go_wp2
        refine ⟨⟨i + 1, x / 10, dg :: s, by go_num, by first | exact congrArg Value.string HAPP.out | (congr 1; exact HAPP.out), by go_num, by omega, by rw [List.length_cons, HSL.out], HX2.out, .inr ⟨by omega, HST.out⟩, HBA.out⟩, by simp [intOf]; omega⟩
    · have hx0 : x = 0 := by omega
      have hi0 : 0 < i := by omega
      subst hx0
      have hf : Lib.decDigits u = s := by
        rcases hor with ⟨h, _⟩ | ⟨_, h⟩
        · omega
        · simpa using h
      have HF := Lib.hid hf
      have hne : ¬ (i : Int) = 0 := by omega
      clear hor hf hx hgo hC
      go_wp2
      go_ret
      exact ⟨by rw [HF.out]; rfl, hbr⟩
end Go.Proofs.YtlcjpbcdemkfeaaDoor
