/- The document's answers for the layer field: Digits, Num, Hex, by walking their texts. -/
import Derived.Test.YtppmcnpjglackaaGreatDoorFiNumPlain
import Derived.Test.YtppmcnpjglackaaGreatDoorFiRef
namespace Go.Proofs.YtppmcnpjglackaaGreatDoor
open Go.RowKit Go.Stop
set_option linter.unusedSimpArgs false
set_option linter.unusedVariables false

theorem Fi.dec_step {u x : Nat} {s : List UInt8} (hx : 0 < x) (h : Lib.decDigits u = Lib.decDigits x ++ s) :
    Lib.decDigits u = (if x / 10 = 0 then [] else Lib.decDigits (x / 10)) ++ (UInt8.ofNat (48 + x % 10) :: s) := by
  rw [h, Lib.decDigits]
  by_cases hx10 : x < 10
  · rw [dif_pos hx10, if_pos (by omega), Nat.mod_eq_of_lt hx10]; rfl
  · rw [dif_neg hx10, if_neg (by omega), List.append_assoc]; rfl

set_option maxRecDepth 100000 in
set_option maxHeartbeats 4000000 in
theorem Fi.digits_any (u : Nat) (w : World) (hu : u < 9223372036854775808) :
    Calls Tryz.prog 24 #[.int .i64 u] w fun e w' => e = .returned (.string ⟨(Lib.decDigits u).toArray⟩) ∧ Below w.heap.size w w' := by
  go_enter Tryz.func24, Tryz.ntmps24
  go_wp2
  go_loopw [0, 3, 4] (fun vx vs vi wr => ∃ (i x : Nat) (s : List UInt8), vx = .int .i64 x ∧ vs = .string ⟨s.toArray⟩ ∧ vi = .int .i64 i ∧ i ≤ 64 ∧ s.length = i ∧ x < 2 ^ (63 - i) ∧ ((i = 0 ∧ x = u ∧ s = []) ∨ (0 < i ∧ Lib.decDigits u = (if x = 0 then [] else Lib.decDigits x) ++ s)) ∧ Below w.heap.size w wr) (fun _ _ vi _ => 65 - (intOf vi).toNat)
  case atStart => exact ⟨0, u, [], rfl, rfl, rfl, by omega, rfl, by simpa using hu, .inl ⟨rfl, rfl, rfl⟩, Below.refl _ _⟩
  case round =>
    obtain ⟨i, x, s, rfl, rfl, rfl, hi, hsl, hx, hor, hbr⟩ := hrel
    obtain ⟨w1, rfl⟩ : ∃ w1 : World, w1 = wr := ⟨_, rfl⟩
    have hs1 := hbr.size
    have HBR := Lib.hid hbr
    have hC := Fi.conv1 w1 (48 + (x : Int) % 10)
    rw [show (48 + (x : Int) % 10).toNat = 48 + x % 10 by omega] at hC
    have HSL := Lib.hid hsl
    have hcat : ¬ 9223372036854775807 < 1 + s.length := by omega
    have HBA := Lib.hid (hbr.alloc hs1 (.cells #[.int .u8 (48 + (x : Int) % 10)] 5))
    clear hsl
    have hx64 : x < 9223372036854775808 := by
      have : 2 ^ (63 - i) ≤ 2 ^ 63 := Nat.pow_le_pow_right (by decide) (by omega)
      have e : (2 : Nat) ^ 63 = 9223372036854775808 := by decide
      omega
    by_cases hgo : i = 0 ∨ 0 < x
    · have hst : Lib.decDigits u = (if x / 10 = 0 then [] else Lib.decDigits (x / 10)) ++ (UInt8.ofNat (48 + x % 10) :: s) := by
        rcases hor with ⟨rfl, rfl, rfl⟩ | ⟨h0, h⟩
        · rcases Nat.eq_zero_or_pos x with rfl | hp
          · rw [Lib.decDigits]; rfl
          · exact Fi.dec_step hp (by simp)
        · have hp : 0 < x := by omega
          rw [if_neg (by omega)] at h
          exact Fi.dec_step hp h
      have hi64 : i < 63 := by
        rcases hgo with rfl | hp
        · omega
        · rcases Nat.lt_or_ge i 63 with h | h
          · exact h
          · have : 63 - i = 0 := by omega
            rw [this] at hx; omega
      have hx2 : x / 10 < 2 ^ (63 - (i + 1)) := by
        have e : 63 - i = (63 - (i + 1)) + 1 := by omega
        rw [e, Nat.pow_succ] at hx
        omega
      have HST := Lib.hid hst
      have HX2 := Lib.hid hx2
      clear hst hx2 hx hor hbr
      obtain ⟨dg, hdg⟩ : ∃ dg, UInt8.ofNat (48 + x % 10) = dg := ⟨_, rfl⟩
      rw [hdg] at hC HST
      have HAPP := Lib.hid (Fi.ba_app [dg] s)
      clear hdg
      rcases Nat.eq_zero_or_pos i with hi0 | hp
      · have HI := Lib.hid hi0
        subst hi0
        go_wp2
        refine ⟨⟨1, x / 10, dg :: s, by go_num, by first | exact congrArg Value.string HAPP.out | (congr 1; exact HAPP.out), rfl, by omega, by rw [List.length_cons, HSL.out], HX2.out, .inr ⟨by omega, HST.out⟩, HBA.out⟩, by simp [intOf]⟩
      · have hne : ¬ (i : Int) = 0 := by omega
        have hx0 : 0 < x := by omega
        have hxp : (x : Int) > 0 := by omega
        go_wp2
        refine ⟨⟨i + 1, x / 10, dg :: s, by go_num, by first | exact congrArg Value.string HAPP.out | (congr 1; exact HAPP.out), by go_num, by omega, by rw [List.length_cons, HSL.out], HX2.out, .inr ⟨by omega, HST.out⟩, HBA.out⟩, by simp [intOf]; omega⟩
    · have hx0 : x = 0 := by omega
      have hi0 : 0 < i := by omega
      subst hx0
      have hf : Lib.decDigits u = s := by
        rcases hor with ⟨h, _⟩ | ⟨_, h⟩
        · omega
        · simpa using h
      have HF := Lib.hid hf
      have hne : ¬ (i : Int) = 0 := by omega
      clear hor hf hx hgo hC
      go_wp2
      go_ret
      exact ⟨by rw [HF.out]; rfl, hbr⟩

/-- A number; -1: it is none. -/
theorem Fi.numV_bd (l : List UInt8) (h : l.all Fi.isD = true) : 0 ≤ Fi.numV l ∧ Fi.numV l < ((10 ^ l.length : Nat) : Int) := by
  have key : ∀ (n : Nat) (l : List UInt8), l.length = n → l.all Fi.isD = true → 0 ≤ Fi.numV l ∧ Fi.numV l < ((10 ^ l.length : Nat) : Int) := by
    intro n
    induction n with
    | zero =>
      intro l hl _
      obtain rfl : l = [] := List.length_eq_zero_iff.1 hl
      simp [Fi.numV]
    | succ n ih =>
      intro l hl h
      rcases List.eq_nil_or_concat l with rfl | ⟨m, b, hmb⟩
      · simp at hl
      rw [List.concat_eq_append] at hmb
      subst hmb
      rw [List.length_append, List.length_singleton] at hl
      rw [List.all_append, Bool.and_eq_true] at h
      obtain ⟨i0, i1⟩ := ih m (by omega) h.1
      have hb : Fi.isD b = true := by simpa using h.2
      unfold Fi.isD at hb
      rw [Bool.and_eq_true, decide_eq_true_eq, decide_eq_true_eq] at hb
      rw [Fi.numV_snoc, List.length_append, List.length_singleton, Nat.pow_succ, Int.natCast_mul]
      omega
  exact key _ l rfl h

end Go.Proofs.YtppmcnpjglackaaGreatDoor
