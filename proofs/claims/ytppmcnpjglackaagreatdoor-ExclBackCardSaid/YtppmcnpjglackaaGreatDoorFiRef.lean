/- The document's answers for the layer field: HexText, Split, Strip, by walking their texts; the laws' same. -/
import Derived.Test.YtppmcnpjglackaaGreatDoorFiNumPlain
import Derived.RegionTactic
import Derived.BigRegion
namespace Go.Proofs.YtppmcnpjglackaaGreatDoor
open Go.RowKit Go.Stop
set_option linter.unusedSimpArgs false
set_option linter.unusedVariables false

/-- 'string([]byte{d})'. -/
theorem Fi.conv1 (w : World) (d : Int) :
    (convert 74 9 (.slice (some ⟨w.heap.size, 0, none⟩) 1 1)).run Tryz.prog (w.alloc (.cells #[.int .u8 d] 5)) = .ok (.string ⟨#[UInt8.ofNat d.toNat]⟩) (w.alloc (.cells #[.int .u8 d] 5)) := by
  exact run_convert_bytes_arg _ 74 5 Tryz.underlying74 Tryz.underlying5 w.heap.size 0 1 1 [d] rfl (fun i hi => by
    obtain rfl : i = 0 := by omega
    simp) 9 Tryz.underlying9

set_option maxRecDepth 100000 in
set_option maxHeartbeats 4000000 in
theorem Fi.rtext_any (c : Nat) (hc : c < 16777216) (w : World) :
    Calls Tryz.prog 16 #[.int .i64 c] w fun e w' => e = .returned (.string ⟨(Fi.text c).toArray⟩) ∧ Below w.heap.size w w' := by
  have hn6 : Fi.nd c ≤ 6 := Fi.nd_le 5 c (by rw [show (16 : Nat) ^ (5 + 1) = 16777216 from by decide]; exact hc)
  go_enter Tryz.func16, Tryz.ntmps16
  go_wp2
  go_loopw [0, 3, 4] (fun vx vs vi wr => ∃ i x : Nat, vx = .int .i64 x ∧ vs = .string ⟨((Fi.low i c).map Fi.up).toArray⟩ ∧ vi = .int .i64 i ∧ i ≤ max 4 (Fi.nd c) ∧ x = c / 16 ^ i ∧ Below w.heap.size w wr) (fun _ _ vi _ => 7 - (intOf vi).toNat)
  case atStart => exact ⟨0, c, rfl, rfl, rfl, by omega, by simp, Below.refl _ _⟩
  case round =>
    obtain ⟨i, x, rfl, rfl, rfl, hi, hx, hbr⟩ := hrel
    obtain ⟨w1, rfl⟩ : ∃ w1 : World, w1 = wr := ⟨_, rfl⟩
    have hs1 := hbr.size
    have hxc : x < 16777216 := by
      have := Nat.div_le_self c (16 ^ i)
      omega
    have HBR := Lib.hid hbr
    obtain ⟨s, hs⟩ : ∃ s : ByteArray, (⟨((Fi.low i c).map Fi.up).toArray⟩ : ByteArray) = s := ⟨_, rfl⟩
    have hsl : s.size = i := by
      rw [← hs]
      show ((Fi.low i c).map Fi.up).toArray.size = i
      simp [Fi.low_len]
    by_cases hgo : i < 4 ∨ 0 < x
    · have hi1 : i + 1 ≤ max 4 (Fi.nd c) := by
        rcases hgo with h | h
        · omega
        · have h1 : 16 ^ i ≤ c := by
            rcases Nat.lt_or_ge c (16 ^ i) with h2 | h2
            · rw [Nat.div_eq_of_lt h2] at hx; omega
            · exact h2
          have := Fi.nd_ge c i h1
          omega
      have hx2 : x / 16 = c / 16 ^ (i + 1) := by rw [hx, Nat.div_div_eq_div_mul, ← Nat.pow_succ]
      have hst : ∀ dg : UInt8, dg = Fi.up (x % 16) → (⟨#[dg]⟩ : ByteArray) ++ s = ⟨((Fi.low (i + 1) c).map Fi.up).toArray⟩ := by
        rintro dg rfl
        rw [← hs, Fi.low_cons, ← hx]
        exact Fi.ba_app [Fi.up (x % 16)] _
      have HI := Lib.hid hi1
      have HX2 := Lib.hid hx2
      have HST := Lib.hid hst
      have hcat : ¬ 9223372036854775807 < 1 + s.size := by omega
      rw [hs]
      clear hst hx2 hx hs hi1
      have hxm : (x : Int) % 16 = ((x % 16 : Nat) : Int) := by omega
      obtain ⟨d, hd⟩ : ∃ d, x % 16 = d := ⟨_, rfl⟩
      rw [hd] at hxm HST
      have hd16 : d < 16 := by omega
      clear hd
      by_cases h10 : (d : Int) < 10
      · have hC := Fi.conv1 w1 (48 + (d : Int))
        have HBA := Lib.hid (hbr.alloc hs1 (.cells #[.int .u8 (48 + (d : Int))] 5))
        have hup : UInt8.ofNat (48 + (d : Int)).toNat = Fi.up d := by
          unfold Fi.up
          rw [if_pos (by omega), show (48 + (d : Int)).toNat = 48 + d by omega]
        rw [hup] at hC
        have HR := Lib.hid (HST.out _ rfl)
        clear hup hbr HST
        rcases Nat.lt_or_ge i 4 with h4 | h4
        · have h4' : (i : Int) < 4 := by omega
          clear hgo
          go_wp2
          exact ⟨⟨i + 1, x / 16, by go_num, by first | exact congrArg Value.string HR.out | (congr 1; exact HR.out), by go_num, HI.out, HX2.out, HBA.out⟩, by simp [intOf]; omega⟩
        · have h4' : ¬ (i : Int) < 4 := by omega
          have hxp : (x : Int) > 0 := by omega
          clear hgo
          go_wp2
          exact ⟨⟨i + 1, x / 16, by go_num, by first | exact congrArg Value.string HR.out | (congr 1; exact HR.out), by go_num, HI.out, HX2.out, HBA.out⟩, by simp [intOf]; omega⟩
      · have hC := Fi.conv1 w1 (55 + (d : Int))
        have HBA := Lib.hid (hbr.alloc hs1 (.cells #[.int .u8 (55 + (d : Int))] 5))
        have hup : UInt8.ofNat (55 + (d : Int)).toNat = Fi.up d := by
          unfold Fi.up
          rw [if_neg (by omega), show (55 + (d : Int)).toNat = 55 + d by omega]
        rw [hup] at hC
        have HR := Lib.hid (HST.out _ rfl)
        clear hup hbr HST
        rcases Nat.lt_or_ge i 4 with h4 | h4
        · have h4' : (i : Int) < 4 := by omega
          clear hgo
          go_wp2
          exact ⟨⟨i + 1, x / 16, by go_num, by first | exact congrArg Value.string HR.out | (congr 1; exact HR.out), by go_num, HI.out, HX2.out, HBA.out⟩, by simp [intOf]; omega⟩
        · have h4' : ¬ (i : Int) < 4 := by omega
          have hxp : (x : Int) > 0 := by omega
          clear hgo
          go_wp2
          exact ⟨⟨i + 1, x / 16, by go_num, by first | exact congrArg Value.string HR.out | (congr 1; exact HR.out), by go_num, HI.out, HX2.out, HBA.out⟩, by simp [intOf]; omega⟩
    · have h4' : ¬ (i : Int) < 4 := by omega
      have hx0 : x = 0 := by omega
      subst hx0
      have hmax : max 4 (Fi.nd c) = i := by
        have h1 : c < 16 ^ i := by
          rcases Nat.lt_or_ge c (16 ^ i) with h | h
          · exact h
          · have := Nat.div_pos h (Nat.pow_pos (by decide)); omega
        have := Fi.nd_le (i - 1) c (by rw [show i - 1 + 1 = i by omega]; exact h1)
        omega
      have hT : s = ⟨(Fi.text c).toArray⟩ := by rw [← hs]; unfold Fi.text; rw [hmax]
      have HT := Lib.hid hT
      rw [hs]
      clear hgo hx hmax hs hT
      go_wp2
      go_ret
      exact ⟨by rw [HT.out]; rfl, HBR.out⟩
end Go.Proofs.YtppmcnpjglackaaGreatDoor
