/- The package prod, by walking its text: guess, take, back. -/
import Derived.Test.YthcdecncnppjaaaDoorNmBits
namespace Go.Proofs.YthcdecncnppjaaaDoor
open Go.RowKit
set_option linter.unusedSimpArgs false
set_option linter.unusedVariables false
set_option maxRecDepth 100000 in
set_option maxHeartbeats 2000000 in
/-- The guess of a digit of the quotient. -/
theorem Nm.guess_any (g o m c u2 u1 u0 v1 v0 : Nat) (w : World) (hm : 3 ≤ m) (hm2 : m ≤ 1000000) (hg : g < w.heap.size) (c0 : w.cell? ⟨g, o, none⟩ = some (.int .u32 (u0 : Int))) (c1 : w.cell? ⟨g, o + 1, none⟩ = some (.int .u32 (u1 : Int))) (c2 : w.cell? ⟨g, o + 2, none⟩ = some (.int .u32 (u2 : Int)))
    (h2 : u2 < 4294967296) (h1 : u1 < 4294967296) (h0 : u0 < 4294967296) (hv1 : v1 < 4294967296) (hv0 : v0 < 4294967296) (hv : 2147483648 ≤ v1) (huv : u2 ≤ v1) :
    Calls Tryd.prog 37 #[.slice (some ⟨g, o, none⟩) m c, .int .u32 (v1 : Int), .int .u32 (v0 : Int)] w fun e w' => ∃ q : Nat, e = .returned (.int .u64 (q : Int)) ∧ q ≤ 4294967296 ∧ q * (v1 * 4294967296 + v0) ≤ u2 * 18446744073709551616 + u1 * 4294967296 + u0 ∧ ((u2 * 18446744073709551616 + u1 * 4294967296 + u0) / (v1 * 4294967296 + v0) ≤ q ∨ 4294967295 ≤ q) ∧ Below w.heap.size w w' := by
  obtain ⟨U3, hU3⟩ : ∃ U3, u2 * 18446744073709551616 + u1 * 4294967296 + u0 = U3 := ⟨_, rfl⟩
  obtain ⟨V2, hV2⟩ : ∃ V2, v1 * 4294967296 + v0 = V2 := ⟨_, rfl⟩
  obtain ⟨top, htop⟩ : ∃ t, u2 * 4294967296 + u1 = t := ⟨_, rfl⟩
  have hor := Nm.two64 h1 h2 htop
  have HTOP := hy' htop
  have HU3 := hy' hU3
  have HV2 := hy' hV2
  have HVN := hy' hv
  have HUV := hy' huv
  obtain ⟨q0, hq0⟩ : ∃ q, top / v1 = q := ⟨_, rfl⟩
  obtain ⟨r0, hr0⟩ : ∃ r, top % v1 = r := ⟨_, rfl⟩
  have hqI : (top : Int) / v1 = q0 := by rw [← hq0]; exact (Int.natCast_ediv _ _).symm
  have hrI : (top : Int) % v1 = r0 := by rw [← hr0]; exact (Int.natCast_emod _ _).symm
  have hdm := Nat.div_add_mod top v1
  rw [hq0, hr0] at hdm
  have hr0b : r0 < v1 := by rw [← hr0]; exact Nat.mod_lt _ (by omega)
  have hq0b : q0 ≤ 4294967297 := by
    rw [← hq0, ← htop]
    refine Nat.le_of_lt_succ ((Nat.div_lt_iff_lt_mul (by omega)).2 ?_)
    have : 4294967298 * v1 = v1 * 4294967296 + 2 * v1 := by omega
    rw [Nat.succ_eq_add_one]
    omega
  have hq0g : U3 / V2 ≤ q0 ∨ 4294967295 ≤ q0 := by
    left
    rw [← hq0, ← hU3, ← hV2, ← htop]
    exact Nm.guess_start (by omega) h0
  have HDM := hy' (show q0 * v1 + r0 = u2 * 4294967296 + u1 by rw [htop, Nat.mul_comm]; exact hdm)
  have HQG := hy' hq0g
  rw [hU3, hV2]
  clear hU3 hV2 htop hq0 hr0 hdm hq0g hv huv
  have n1 : (v1 : Int) ≠ 0 := by omega
  have n2 : (0 : Int) < v1 := by omega
  have i2 : (2 : Int) < m := by omega
  have i1 : (1 : Int) < m := by omega
  have i0 : (0 : Int) < m := by omega
  have e2 : (u2 : Int) * 4294967296 < 18446744073709551616 := by omega
  have e20 : (0 : Int) ≤ u2 := by omega
  have e21 : (u2 : Int) < 4294967296 := by omega
  have e10 : (0 : Int) ≤ u1 := by omega
  have e11 : (u1 : Int) < 4294967296 := by omega
  have e00 : (0 : Int) ≤ u0 := by omega
  have e01 : (u0 : Int) < 4294967296 := by omega
  have ev0 : (0 : Int) ≤ v0 := by omega
  have ev1 : (v0 : Int) < 4294967296 := by omega
  have ew1 : (v1 : Int) < 4294967296 := by omega
  go_enter Tryd.func37, Tryd.ntmps37
  go_upto_region 1 with (fail)
  go_quiet (fail)
  go_upto_region 2 with (fail)
  go_quiet (fail)
  go_wp2_with fail
  go_loopw [8, 9] (fun vq vr wr => ∃ q r : Nat, vq = .int .u64 (q : Int) ∧ vr = .int .u64 (r : Int) ∧ q * v1 + r = u2 * 4294967296 + u1 ∧ (U3 / V2 ≤ q ∨ 4294967295 ≤ q) ∧ q ≤ 4294967297 ∧ (r < 4294967296 ∨ q ≤ 4294967296) ∧ r < 8589934592 ∧ wr.cell? ⟨g, o, none⟩ = some (.int .u32 (u0 : Int)) ∧ Below w.heap.size w wr) (fun vq _ _ => (intOf vq).toNat)
  case atStart => exact ⟨q0, r0, rfl, by rw [hrI], HDM.o, HQG.o, hq0b, .inl (by omega), by omega, c0, below_drewN (below_drewN (Below.refl _ _) _) _⟩
  case round =>
    obtain ⟨q, r, rfl, rfl, hqr, hqg, hqb, hor2, hrb, hc0, hbe⟩ := hrel
    have HQR := hy' hqr
    have HQG2 := hy' hqg
    have HOR2 := hy' hor2
    have HBE := hy' hbe
    have HC0 := hy' hc0
    clear hqr hqg hor2 hbe c0 c1 c2
    have q00 : (0 : Int) ≤ q := by omega
    have r00 : (0 : Int) ≤ r := by omega
    by_cases hrB : r < 4294967296
    · have rI : (r : Int) < 4294967296 := by omega
      by_cases hqB : 4294967296 ≤ q
      · have qI : (q : Int) ≥ 4294967296 := by omega
        obtain ⟨k1, k2, k3⟩ := Nm.guess_step (by omega) HQR.o (u0 := u0) (v0 := v0) (by rw [HU3.o, HV2.o]; exact HQG2.o) (.inl hqB)
        rw [HU3.o, HV2.o] at k3
        have K1 := hy' k1
        have K2 := hy' k2
        have K3 := hy' k3
        have q1 : (1 : Int) ≤ q := by omega
        have tb : (r : Int) + v1 < 18446744073709551616 := by omega
        clear k1 k2 k3
        go_wp2_with fail
        exact ⟨⟨q - 1, r + v1, by rw [show ((q - 1 : Nat) : Int) = (q : Int) - 1 by omega], by rw [show ((r + v1 : Nat) : Int) = (r : Int) + v1 by omega], K2.o, K3.o, by omega, by omega, by omega, HC0.o, HBE.o⟩, by simp [intOf]; omega⟩
      · have qI : ¬ (q : Int) ≥ 4294967296 := by omega
        obtain ⟨qv, hqv⟩ : ∃ n, q * v0 = n := ⟨_, rfl⟩
        have hqvI : (q : Int) * v0 = qv := by rw [← hqv]; exact (Int.natCast_mul _ _).symm
        have hqvb : qv < 18446744073709551616 := by
          rw [← hqv]
          have : q * v0 ≤ 4294967295 * 4294967295 := Nat.mul_le_mul (by omega) (by omega)
          omega
        obtain ⟨T, hT⟩ : ∃ T, r * 4294967296 + u0 = T := ⟨_, rfl⟩
        have horT := Nm.two64 h0 hrB hT
        have er2 : (r : Int) * 4294967296 < 18446744073709551616 := by omega
        have qv0 : (0 : Int) ≤ qv := by omega
        have qv1 : (qv : Int) < 18446744073709551616 := by omega
        by_cases hgt : T < qv
        · have gI : (T : Int) < qv := by omega
          obtain ⟨k1, k2, k3⟩ := Nm.guess_step (by omega) HQR.o (u0 := u0) (v0 := v0) (by rw [HU3.o, HV2.o]; exact HQG2.o) (.inr (by rw [hqv, hT]; exact hgt))
          rw [HU3.o, HV2.o] at k3
          have K1 := hy' k1
          have K2 := hy' k2
          have K3 := hy' k3
          have q1 : (1 : Int) ≤ q := by omega
          have tb : (r : Int) + v1 < 18446744073709551616 := by omega
          clear k1 k2 k3 hT hqv
          go_wp2_with fail
          exact ⟨⟨q - 1, r + v1, by rw [show ((q - 1 : Nat) : Int) = (q : Int) - 1 by omega], by rw [show ((r + v1 : Nat) : Int) = (r : Int) + v1 by omega], K2.o, K3.o, by omega, by omega, by omega, HC0.o, HBE.o⟩, by have := K1.o; simp [intOf]; omega⟩
        · have gI : ¬ (T : Int) < qv := by omega
          have hend := Nm.guess_end (u0 := u0) hv0 HQR.o (by omega) (.inr (by rw [hqv, hT]; omega))
          rw [HU3.o, HV2.o] at hend
          have HEND := hy' hend
          clear hend hT hqv
          go_wp2_with fail
          go_ret
          exact ⟨q, rfl, by omega, HEND.o, HQG2.o, HBE.o⟩
    · have rI : ¬ (r : Int) < 4294967296 := by omega
      have hend := Nm.guess_end (u0 := u0) hv0 HQR.o (by have := HOR2.o; omega) (.inl (by omega))
      rw [HU3.o, HV2.o] at hend
      have HEND := hy' hend
      clear hend
      go_wp2_with fail
      go_ret
      exact ⟨q, rfl, by have := HOR2.o; omega, HEND.o, HQG2.o, HBE.o⟩
end Go.Proofs.YthcdecncnppjaaaDoor
