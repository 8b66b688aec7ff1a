/- strconv.FormatInt at base 16, of a character's number: by walking its text. -/
import Derived.Test.YtppmcnpjglackaaGreatDoorFiPlain
import Derived.Lib.ItoaWalk
import Derived.Lib.ItoaMem
import Derived.Laws.MathBits
import Derived.Deep.DeepCutAuto
import Derived.Laws.BitsAllLaws
namespace Go.Proofs.YtppmcnpjglackaaGreatDoor
open Go.RowKit Go.Stop
set_option linter.unusedSimpArgs false
set_option linter.unusedVariables false

/-- The cells of the library that are read: MaxLen (any number), and what bits.TrailingZeros64 reads at 16. -/
def Fi.Laid (w : World) : Prop := (∃ m : Int, w.cell? ⟨2, 0, none⟩ = some (.int .i64 m)) ∧ w.cell? ⟨6, 15, none⟩ = some (.int .u8 4)

theorem Fi.pow2_any (w : World) : Calls Tryz.prog 133 #[.int .i64 16] w fun e w' => e = .returned (.bool true) ∧ w' = w := by
  have h : bits .and .i64 16 15 = 0 := by decide +kernel
  go_enter Tryz.func133, Tryz.ntmps133
  go_wp2
  go_ret
  exact ⟨by simp [h], rfl⟩

set_option maxHeartbeats 1000000 in
theorem Fi.tz64_any (w : World) (hL : Fi.Laid w) : Calls Tryz.prog 152 #[.int .u64 16] w fun e w' => e = .returned (.int .i64 4) ∧ w' = w := by
  have hc := hL.2
  have h1 : IntKind.u64.wrap (-16) = 18446744073709551600 := by decide +kernel
  have h2 : bits .and .u64 16 18446744073709551600 = 16 := by decide +kernel
  clear hL
  go_enter Tryz.func152, Tryz.ntmps152
  go_wp2_with fail
  go_ret
  exact ⟨rfl, rfl⟩
theorem Fi.tz_any (w : World) (hL : Fi.Laid w) : Calls Tryz.prog 134 #[.int .u64 16] w fun e w' => e = .returned (.int .i64 4) ∧ w' = w := by
  go_enter Tryz.func134, Tryz.ntmps134
  go_wp2_with (refine (Fi.tz64_any _ (by assumption)).mono ?_; rintro e w1 ⟨rfl, rfl⟩)
  go_ret
  exact ⟨rfl, rfl⟩

def Fi.dig : ByteArray := ⟨#[48, 49, 50, 51, 52, 53, 54, 55, 56, 57, 97, 98, 99, 100, 101, 102, 103, 104, 105, 106, 107, 108, 109, 110, 111, 112, 113, 114, 115, 116, 117, 118, 119, 120, 121, 122]⟩
theorem Fi.dig_at : ∀ d : Fin 16, Fi.dig.data.toList.getD d.val 0 = Fi.lo d.val := by decide
theorem Fi.dig_size : Fi.dig.size = 36 := rfl
theorem Fi.dig_idx (W : World) (d : Nat) (h : d < 16) : (Instr.index 9 (.string ⟨#[48, 49, 50, 51, 52, 53, 54, 55, 56, 57, 97, 98, 99, 100, 101, 102, 103, 104, 105, 106, 107, 108, 109, 110, 111, 112, 113, 114, 115, 116, 117, 118, 119, 120, 121, 122]⟩) (.int .u64 (d : Int))).run Tryz.prog W = .ok (.int .u8 ((Fi.lo d).toNat : Int)) W := by
  show (Instr.index 9 (.string Fi.dig) (.int .u64 (d : Int))).run Tryz.prog W = _
  rw [run_index_string W 9 Fi.dig .u64 _ Tryz.underlying9, dif_pos ⟨by omega, by rw [Fi.dig_size]; omega⟩]
  have e : ((d : Int)).toNat = d := by omega
  simp only [e]
  rw [Lib.getD_at Fi.dig d (by rw [Fi.dig_size]; omega), Fi.dig_at ⟨d, h⟩]

/-- What the array's cells are when the last k digits of c stand in it. -/
def Fi.arr (c k j : Nat) : Int := if 65 - k ≤ j then ((Fi.lo (c / 16 ^ (64 - j) % 16)).toNat : Int) else 0
def Fi.Arr (W : World) (B c k : Nat) : Prop := (∀ j, j < 65 → W.cell? ⟨B, j, none⟩ = some (.int .u8 (Fi.arr c k j)) ∧ W.frozen? ⟨B, j, none⟩ = false)
theorem Fi.Arr.put {W : World} {B c k : Nat} (h : Fi.Arr W B c k) (hk : k < 65) (v : Nat) (hv : (Fi.lo (c / 16 ^ k % 16)).toNat = v) : Fi.Arr (W.setCell ⟨B, 64 - k, none⟩ (.int .u8 (v : Int))) B c (k + 1) := by
  intro j hj
  refine ⟨?_, by rw [World.frozen?_setCell]; exact (h j hj).2⟩
  rcases Nat.decEq j (64 - k) with hne | rfl
  · rw [World.cell?_setCell_other _ _ _ _ (by simp; try omega), (h j hj).1]
    unfold Fi.arr
    by_cases h1 : 65 - k ≤ j
    · rw [if_pos h1, if_pos (by omega)]
    · rw [if_neg h1, if_neg (by omega)]
  · rw [World.cell?_setCell_same _ _ _ (h _ hj).1]
    unfold Fi.arr
    rw [if_pos (by omega), show 64 - (64 - k) = k by omega, hv]
theorem Fi.zero_at (j : Fin 65) : (Tryz.zeroCells175)[j.val]? = some (.int .u8 0) := by
  have e : Tryz.zeroCells175 = Array.replicate 65 (.int .u8 0) := by kernel_rfl
  rw [e]; simp [j.isLt]
theorem Fi.Laid.alloc {w : World} (h : Fi.Laid w) (o : Obj) : Fi.Laid (w.alloc o) := by
  obtain ⟨⟨m, h1⟩, h2⟩ := h
  exact ⟨⟨m, by rw [World.cell?_alloc_lt _ _ _ (World.block_lt_of_cell? w _ h1)]; exact h1⟩, by rw [World.cell?_alloc_lt _ _ _ (World.block_lt_of_cell? w _ h2)]; exact h2⟩

set_option maxRecDepth 100000 in
set_option maxHeartbeats 4000000 in
theorem Fi.bits_any (c : Nat) (hc : c < 16777216) (w : World) (hL : Fi.Laid w) :
    Calls Tryz.prog 106 #[.slice none 0 0, .int .u64 c, .int .i64 16, .bool false, .bool false] w fun e w' => e = .returned (.tuple #[.slice none 0 0, .string ⟨((Fi.low (Fi.nd c) c).map Fi.lo).toArray⟩]) ∧ Below w.heap.size w w' := by
  obtain ⟨W1, hW1⟩ : ∃ W1, w.alloc (Obj.cells Tryz.zeroCells175 175) = W1 := ⟨_, rfl⟩
  have L1 : Fi.Laid W1 := by rw [← hW1]; exact hL.alloc _
  have B1 : Below w.heap.size w W1 := by rw [← hW1]; exact (Below.refl _ _).alloc (Nat.le_refl _) _
  have A1 : Fi.Arr W1 w.heap.size c 0 := by
    rw [← hW1]
    intro j hj
    refine ⟨?_, World.frozen?_alloc_new _ _ _ _⟩
    rw [World.cell?_alloc_new, Fi.zero_at ⟨j, hj⟩]
    unfold Fi.arr
    rw [if_neg (by omega)]
  have S1 : w.heap.size < W1.heap.size := by rw [← hW1]; simp
  obtain ⟨B, hB⟩ : ∃ B, w.heap.size = B := ⟨_, rfl⟩
  have HBB := Lib.hid hB
  rw [hB] at B1 A1 S1
  have HW := Lib.hid hW1
  have HB := Lib.hid B1
  have HA := Lib.hid A1
  have hq : 1 ≤ Fi.nd c ∧ Fi.nd c ≤ 6 := ⟨Fi.nd_pos c, Fi.nd_le 5 c (by rw [show (16 : Nat) ^ (5 + 1) = 16777216 from by decide]; exact hc)⟩
  clear hW1 B1 A1 hL
  go_enter Tryz.func106, Tryz.ntmps106
  go_upto_region 7 with (fail)
  rw [HW.out]
  go_wp2_with (fail)
  refine (Fi.pow2_any _).mono ?_
  rintro e w1 ⟨rfl, rfl⟩
  go_wp2_with (fail)
  refine (Fi.tz_any _ L1).mono ?_
  rintro e w2 ⟨rfl, rfl⟩
  go_wp2_with (fail)
  go_loopw [1, 13] (fun vu vi wr => ∃ k x : Nat, vu = .int .u64 x ∧ vi = .int .i64 (65 - (k : Int)) ∧ k + 1 ≤ Fi.nd c ∧ x = c / 16 ^ k ∧ Fi.Arr wr B c k ∧ Below B w wr ∧ B < wr.heap.size) (fun vu _ _ => (intOf vu).toNat)
  case atStart => exact ⟨0, c, rfl, rfl, by omega, by simp, HA.out, HB.out, S1⟩
  case round =>
    obtain ⟨k, x, rfl, rfl, hk, hx, hA, hBl, hS⟩ := hrel
    obtain ⟨w3, rfl⟩ : ∃ w3 : World, w3 = wr := ⟨_, rfl⟩
    have hd : x % 16 < 16 := by omega
    have hxc : x < 16777216 := by
      have := Nat.div_le_self c (16 ^ k)
      omega
    have hi64 : (0 : Int) ≤ 65 - (k : Int) - 1 := by omega
    have hi65 : (65 - (k : Int) - 1) < 65 := by omega
    have hz : (65 - (k : Int) - 1).toNat = 64 - k := by omega
    obtain ⟨d, hdd⟩ : ∃ d, x % 16 = d := ⟨_, rfl⟩
    rw [hdd] at hd
    have HK := Lib.hid hk
    have HX := Lib.hid hx
    have HBL := Lib.hid hBl
    have HD := Lib.hid hdd
    obtain ⟨v, hv⟩ : ∃ v, (Fi.lo d).toNat = v := ⟨_, rfl⟩
    have hA2 : Fi.Arr (w3.setCell ⟨B, 64 - k, none⟩ (.int .u8 (v : Int))) B c (k + 1) := hA.put (by omega) v (by rw [← hx, hdd, hv])
    have hcell := (hA (64 - k) (by omega)).1
    have hfroz := (hA (64 - k) (by omega)).2
    have HA2 := Lib.hid hA2
    have hidx : ∀ W, (Instr.index 9 (.string ⟨#[48, 49, 50, 51, 52, 53, 54, 55, 56, 57, 97, 98, 99, 100, 101, 102, 103, 104, 105, 106, 107, 108, 109, 110, 111, 112, 113, 114, 115, 116, 117, 118, 119, 120, 121, 122]⟩) (.int .u64 (d : Int))).run Tryz.prog W = .ok (.int .u8 (v : Int)) W := fun W => by rw [← hv]; exact Fi.dig_idx W d hd
    by_cases hge : (x : Int) ≥ 16
    · have h15 : bits .and .u64 (x : Int) 15 = (d : Int) := by
        rw [show (15 : Int) = ((15 : Nat) : Int) from rfl, u64_and_nat x 15 (by omega) (by omega), show 15 = 2 ^ 4 - 1 from rfl, Nat.and_two_pow_sub_one_eq_mod, ← hdd]
      have hsh : ((x : Int)).fdiv (2 ^ min (Int.toNat 4) IntKind.u64.bits) = ((x / 16 : Nat) : Int) := by
        rw [show (2 : Int) ^ min (Int.toNat 4) IntKind.u64.bits = 16 from rfl, Int.fdiv_eq_ediv_of_nonneg _ (by decide)]
        omega
      have hk2 : k + 2 ≤ Fi.nd c := by
        have h1 : 16 ^ (k + 1) ≤ c := by
          have h16 : 16 ≤ c / 16 ^ k := by rw [← hx]; omega
          have := (Nat.le_div_iff_mul_le (Nat.pow_pos (by decide) : 0 < 16 ^ k)).1 h16
          rw [Nat.pow_succ]; omega
        have := Fi.nd_ge c (k + 1) h1
        omega
      have hx2 : x / 16 = c / 16 ^ (k + 1) := by rw [hx, Nat.div_div_eq_div_mul, ← Nat.pow_succ]
      have HX2 := Lib.hid hx2
      have HK2 := Lib.hid hk2
      clear hA hA2 hx hBl hdd hv hk hx2 hk2
      go_wp2_with (fail)
      exact ⟨⟨k + 1, x / 16, by go_num, by go_num, HK2.out, HX2.out, HA2.out, HBL.out.setCell (Nat.le_refl _) _, by simpa [World.setCell] using hS⟩, by simp [intOf]; omega⟩
    · have hdx : d = x := by omega
      subst hdx
      have hk2 : Fi.nd c = k + 1 := by
        have : Fi.nd c ≤ k + 1 := Fi.nd_le k c (by
          have h1 : c / 16 ^ k < 16 := by rw [← hx]; omega
          have := (Nat.div_lt_iff_lt_mul (Nat.pow_pos (by decide) : 0 < 16 ^ k)).1 h1
          rw [Nat.pow_succ]; omega)
        omega
      have hal : Tryz.prog.arrayLen 175 = 65 := by kernel_rfl
      have hsl : ∀ W, (Instr.sliceAt 175 (.pointer (some ⟨B, 0, none⟩)) (some (.int .i64 (65 - (k : Int) - 1))) none none).run Tryz.prog W = .ok (.slice (some ⟨B, 64 - k, none⟩) (k + 1) (k + 1)) W := fun W => by
        rw [run_sliceAt_array_l W 175 ⟨B, 0, none⟩ (by kernel_rfl) .i64 (65 - (k : Int) - 1) (by omega) (by rw [hal]; omega), hal]
        go_simp
        omega
      have hcv : (convert 74 9 (.slice (some ⟨B, 64 - k, none⟩) (k + 1) (k + 1))).run Tryz.prog (w3.setCell ⟨B, 64 - k, none⟩ (.int .u8 (v : Int))) = .ok (.string ⟨((Fi.low (Fi.nd c) c).map Fi.lo).toArray⟩) (w3.setCell ⟨B, 64 - k, none⟩ (.int .u8 (v : Int))) := by
        have hlen : ((Fi.low (Fi.nd c) c).map Fi.lo).length = k + 1 := by rw [List.length_map, Fi.low_len, hk2]
        have h := run_convert_bytes_back (P := Tryz.prog) (w3.setCell ⟨B, 64 - k, none⟩ (.int .u8 (v : Int))) 74 9 5 ⟨B, 64 - k, none⟩ (k + 1) ((Fi.low (Fi.nd c) c).map Fi.lo) Tryz.underlying74 Tryz.underlying5 Tryz.underlying9 (fun j hj => by
          rw [hlen] at hj
          rw [Lib.add_plain, (hA2 (64 - k + j) (by omega)).1]
          unfold Fi.arr
          rw [if_pos (by omega), show 64 - (64 - k + j) = k - j by omega]
          congr 2
          have hget : (Fi.low (Fi.nd c) c)[j]? = some (c / 16 ^ (k - j) % 16) := by
            rw [hk2, Fi.low_get (k + 1) c j (by omega)]
            congr 3
          rw [List.getElem_map, (List.getElem?_eq_some_iff.1 hget).2])
        rw [hlen] at h
        exact h
      clear hal hA hA2 hx hBl hdd hv hk hk2
      go_wp2_with (fail)
      go_ret2
      exact ⟨rfl, by first | exact HBL.out.setCell (Nat.le_refl _) _ | (rw [HBB.out]; exact HBL.out.setCell (Nat.le_refl _) _)⟩

/-- strconv.FormatInt of a character's number at base 16. -/
theorem Fi.format_any (c : Nat) (hc : c < 16777216) (w : World) (hL : Fi.Laid w) :
    Calls Tryz.prog 42 #[.int .i64 c, .int .i64 16] w fun e w' => e = .returned (.string ⟨((Fi.low (Fi.nd c) c).map Fi.lo).toArray⟩) ∧ Below w.heap.size w w' := by
  have inner : ∀ w : World, Fi.Laid w → Calls Tryz.prog 64 #[.int .i64 c, .int .i64 16] w fun e w' => e = .returned (.string ⟨((Fi.low (Fi.nd c) c).map Fi.lo).toArray⟩) ∧ Below w.heap.size w w' := by
    intro w hL
    have hneg : ¬ (c : Int) < 0 := by omega
    go_enter Tryz.func64, Tryz.ntmps64
    go_wp2_with (refine (Fi.bits_any c hc _ (by assumption)).mono ?_; rintro e w1 ⟨rfl, hb⟩)
    go_ret
    exact ⟨rfl, hb⟩
  go_enter Tryz.func42, Tryz.ntmps42
  go_wp2_with (refine (inner _ (by assumption)).mono ?_; rintro e w1 ⟨rfl, hb⟩)
  go_ret
  exact ⟨rfl, hb⟩
end Go.Proofs.YtppmcnpjglackaaGreatDoor
