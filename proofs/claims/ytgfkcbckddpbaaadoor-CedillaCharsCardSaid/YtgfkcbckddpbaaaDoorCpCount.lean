/- The layer cpset: Count, Index, At, by walking their texts. -/
import Derived.Test.YtgfkcbckddpbaaaDoorCpRngs
import Derived.Test.YtgfkcbckddpbaaaDoorCpPlainC
namespace Go.Proofs.YtgfkcbckddpbaaaDoor
open Go.RowKit
set_option linter.unusedSimpArgs false
set_option linter.unusedVariables false

/-- Element i of a row of pairs. -/
theorem Sl.pair {w : World} {B : Nat} {A : Option Addr} {k : IntKind} {rs : List (Int × Int)} (h : Sl w B A (C.fl k rs)) {i : Nat} {r : Int × Int} (hr : rs[i]? = some r) :
    ∃ b o, A = some ⟨b, o, none⟩ ∧ b < B ∧ w.cell? ⟨b, o + i * 2, none⟩ = some (.int k r.1) ∧ w.cell? ⟨b, o + i * 2 + 1, none⟩ = some (.int k r.2) := by
  have hi : i < rs.length := (List.getElem?_eq_some_iff.1 hr).1
  obtain ⟨b, o, hA, hb, hc⟩ := h (by rw [C.fl_len]; omega)
  obtain ⟨h0, h1⟩ := C.fl_get k rs i r hr
  refine ⟨b, o, hA, hb, ?_, ?_⟩
  · rw [Nat.mul_comm, hc _ (by rw [C.fl_len]; omega), h0]
  · rw [Nat.mul_comm, Nat.add_assoc, hc _ (by rw [C.fl_len]; omega), h1]

set_option maxRecDepth 100000 in
set_option maxHeartbeats 1000000 in
theorem C.count_any (A : Option Addr) (c n B : Nat) (l : List Int) (w : World) (hn : l.length = n) (hn' : n ≤ 1000000) (hok : C.ok l) (hB : B ≤ w.heap.size) (hA : Sl w B A (l.map (Value.int .i32))) :
    Calls Tryd.prog 29 #[.agg #[.slice A n c]] w (fun e w' => e = .returned (.int .i64 (C.count l)) ∧ Below w.heap.size w w') := by
  have HR := Lib.hid (C.ranges_any A c n B l)
  have HN := Lib.hid hn
  have HOK := Lib.hid hok
  obtain ⟨cb1, cb2⟩ := C.count_bd hok
  have hpa := C.part_all l
  have hrl := C.rngs_len l
  rw [hn] at hrl
  obtain ⟨rs, hrs⟩ : ∃ rs, C.rngs l = rs := ⟨_, rfl⟩
  have HRS := Lib.hid hrs
  rw [hrs] at HR hpa hrl
  obtain ⟨m, hm⟩ : ∃ m, rs.length = m := ⟨_, rfl⟩
  rw [hm] at hpa hrl
  have HM := Lib.hid hm
  have HPA := Lib.hid hpa
  have hm' : m ≤ 500000 := by omega
  clear hn hok hpa hrl hrs hm
  go_enter Tryd.func29, Tryd.ntmps29
  go_wp2_with fail
  have hal : Below w.heap.size w (w.alloc (.cells #[.slice A n c] 54)) := (Below.refl _ _).alloc (Nat.le_refl _) _
  refine (HR.out _ HN.out hn' (by have := HOK.out.2.2; rw [HN.out] at this; exact this) HOK.out.2.1 (by simp; omega) (hA.belowN hal hB (Nat.le_refl _))).mono ?_
  rintro e w1 ⟨A5, c5, rfl, hown, hbel⟩
  have hS := Lib.hid (Sl.of_own hown)
  have hb1 := hal.trans (hbel.mono (by simp))
  rw [HM.out] at hown ⊢
  go_wp2
  go_loopw [9, 3] (fun vi v wr => ∃ i : Nat, i ≤ m ∧ vi = .int .i64 i ∧ v = .int .i64 (C.part l i) ∧ Below w1.heap.size w1 wr) (fun vi _ _ => m - (intOf vi).toNat)
  case atStart => exact ⟨0, by omega, rfl, by rw [C.part0], Below.refl _ _⟩
  case round =>
    obtain ⟨i, hi, rfl, rfl, hbr⟩ := hrel
    by_cases hlt : (i : Int) < m
    · obtain ⟨r, hr⟩ : ∃ r, rs[i]? = some r := ⟨_, List.getElem?_eq_getElem (by rw [HM.out]; omega)⟩
      obtain ⟨b, o, rfl, hlb, hc0, hc1⟩ := hS.out.pair hr
      rw [← (bcell hbr).1 _ _ (by omega)] at hc0 hc1
      have hr0 := hr
      rw [← HRS.out] at hr
      obtain ⟨r1, r2, r3, r4⟩ := C.rng_bd HOK.out hr
      have hp := Lib.hid (C.part_step HOK.out hr)
      obtain ⟨p1, p2⟩ := C.part_bd HOK.out i
      obtain ⟨p3, p4⟩ := C.part_bd HOK.out (i + 1)
      rw [hp.out] at p3 p4
      have hn0 : (0 : Int) ≤ (i : Int) := by omega
      clear hr hr0
      have hsr : w1.heap.size ≤ wr.heap.size := hbr.size
      go_wp2
      refine ⟨⟨i + 1, by omega, by go_num, ?_, ?_⟩, by simp [intOf]; omega⟩
      · rw [hp.out]
      · exact hbr.alloc hsr _
    · obtain rfl : i = m := by omega
      go_wp2
      go_ret
      exact ⟨ret_int HPA.out, hb1.trans (hbr.mono (by have := hb1.size; omega))⟩
set_option maxRecDepth 100000 in
set_option maxHeartbeats 1000000 in
theorem C.index_any (A : Option Addr) (c n B : Nat) (l : List Int) (d : Int) (w : World) (hn : l.length = n) (hn' : n ≤ 1000000) (hok : C.ok l) (hd1 : -2147483648 ≤ d) (hd2 : d ≤ 2147483647) (hB : B ≤ w.heap.size) (hA : Sl w B A (l.map (Value.int .i32))) :
    Calls Tryd.prog 23 #[.agg #[.slice A n c], .int .i32 d] w (fun e w' => e = .returned (.int .i64 (C.idx l d)) ∧ Below w.heap.size w w') := by
  have HR := Lib.hid (C.ranges_any A c n B l)
  have HN := Lib.hid hn
  have HOK := Lib.hid hok
  obtain ⟨cb1, cb2⟩ := C.count_bd hok
  have hpa := C.idxP_all l d
  have hrl := C.rngs_len l
  rw [hn] at hrl
  obtain ⟨rs, hrs⟩ : ∃ rs, C.rngs l = rs := ⟨_, rfl⟩
  have HRS := Lib.hid hrs
  rw [hrs] at HR hpa hrl
  obtain ⟨m, hm⟩ : ∃ m, rs.length = m := ⟨_, rfl⟩
  rw [hm] at hpa hrl
  have HM := Lib.hid hm
  have HPA := Lib.hid hpa
  have hm' : m ≤ 500000 := by omega
  clear hn hok hpa hrl hrs hm
  go_enter Tryd.func23, Tryd.ntmps23
  go_wp2_with fail
  have hal : Below w.heap.size w (w.alloc (.cells #[.slice A n c] 54)) := (Below.refl _ _).alloc (Nat.le_refl _) _
  refine (HR.out _ HN.out hn' (by have := HOK.out.2.2; rw [HN.out] at this; exact this) HOK.out.2.1 (by simp; omega) (hA.belowN hal hB (Nat.le_refl _))).mono ?_
  rintro e w1 ⟨A5, c5, rfl, hown, hbel⟩
  have hS := Lib.hid (Sl.of_own hown)
  have hb1 := hal.trans (hbel.mono (by simp))
  rw [HM.out] at hown ⊢
  go_wp2
  go_loopw [11, 5] (fun vi v wr => ∃ i : Nat, i ≤ m ∧ vi = .int .i64 i ∧ v = .int .i64 (C.idxP l d i) ∧ Below w1.heap.size w1 wr) (fun vi _ _ => m - (intOf vi).toNat)
  case atStart => exact ⟨0, by omega, rfl, by rw [C.idxP0], Below.refl _ _⟩
  case round =>
    obtain ⟨i, hi, rfl, rfl, hbr⟩ := hrel
    by_cases hlt : (i : Int) < m
    · obtain ⟨r, hr⟩ : ∃ r, rs[i]? = some r := ⟨_, List.getElem?_eq_getElem (by rw [HM.out]; omega)⟩
      obtain ⟨b, o, rfl, hlb, hc0, hc1⟩ := hS.out.pair hr
      rw [← (bcell hbr).1 _ _ (by omega)] at hc0 hc1
      have hr0 := hr
      rw [← HRS.out] at hr
      obtain ⟨r1, r2, r3, r4⟩ := C.rng_bd HOK.out hr
      obtain ⟨p1, p2⟩ := C.idxP_bd HOK.out d i
      obtain ⟨p3, p4⟩ := C.idxP_bd HOK.out d (i + 1)
      have hn0 : (0 : Int) ≤ (i : Int) := by omega
      have hsr : w1.heap.size ≤ wr.heap.size := hbr.size
      by_cases hgt : r.1 < d
      · have hp := Lib.hid (C.idxP_in HOK.out hr hgt)
        rw [hp.out] at p3 p4
        clear hr hr0
        by_cases hmn : d - 1 ≤ r.2
        · have hmin : min (d - 1) r.2 = d - 1 := by omega
          rw [hmin] at hp p3 p4
          go_wp2
          refine ⟨⟨i + 1, by omega, by go_num, ?_, hbr.alloc hsr _⟩, by simp [intOf]; omega⟩
          rw [hp.out]
          first | done | exact congrArg _ (by omega)
        · have hmin : min (d - 1) r.2 = r.2 := by omega
          rw [hmin] at hp p3 p4
          go_wp2
          refine ⟨⟨i + 1, by omega, by go_num, ?_, hbr.alloc hsr _⟩, by simp [intOf]; omega⟩
          rw [hp.out]
          first | done | exact congrArg _ (by omega)
      · have hp := Lib.hid (C.idxP_out HOK.out hr hgt)
        clear hr hr0
        go_wp2
        refine ⟨⟨i + 1, by omega, by go_num, ?_, hbr.alloc hsr _⟩, by simp [intOf]; omega⟩
        rw [hp.out]
    · obtain rfl : i = m := by omega
      go_wp2
      go_ret
      exact ⟨ret_int HPA.out, hb1.trans (hbr.mono (by have := hb1.size; omega))⟩
set_option maxRecDepth 100000 in
set_option maxHeartbeats 1000000 in
theorem C.at_any (A : Option Addr) (c n B : Nat) (l : List Int) (q : Int) (w : World) (hn : l.length = n) (hn' : n ≤ 1000000) (hok : C.ok l) (hq1 : -9223372036854775808 ≤ q) (hq2 : q ≤ 9223372036854775807) (hB : B ≤ w.heap.size) (hA : Sl w B A (l.map (Value.int .i32))) :
    Calls Tryd.prog 22 #[.agg #[.slice A n c], .int .i64 q] w (fun e w' => e = .returned (.tuple #[.int .i32 (C.at l q).1, .bool (C.at l q).2]) ∧ Below w.heap.size w w') := by
  have HR := Lib.hid (C.ranges_any A c n B l)
  have HN := Lib.hid hn
  have HOK := Lib.hid hok
  obtain ⟨cb1, cb2⟩ := C.count_bd hok
  have hrl := C.rngs_len l
  rw [hn] at hrl
  obtain ⟨rs, hrs⟩ : ∃ rs, C.rngs l = rs := ⟨_, rfl⟩
  have HRS := Lib.hid hrs
  rw [hrs] at HR hrl
  obtain ⟨m, hm⟩ : ∃ m, rs.length = m := ⟨_, rfl⟩
  rw [hm] at hrl
  have HM := Lib.hid hm
  have hm' : m ≤ 500000 := by omega
  clear hn hok hrl hrs hm
  go_enter Tryd.func22, Tryd.ntmps22
  by_cases hneg : q < 0
  · have hat := Lib.hid (C.at_neg l hneg)
    go_wp2
    go_ret2
    rw [hat.out]
    exact ⟨rfl, (Below.refl _ _).alloc (Nat.le_refl _) _⟩
  have hat := Lib.hid (C.at_pos l hneg)
  go_wp2_with fail
  have hal : Below w.heap.size w (w.alloc (.cells #[.slice A n c] 54)) := (Below.refl _ _).alloc (Nat.le_refl _) _
  refine (HR.out _ HN.out hn' (by have := HOK.out.2.2; rw [HN.out] at this; exact this) HOK.out.2.1 (by simp; omega) (hA.belowN hal hB (Nat.le_refl _))).mono ?_
  rintro e w1 ⟨A5, c5, rfl, hown, hbel⟩
  have hS := Lib.hid (Sl.of_own hown)
  have hb1 := hal.trans (hbel.mono (by simp))
  rw [HM.out] at hown ⊢
  go_wp2
  go_loopw [14, 1] (fun vi v wr => ∃ (i : Nat) (p : Int), i ≤ m ∧ vi = .int .i64 i ∧ v = .int .i64 p ∧ 0 ≤ p ∧ p ≤ q ∧ C.atK l q = C.atK (l.drop (2 * i)) p ∧ Below w1.heap.size w1 wr) (fun vi _ _ => m - (intOf vi).toNat)
  case atStart => exact ⟨0, q, by omega, rfl, rfl, by omega, by omega, rfl, Below.refl _ _⟩
  case round =>
    obtain ⟨i, p, hi, rfl, rfl, hp0, hp1, hk, hbr⟩ := hrel
    have HK := Lib.hid hk
    clear hk
    by_cases hlt : (i : Int) < m
    · obtain ⟨r, hr⟩ : ∃ r, rs[i]? = some r := ⟨_, List.getElem?_eq_getElem (by rw [HM.out]; omega)⟩
      obtain ⟨b, o, rfl, hlb, hc0, hc1⟩ := hS.out.pair hr
      rw [← (bcell hbr).1 _ _ (by omega)] at hc0 hc1
      have hr0 := hr
      rw [← HRS.out] at hr
      obtain ⟨r1, r2, r3, r4⟩ := C.rng_bd HOK.out hr
      obtain ⟨t, ht1, ht2⟩ := C.rngs_drop hr
      have HT1 := Lib.hid ht1
      have HT2 := Lib.hid ht2
      have hn0 : (0 : Int) ≤ (i : Int) := by omega
      have hsr : w1.heap.size ≤ wr.heap.size := hbr.size
      clear hr hr0 ht1 ht2
      by_cases hin : p < r.2 - r.1 + 1
      · go_wp2
        go_ret2
        refine ⟨?_, hb1.trans ((hbr.alloc hsr _).mono (by have := hb1.size; omega))⟩
        rw [hat.out, HK.out, HT1.out]
        have e : C.atK (r.1 :: (r.2 + 1) :: t) p = (r.1 + p, true) := by
          show (if p < r.2 + 1 - r.1 then _ else _) = _
          rw [if_pos (by omega)]
        rw [e]
        rfl
      · go_wp2
        refine ⟨⟨i + 1, p - (r.2 - r.1 + 1), by omega, by go_num, by go_num, by omega, by omega, ?_, hbr.alloc hsr _⟩, by simp [intOf]; omega⟩
        rw [HK.out, HT1.out, HT2.out]
        show (if p < r.2 + 1 - r.1 then _ else _) = _
        rw [if_neg (by omega)]
        exact congrArg _ (by omega)
    · obtain rfl : i = m := by omega
      have hz : l.drop (2 * i) = [] := List.drop_of_length_le (by have := C.rngs_len l; have h2 := HOK.out.2.2; rw [HRS.out, HM.out] at this; omega)
      have HZ := Lib.hid hz
      clear hz
      go_wp2
      go_ret2
      rw [hat.out, HK.out, HZ.out]
      exact ⟨rfl, hb1.trans (hbr.mono (by have := hb1.size; omega))⟩
end Go.Proofs.YtgfkcbckddpbaaaDoor
