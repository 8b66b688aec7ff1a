/- The layer cpset: place, Has, by walking their texts. -/
import Derived.Test.YtamcpdggpdaioaaDoorMdLook
import Derived.Test.YtamcpdggpdaioaaDoorCpPlainD
namespace Go.Proofs.YtamcpdggpdaioaaDoor
open Go.RowKit
set_option linter.unusedSimpArgs false
set_option linter.unusedVariables false

theorem C.nanC_any (x : Int) (w : World) : Calls Tryd.prog 75 #[.int .i32 x] w fun e w' => e = .returned (.bool false) ∧ w = w' := by
  go_enter Tryd.func75, Tryd.ntmps75
  go_wp2
  go_ret
  exact ⟨by simp, rfl⟩
theorem C.nanS_any (x : Int) (w : World) : Calls Tryd.prog 76 #[.int .i32 x] w fun e w' => e = .returned (.bool false) ∧ w = w' := by
  go_enter Tryd.func76, Tryd.ntmps76
  go_wp2
  go_ret
  exact ⟨by simp, rfl⟩

set_option maxRecDepth 100000 in
theorem C.lessR_any (x y : Int) (w : World) : Calls Tryd.prog 64 #[.int .i32 x, .int .i32 y] w fun e w' => e = .returned (.bool (decide (x < y))) ∧ w = w' := by
  go_enter Tryd.func64, Tryd.ntmps64
  go_wp2_with fail
  refine (C.nanC_any _ _).mono ?_
  rintro e w1 ⟨rfl, rfl⟩
  go_wp2
  go_ret
  exact ⟨rfl, rfl⟩

set_option maxRecDepth 100000 in
set_option maxHeartbeats 2000000 in
theorem C.search_any (A : Option Addr) (c n B : Nat) (l : List Int) (d : Int) (w : World) (hn : l.length = n) (hn' : n ≤ 1000000) (hs : C.srt l) (hA : Sl w B A (l.map (Value.int .i32))) :
    Calls Tryd.prog 69 #[.slice A n c, .int .i32 d] w (fun e w' => e = .returned (.tuple #[.int .i64 (C.ltN l d : Nat), .bool (C.hit l d)]) ∧ Below w.heap.size w w') := by
  have HN := Lib.hid hn
  have HS := Lib.hid hs
  have hP := C.ltN_le l d
  rw [hn] at hP
  obtain ⟨P, hp⟩ : ∃ P, C.ltN l d = P := ⟨_, rfl⟩
  rw [hp] at hP
  have HP := Lib.hid hp
  clear hn hs hp
  go_enter Tryd.func69, Tryd.ntmps69
  go_wp2
  go_loop [7, 8] (fun vi vj => ∃ i j : Nat, i ≤ P ∧ P ≤ j ∧ j ≤ n ∧ vi = .int .i64 i ∧ vj = .int .i64 j) (fun vi vj => (intOf vj).toNat - (intOf vi).toNat)
  case atStart => exact ⟨0, n, by omega, hP, Nat.le_refl _, rfl, rfl⟩
  case round =>
    obtain ⟨i, j, hi, hj, hjn, rfl, rfl⟩ := hrel
    by_cases hlt : (i : Int) < j
    · obtain ⟨x, hx⟩ : ∃ x, l[(i + j) / 2]? = some x := ⟨_, List.getElem?_eq_getElem (by rw [HN.out]; omega)⟩
      obtain ⟨b, o, rfl, hlb, hc, _⟩ := hA.ints hx
      have hcmp := C.ltN_lt HS.out hx d
      rw [HP.out] at hcmp
      have m0 : (0 : Int) ≤ (((i + j) / 2 : Nat) : Int) := by omega
      have m1 : (((i + j) / 2 : Nat) : Int) < n := by omega
      go_wp2_with fail
      refine (C.lessR_any _ _ _).mono ?_
      rintro e w1 ⟨rfl, rfl⟩
      by_cases hd : x < d
      · have hk := hcmp.1 hd
        have hdd : decide (x < d) = true := decide_eq_true hd
        clear hcmp
        go_wp2
        exact ⟨⟨(i + j) / 2 + 1, j, by omega, by omega, by omega, by go_num, by go_num⟩, by simp [intOf]; omega⟩
      · have hk : ¬ (i + j) / 2 < P := fun h => hd (hcmp.2 h)
        have hdd : decide (x < d) = false := decide_eq_false hd
        clear hcmp
        go_wp2
        exact ⟨⟨i, (i + j) / 2, by omega, by omega, by omega, by go_num, by go_num⟩, by simp [intOf]; omega⟩
    · obtain rfl : i = P := by omega
      obtain rfl : i = j := by omega
      by_cases hin : (i : Int) < n
      · obtain ⟨x, hx⟩ : ∃ x, l[i]? = some x := ⟨_, List.getElem?_eq_getElem (by rw [HN.out]; omega)⟩
        obtain ⟨b, o, rfl, hlb, hc, _⟩ := hA.ints hx
        have hh : C.hit l d = (x == d) := by unfold C.hit; rw [HP.out, hx]; rfl
        have HH := Lib.hid hh
        clear hx hh
        have m0 : (0 : Int) ≤ (i : Int) := by omega
        rcases hxd : (x == d) with _ | _
        · go_wp2
          go_ret2
          rw [HP.out, HH.out, hxd]
          exact ⟨rfl, Below.refl _ _⟩
        · go_wp2
          go_ret2
          rw [HP.out, HH.out, hxd]
          exact ⟨rfl, Below.refl _ _⟩
      · have hh : C.hit l d = false := by
          unfold C.hit
          rw [HP.out, List.getElem?_eq_none (by rw [HN.out]; omega)]
          rfl
        have HH := Lib.hid hh
        clear hh
        go_wp2
        go_ret2
        rw [HP.out, HH.out]
        exact ⟨rfl, Below.refl _ _⟩

def C.plc (l : List Int) (d : Int) : Nat := C.ltN l d + (if C.hit l d = true then 1 else 0)

set_option maxRecDepth 100000 in
set_option maxHeartbeats 1000000 in
theorem C.place_any (A : Option Addr) (c n B : Nat) (l : List Int) (d : Int) (w : World) (hn : l.length = n) (hn' : n ≤ 1000000) (hs : C.srt l) (hB : B ≤ w.heap.size) (hA : Sl w B A (l.map (Value.int .i32))) :
    Calls Tryd.prog 54 #[.agg #[.slice A n c], .int .i32 d] w (fun e w' => e = .returned (.int .i64 (C.plc l d : Nat)) ∧ Below w.heap.size w w') := by
  have HF := Lib.hid (C.search_any A c n B l d)
  have HN := Lib.hid hn
  have HS := Lib.hid hs
  have hP := C.ltN_le l d
  rw [hn] at hP
  have hpl : C.plc l d = C.ltN l d + (if C.hit l d = true then 1 else 0) := rfl
  obtain ⟨P, hp⟩ : ∃ P, C.ltN l d = P := ⟨_, rfl⟩
  obtain ⟨q, hq⟩ : ∃ q, C.hit l d = q := ⟨_, rfl⟩
  rw [hp, hq] at hpl
  rw [hp] at hP
  rw [hp, hq] at HF
  have HPL := Lib.hid hpl
  clear hn hs hp hq hpl
  go_enter Tryd.func54, Tryd.ntmps54
  go_wp2_with fail
  have hal : Below w.heap.size w (w.alloc (.cells #[.slice A n c] 32)) := (Below.refl _ _).alloc (Nat.le_refl _) _
  refine (HF.out _ HN.out hn' HS.out (hA.belowN hal hB (Nat.le_refl _))).mono ?_
  rintro e w1 ⟨rfl, hbel⟩
  have hb1 := hal.trans (hbel.mono (by simp))
  rcases q with _ | _
  · go_wp2
    go_ret
    exact ⟨by rw [HPL.out]; rfl, hb1⟩
  · go_wp2
    go_ret
    exact ⟨by rw [HPL.out]; rfl, hb1⟩

set_option maxRecDepth 100000 in
set_option maxHeartbeats 1000000 in
theorem C.has_any (A : Option Addr) (c n B : Nat) (l : List Int) (d : Int) (w : World) (hn : l.length = n) (hn' : n ≤ 1000000) (hs : C.srt l) (hB : B ≤ w.heap.size) (hA : Sl w B A (l.map (Value.int .i32))) :
    Calls Tryd.prog 38 #[.agg #[.slice A n c], .int .i32 d] w (fun e w' => e = .returned (.bool (C.mem l d)) ∧ Below w.heap.size w w') := by
  have HF := Lib.hid (C.place_any A c n B l d)
  have hP := C.ltN_le l d
  rw [hn] at hP
  have HN := Lib.hid hn
  have HS := Lib.hid hs
  have hm := C.mem_par hs d
  have hpl : C.plc l d ≤ n + 1 := by unfold C.plc; split <;> omega
  change C.mem l d = ((C.plc l d % 2) == 1) at hm
  obtain ⟨q, hq⟩ : ∃ q, C.plc l d = q := ⟨_, rfl⟩
  rw [hq] at HF hm hpl
  have HM := Lib.hid hm
  have hb := C.and_one q (by omega)
  clear hn hs hq hm
  go_enter Tryd.func38, Tryd.ntmps38
  go_wp2_with fail
  have hal : Below w.heap.size w (w.alloc (.cells #[.slice A n c] 32)) := (Below.refl _ _).alloc (Nat.le_refl _) _
  refine (HF.out _ HN.out hn' HS.out (by simp <;> omega) (hA.belowN hal hB (Nat.le_refl _))).mono ?_
  rintro e w1 ⟨rfl, hbel⟩
  have hb1 := hal.trans (hbel.mono (by simp))
  go_wp2
  go_ret
  refine ⟨?_, hb1⟩
  rw [HM.out]
  refine ret_bool ?_
  rw [Bool.eq_iff_iff]
  simp
  omega
end Go.Proofs.YtamcpdggpdaioaaDoor
