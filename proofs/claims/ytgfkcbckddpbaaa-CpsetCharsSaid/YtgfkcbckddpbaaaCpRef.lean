/- The document's Good and Has, by walking their texts. -/
import Derived.Test.YtgfkcbckddpbaaaCpArgs
import Derived.Test.YtgfkcbckddpbaaaCpPlainE
namespace Go.Proofs.Ytgfkcbckddpbaaa
open Go.RowKit
set_option linter.unusedSimpArgs false
set_option linter.unusedVariables false

set_option maxRecDepth 100000 in
theorem C.ris_any (c : Int) (w : World) : Calls Try.prog 22 #[.int .i64 c] w fun e w' => e = .returned (.bool (C.isC c)) ∧ w = w' := by
  obtain ⟨q, hq⟩ : ∃ q, C.isC c = q := ⟨_, rfl⟩
  rw [hq]
  have HQ := Lib.hid hq
  clear hq
  go_enter Try.func22, Try.ntmps22
  by_cases h0 : 0 ≤ c
  · by_cases h1 : c ≤ 1114111
    · by_cases h2 : c < 55296
      · go_wp2
        go_ret
        exact ⟨by rw [← HQ.out]; exact ret_bool (by unfold C.isC; symm; exact decide_eq_true (by omega)), rfl⟩
      · by_cases h3 : 57343 < c
        · go_wp2
          go_ret
          exact ⟨by rw [← HQ.out]; exact ret_bool (by unfold C.isC; symm; exact decide_eq_true (by omega)), rfl⟩
        · go_wp2
          go_ret
          exact ⟨by rw [← HQ.out]; exact ret_bool (by unfold C.isC; symm; exact decide_eq_false (by omega)), rfl⟩
    · go_wp2
      go_ret
      exact ⟨by rw [← HQ.out]; exact ret_bool (by unfold C.isC; symm; exact decide_eq_false (by omega)), rfl⟩
  · go_wp2
    go_ret
    exact ⟨by rw [← HQ.out]; exact ret_bool (by unfold C.isC; symm; exact decide_eq_false (by omega)), rfl⟩

theorem C.inR_take {rs : List (Int × Int)} {i : Nat} {r : Int × Int} (h : rs[i]? = some r) (c : Int) : C.inR (rs.take (i + 1)) c = (C.inR (rs.take i) c || decide (r.1 ≤ c ∧ c ≤ r.2)) := by
  unfold C.inR
  rw [List.take_add_one, h, List.any_append]
  simp

set_option maxRecDepth 100000 in
set_option maxHeartbeats 1000000 in
theorem C.rhas_any (A : Option Addr) (cap m B : Nat) (rs : List (Int × Int)) (c : Int) (w : World) (hl : rs.length = m) (hm : m ≤ 1000000) (hB : B ≤ w.heap.size) (hA : Sl w B A (C.fl .i64 rs)) :
    Calls Try.prog 9 #[.slice A m cap, .int .i64 c] w fun e w' => e = .returned (.bool (C.inR rs c && C.isC c)) ∧ Below w.heap.size w w' := by
  have HL := Lib.hid hl
  clear hl
  obtain ⟨q, hq⟩ : ∃ q, (C.inR rs c && C.isC c) = q := ⟨_, rfl⟩
  obtain ⟨p, hp⟩ : ∃ p, C.isC c = p := ⟨_, rfl⟩
  have HI := Lib.hid (C.ris_any c)
  rw [hp] at hq HI
  rw [hp, hq]
  have HQ := Lib.hid hq
  clear hq hp
  go_enter Try.func9, Try.ntmps9
  go_wp2
  go_loopw [9] (fun vi wr => ∃ i : Nat, i ≤ m ∧ vi = .int .i64 i ∧ (C.inR (rs.take i) c && p) = false ∧ Below w.heap.size w wr) (fun vi _ => m - (intOf vi).toNat)
  case atStart => exact ⟨0, by omega, rfl, rfl, Below.refl _ _⟩
  case round =>
    obtain ⟨i, hi, rfl, hno, hbel⟩ := hrel
    have HNO := Lib.hid hno
    clear hno
    have hsz : w.heap.size ≤ wr.heap.size := hbel.size
    by_cases hlt : (i : Int) < m
    · obtain ⟨r, hr⟩ : ∃ r, rs[i]? = some r := ⟨_, List.getElem?_eq_getElem (by rw [HL.out]; omega)⟩
      obtain ⟨b, o, rfl, hlb, hc0, hc1⟩ := hA.pair hr
      rw [← (bcell hbel).1 _ _ (by omega)] at hc0 hc1
      have HR := Lib.hid hr
      have hn0 : (0 : Int) ≤ (i : Int) := by omega
      have hba := hbel.alloc hsz (.cells #[.int .i64 r.1, .int .i64 r.2] 29)
      have hnx := C.inR_take hr c
      have HNX := Lib.hid hnx
      clear hr hnx
      by_cases t1 : r.1 ≤ c
      · have t1d : decide (r.1 ≤ c) = true := decide_eq_true t1
        by_cases t2 : c ≤ r.2
        · have t2d : decide (c ≤ r.2) = true := decide_eq_true t2
          go_wp2_with fail
          refine (HI.out _).mono ?_
          rintro e w1 ⟨rfl, rfl⟩
          rcases p with _ | _
          · go_wp2
            exact ⟨⟨i + 1, by omega, by go_num, by rw [Bool.and_false], hba⟩, by simp [intOf]; omega⟩
          · have hyes : q = true := by
              rw [← HQ.out, Bool.and_true]
              exact List.any_eq_true.2 ⟨r, List.mem_of_getElem? HR.out, decide_eq_true ⟨t1, t2⟩⟩
            subst hyes
            go_wp2
            go_ret
            exact ⟨rfl, hba⟩
        · have t2d : decide (c ≤ r.2) = false := decide_eq_false t2
          go_wp2
          refine ⟨⟨i + 1, by omega, by go_num, ?_, hba⟩, by simp [intOf]; omega⟩
          rw [HNX.out, decide_eq_false (by omega), Bool.or_false]
          exact HNO.out
      · have t1d : decide (r.1 ≤ c) = false := decide_eq_false t1
        go_wp2
        refine ⟨⟨i + 1, by omega, by go_num, ?_, hba⟩, by simp [intOf]; omega⟩
        rw [HNX.out, decide_eq_false (by omega), Bool.or_false]
        exact HNO.out
    · obtain rfl : i = m := by omega
      have e0 : rs.take i = rs := List.take_of_length_le (by rw [HL.out]; omega)
      have hgd := HNO.out
      rw [e0, HQ.out] at hgd
      subst hgd
      clear e0
      go_wp2
      go_ret
      exact ⟨rfl, hbel⟩
end Go.Proofs.Ytgfkcbckddpbaaa
