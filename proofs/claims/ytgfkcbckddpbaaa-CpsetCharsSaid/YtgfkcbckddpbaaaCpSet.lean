/- The law's Set, awake, by walking their texts. -/
import Derived.Test.YtgfkcbckddpbaaaCpRight
namespace Go.Proofs.Ytgfkcbckddpbaaa
open Go.RowKit
set_option linter.unusedSimpArgs false
set_option linter.unusedVariables false

theorem C.good_bd {rs : List (Int × Int)} (h : C.good rs = true) : ∀ r ∈ rs, (-2147483648 ≤ r.1 ∧ r.1 ≤ 2147483647) ∧ -2147483648 ≤ r.2 ∧ r.2 ≤ 2147483647 := by
  intro r hr
  have := List.all_eq_true.1 h r hr
  simp at this
  omega
theorem C.ofS_ok {rs : List (Int × Int)} (h : C.good rs = true) : C.ok (C.ofS rs) ∧ (C.ofS rs).length ≤ 2 * rs.length + 4 := by
  obtain ⟨h1, h2⟩ := C.ofL_ok rs h
  have h3 := C.mrg_len C.andF (C.ofL rs) C.all
  have h4 : C.all.length = 4 := rfl
  refine ⟨C.mrg_ok C.andF rfl h1 C.all_ok, ?_⟩
  unfold C.ofS
  omega

set_option maxRecDepth 100000 in
set_option maxHeartbeats 1000000 in
theorem C.awake_any (w : World) : Calls Try.prog 4 #[] w fun e w' => e = .returned (.bool true) ∧ Below w.heap.size w w' := by
  go_enter Try.func4, Try.ntmps4
  go_wp2_with fail
  have hS := Sl.lit (w := w.alloc (.cells #[.int .i32 97, .int .i32 99, .int .i32 98, .int .i32 101] 45)) (A := some ⟨w.heap.size, 0, none⟩) (xs := C.fl .i32 [(97, 99), (98, 101)]) rfl 45 (0, 0) (heap_alloc_new w _)
  refine (C.of_any _ 2 2 _ [(97, 99), (98, 101)] _ rfl (by decide) (by simp) (Nat.le_refl _) hS).mono ?_
  rintro e w2 ⟨hr, _⟩
  have hr2 := hr (by decide)
  have e1 : C.ofS [(97, 99), (98, 101)] = [97, 102] := by decide +kernel
  rw [e1] at hr2
  obtain ⟨A2, c2, rfl, hown2, hb2⟩ := hr2
  have hal : Below w.heap.size w (w.alloc (.cells #[.int .i32 97, .int .i32 99, .int .i32 98, .int .i32 101] 45)) := (Below.refl _ _).alloc (Nat.le_refl _) _
  have hok := C.one_ok 97 101 (by decide) (by decide) (by decide)
  have hba : Below w2.heap.size w2 (w2.alloc (.cells #[.slice A2 2 c2] 25)) := (Below.refl _ _).alloc (Nat.le_refl _) _
  have HS2 := Lib.hid ((Sl.of_own hown2).belowN hba (Nat.le_refl _) hba.size)
  have HOK := Lib.hid hok
  clear hr e1 hS hok
  go_wp2_with fail
  refine (C.ranges_any A2 c2 2 _ [97, 102] _ rfl (by decide) rfl HOK.out.2.1 (Nat.le_refl _) HS2.out).mono ?_
  rintro e w3 ⟨A3, c3, rfl, hown3, hb3⟩
  have e2 : C.rngs [97, 102] = [(97, 101)] := by decide
  rw [e2] at hown3 ⊢
  obtain ⟨b3, o3, rfl, hl3, hc30, hc31⟩ := (Sl.of_own hown3).pair (i := 0) (r := (97, 101)) rfl
  simp only [Nat.zero_mul, Nat.add_zero] at hc30 hc31
  have hb23 := hba.trans (hb3.mono hba.size)
  have hblk := (hb3.block w2.heap.size (by simp)).trans (heap_alloc_new w2 _)
  obtain ⟨d1, d2⟩ := blk_cell hblk 0
  simp only [List.getElem?_toArray, List.getElem?_cons_zero] at d1
  have HBK := Lib.hid hblk
  have HS3 := Lib.hid (HS2.out.belowN hb3 (by simp <;> omega) hb3.size)
  clear e2 hblk
  go_wp2_with fail
  refine (C.count_any A2 c2 2 _ [97, 102] _ rfl (by decide) HOK.out (Nat.le_refl _) HS3.out).mono ?_
  rintro e w4 ⟨rfl, hb4⟩
  have e3 : C.count [97, 102] = 5 := by decide
  rw [e3]
  have f1 := ((bcell hb4).1 w2.heap.size 0 (by have := hb23.size; have := (heap_lt HBK.out); omega)).trans d1
  have HS4 := Lib.hid (HS3.out.belowN hb4 (Nat.le_refl _) hb4.size)
  clear e3
  go_wp2_with fail
  refine (C.not_any A2 c2 2 _ [97, 102] _ rfl (by decide) HOK.out.1 (Nat.le_refl _) HS4.out).mono ?_
  have e4 : C.mrg C.lessF C.all [97, 102] = [0, 97, 102, 55296, 57344, 1114112] := by decide +kernel
  rw [e4]
  rintro e w5 ⟨A5, c5, rfl, hown5, hb5⟩
  have HS5 := Lib.hid (Sl.of_own hown5)
  clear e4
  go_wp2_with fail
  refine (C.ranges_any A5 c5 6 _ [0, 97, 102, 55296, 57344, 1114112] _ rfl (by decide) rfl (by simp) (Nat.le_refl _) HS5.out).mono ?_
  have e5 : C.rngs [0, 97, 102, 55296, 57344, 1114112] = [(0, 96), (102, 55295), (57344, 1114111)] := by decide
  rw [e5]
  rintro e w6 ⟨A6, c6, rfl, hown6, hb6⟩
  clear e5
  go_wp2
  go_ret
  refine ⟨rfl, ?_⟩
  have h := hal.trans (hb2.mono (by simp))
  have h2 := h.trans (hb23.mono h.size)
  have h3 := h2.trans (hb4.mono h2.size)
  have h4 := h3.trans (hb5.mono h3.size)
  exact h4.trans (hb6.mono h4.size)
end Go.Proofs.Ytgfkcbckddpbaaa
