/- The layer cpset: Same, Within, All, Not, by walking their texts. -/
import Derived.Test.YtppmcnpjglackaaGreatDoorCpOps
namespace Go.Proofs.YtppmcnpjglackaaGreatDoor
open Go.RowKit
set_option linter.unusedSimpArgs false
set_option linter.unusedVariables false

theorem C.fld (v : Value) (w : World) : (Instr.field 42 (.agg #[v]) 0).run Tryz.prog w = .ok v w := by
  have h1 := Tryz.underlying42
  have h2 := Tryz.underlying29
  simp [Instr.field, run_underlying h1, asAgg, Go.part, isAgg, run_underlying h2]

set_option maxRecDepth 100000 in
set_option maxHeartbeats 1000000 in
theorem C.equal_any (A A' : Option Addr) (c c' n m B : Nat) (a b : List Int) (w : World) (hn : a.length = n) (hm : b.length = m) (hn' : n ≤ 1000000) (hm' : m ≤ 1000000) (hB : B ≤ w.heap.size)
    (hA : Sl w B A (a.map (Value.int .i32))) (hA' : Sl w B A' (b.map (Value.int .i32))) :
    Calls Tryz.prog 40 #[.slice A n c, .slice A' m c'] w fun e w' => e = .returned (.bool (decide (a = b))) ∧ Below w.heap.size w w' := by
  have HN := Lib.hid hn
  have HM := Lib.hid hm
  obtain ⟨r, hr⟩ : ∃ r, decide (a = b) = r := ⟨_, rfl⟩
  rw [hr]
  have HR := Lib.hid hr
  clear hn hm hr
  go_enter Tryz.func40, Tryz.ntmps40
  by_cases hnm : n = m
  · subst hnm
    go_wp2
    go_loopw [13] (fun vi wr => ∃ k : Nat, k ≤ n ∧ vi = .int .i64 k ∧ a.take k = b.take k ∧ Below w.heap.size w wr) (fun vi _ => n - (intOf vi).toNat)
    case atStart => exact ⟨0, by omega, rfl, rfl, Below.refl _ _⟩
    case round =>
      obtain ⟨k, hk, rfl, heq, hbel⟩ := hrel
      have HEQ := Lib.hid heq
      clear heq
      by_cases hlt : (k : Int) < n
      · obtain ⟨x, hx⟩ : ∃ x, a[k]? = some x := ⟨_, List.getElem?_eq_getElem (by rw [HN.out]; omega)⟩
        obtain ⟨y, hy⟩ : ∃ y, b[k]? = some y := ⟨_, List.getElem?_eq_getElem (by rw [HM.out]; omega)⟩
        obtain ⟨b1, o1, rfl, hl1, hc1, _⟩ := (hA.belowN hbel hB (Nat.le_refl _)).ints hx
        obtain ⟨b2, o2, rfl, hl2, hc2, _⟩ := (hA'.belowN hbel hB (Nat.le_refl _)).ints hy
        have HX := Lib.hid hx
        have HY := Lib.hid hy
        have m0 : (0 : Int) ≤ (k : Int) := by omega
        clear hx hy
        rcases hxy : (x != y) with _ | _
        · go_wp2
          go_quiet (fail)
          go_wp2
          have exy : x = y := by simpa using hxy
          refine ⟨⟨k + 1, by omega, by go_num, ?_, below_drewN hbel _⟩, by simp [intOf]; omega⟩
          rw [List.take_add_one, List.take_add_one, HX.out, HY.out, HEQ.out, exy]
        · have hne : r = false := by
            rw [← HR.out]
            refine decide_eq_false fun h => ?_
            have h1 := HX.out
            rw [h, HY.out] at h1
            simp only [Option.some.injEq] at h1
            simp [h1] at hxy
          have HNE := Lib.hid hne
          clear hne
          go_wp2
          go_quiet (fail)
          go_wp2
          go_ret
          exact ⟨by rw [HNE.out]; rfl, below_drewN hbel _⟩
      · obtain rfl : k = n := by omega
        have hab : r = true := by
          rw [← HR.out]
          refine decide_eq_true ?_
          have h1 := HEQ.out
          rwa [List.take_of_length_le (by rw [HN.out]; omega), List.take_of_length_le (by rw [HM.out]; omega)] at h1
        have HAB := Lib.hid hab
        clear hab
        go_wp2
        go_ret
        exact ⟨by rw [HAB.out]; rfl, hbel⟩
  · have hne : r = false := by
      rw [← HR.out]
      refine decide_eq_false fun h => hnm ?_
      rw [← HN.out, ← HM.out, h]
    have HNE := Lib.hid hne
    clear hne
    have hd : ((n : Int) != m) = true := by simp; omega
    go_wp2
    go_ret
    exact ⟨by rw [HNE.out]; rfl, Below.refl _ _⟩

set_option maxRecDepth 100000 in
set_option maxHeartbeats 1000000 in
theorem C.same_any (A A' : Option Addr) (c c' n m B : Nat) (a b : List Int) (w : World) (hn : a.length = n) (hm : b.length = m) (hn' : n ≤ 1000000) (hm' : m ≤ 1000000) (hB : B ≤ w.heap.size)
    (hA : Sl w B A (a.map (Value.int .i32))) (hA' : Sl w B A' (b.map (Value.int .i32))) :
    Calls Tryz.prog 19 #[.agg #[.slice A n c], .agg #[.slice A' m c']] w fun e w' => e = .returned (.bool (decide (a = b))) ∧ Below w.heap.size w w' := by
  have HE := Lib.hid (C.equal_any A A' c c' n m B a b)
  have HN := Lib.hid hn
  have HM := Lib.hid hm
  clear hn hm
  obtain ⟨r, hr⟩ : ∃ r, decide (a = b) = r := ⟨_, rfl⟩
  rw [hr] at HE ⊢
  clear hr
  go_enter Tryz.func19, Tryz.ntmps19
  go_wp2_with fail
  have hal : Below w.heap.size w ((w.alloc (.cells #[.slice A n c] 42)).alloc (.cells #[.slice A' m c'] 42)) := ((Below.refl _ _).alloc (Nat.le_refl _) _).alloc (by simp <;> omega) _
  refine (HE.out _ HN.out HM.out hn' hm' (by simp <;> omega) (hA.belowN hal hB (Nat.le_refl _)) (hA'.belowN hal hB (Nat.le_refl _))).mono ?_
  rintro e w1 ⟨rfl, hbel⟩
  go_wp2
  go_ret
  exact ⟨rfl, hal.trans (hbel.mono (by simp <;> omega))⟩

end Go.Proofs.YtppmcnpjglackaaGreatDoor
