/- The package nat, by walking its text: Same, Compare, Add. -/
import Derived.Test.YthcdecncnppjaaaDoorNmNat
import Derived.OwnWalk
import Derived.Deep.DeepCutAuto
namespace Go.Proofs.YthcdecncnppjaaaDoor
open Go.RowKit
set_option linter.unusedSimpArgs false
set_option linter.unusedVariables false
set_option maxRecDepth 100000 in
set_option maxHeartbeats 2000000 in
theorem Nm.equal_any (A A' : Option Addr) (n m c c' B : Nat) (a b : List Nat) (w : World) (hn : a.length = n) (hm : b.length = m) (hnb : n ≤ 1000000) (hB : B ≤ w.heap.size) (hA : Sl w B A (Nm.u32s a)) (hA' : Sl w B A' (Nm.u32s b)) :
    Calls Tryd.prog 27 #[.slice A n c, .slice A' m c'] w fun e w' => e = .returned (.bool (decide (a = b))) ∧ Below w.heap.size w w' := by
  have HN := hy' hn
  have HM := hy' hm
  obtain ⟨r, hr⟩ : ∃ r, decide (a = b) = r := ⟨_, rfl⟩
  rw [hr]
  have HR := hy' hr
  clear hn hm hr
  go_enter Tryd.func27, Tryd.ntmps27
  by_cases hnm : n = m
  · subst hnm
    go_wp2
    go_loopw [13] (fun vi wr => ∃ k : Nat, k ≤ n ∧ vi = .int .i64 k ∧ a.take k = b.take k ∧ Below w.heap.size w wr) (fun vi _ => n - (intOf vi).toNat)
    case atStart => exact ⟨0, by omega, rfl, rfl, Below.refl _ _⟩
    case round =>
      obtain ⟨k, hk, rfl, heq, hbel⟩ := hrel
      have HEQ := hy' heq
      clear heq
      by_cases hlt : (k : Int) < n
      · obtain ⟨x, hx⟩ : ∃ x, a[k]? = some x := ⟨_, List.getElem?_eq_getElem (by rw [HN.o]; omega)⟩
        obtain ⟨y, hy⟩ : ∃ y, b[k]? = some y := ⟨_, List.getElem?_eq_getElem (by rw [HM.o]; omega)⟩
        obtain ⟨b1, o1, rfl, hl1, hc1⟩ := Nm.sl_get (hA.belowN hbel hB (Nat.le_refl _)) hx
        obtain ⟨b2, o2, rfl, hl2, hc2⟩ := Nm.sl_get (hA'.belowN hbel hB (Nat.le_refl _)) hy
        have HX := hy' hx
        have HY := hy' hy
        have m0 : (0 : Int) ≤ (k : Int) := by omega
        clear hx hy
        rcases hxy : ((x : Int) != y) with _ | _
        · go_wp2
          go_quiet (fail)
          go_wp2
          have exy : x = y := by have := hxy; simp at this; omega
          refine ⟨⟨k + 1, by omega, by go_num, ?_, below_drewN hbel _⟩, by simp [intOf]; omega⟩
          rw [List.take_add_one, List.take_add_one, HX.o, HY.o, HEQ.o, exy]
        · have hne : r = false := by
            rw [← HR.o]
            refine decide_eq_false fun h => ?_
            have h1 := HX.o
            rw [h, HY.o] at h1
            simp only [Option.some.injEq] at h1
            simp [h1] at hxy
          have HNE := hy' hne
          clear hne
          go_wp2
          go_quiet (fail)
          go_wp2
          go_ret
          exact ⟨by rw [HNE.o]; rfl, below_drewN hbel _⟩
      · obtain rfl : k = n := by omega
        have hab : r = true := by
          rw [← HR.o]
          refine decide_eq_true ?_
          have h1 := HEQ.o
          rwa [List.take_of_length_le (by rw [HN.o]; omega), List.take_of_length_le (by rw [HM.o]; omega)] at h1
        have HAB := hy' hab
        clear hab
        go_wp2
        go_ret
        exact ⟨by rw [HAB.o]; rfl, hbel⟩
  · have hne : r = false := by
      rw [← HR.o]
      refine decide_eq_false fun h => ?_
      have h1 := HN.o
      rw [h, HM.o] at h1
      omega
    have HNE := hy' hne
    have hI : ¬ (n : Int) = m := by omega
    clear hne
    go_wp2
    go_ret
    exact ⟨by rw [HNE.o]; rfl, Below.refl _ _⟩
set_option maxRecDepth 100000 in
set_option maxHeartbeats 2000000 in
theorem Nm.same_any (u v : Value) (x y L L' : Nat) (w : World) (hL : L ≤ 1000000) (h : Nm.Is w u x L) (h' : Nm.Is w v y L') :
    Calls Tryd.prog 13 #[u, v] w fun e w' => e = .returned (.bool (decide (x = y))) ∧ Below w.heap.size w w' := by
  obtain ⟨A, m, c, l, rfl, hm, hsl, hcan, hval, hmL⟩ := h
  obtain ⟨A', m', c', l', rfl, hm', hsl', hcan', hval', hmL'⟩ := h'
  have hal : Below w.heap.size w ((w.alloc (.cells #[.slice A m c] 27)).alloc (.cells #[.slice A' m' c'] 27)) := ((Below.refl _ _).alloc (Nat.le_refl _) _).alloc (by simp) _
  have HE := hy' (Nm.equal_any A A' m m' c c' _ l l' _ hm hm' (by omega) hal.size (hsl.sl.belowN hal (Nat.le_refl _) (Nat.le_refl _)) (hsl'.sl.belowN hal (Nat.le_refl _) (Nat.le_refl _)))
  have he : decide (l = l') = decide (x = y) := by
    by_cases hxy : x = y
    · rw [decide_eq_true hxy]; exact decide_eq_true (Nm.can_inj hcan hcan' (by rw [hval, hval', hxy]))
    · rw [decide_eq_false hxy]; exact decide_eq_false fun e => hxy (by rw [← hval, ← hval', e])
  rw [he] at HE
  have HAL := hy' hal
  obtain ⟨b, hb⟩ : ∃ b, decide (x = y) = b := ⟨_, rfl⟩
  rw [hb] at HE ⊢
  clear hm hsl hcan hval hm' hsl' hcan' hval' hal he hb
  go_enter Tryd.func13, Tryd.ntmps13
  go_wp2_with fail
  refine HE.o.mono ?_
  rintro e w1 ⟨rfl, hb1⟩
  have HB := hy' (HAL.o.trans (hb1.mono HAL.o.size))
  clear hb1
  go_wp2_with fail
  go_ret
  exact ⟨rfl, HB.o⟩
set_option maxRecDepth 100000 in
set_option maxHeartbeats 2000000 in
theorem Nm.compare_any (u v : Value) (x y L L' : Nat) (w : World) (hL : L ≤ 1000000) (hL' : L' ≤ 1000000) (h : Nm.Is w u x L) (h' : Nm.Is w v y L') :
    Calls Tryd.prog 16 #[u, v] w fun e w' => ∃ k : Int, e = .returned (.int .i64 k) ∧ (k < 0 ↔ x < y) ∧ Below w.heap.size w w' := by
  have HL1 := hy' (fun W (hW : Below w.heap.size w W) (i : Nat) (hi : i ≤ 1000000) => Nm.limb_any u x L i W hi hL (h.below hW))
  have HL2 := hy' (fun W (hW : Below w.heap.size w W) (i : Nat) (hi : i ≤ 1000000) => Nm.limb_any v y L' i W hi hL' (h'.below hW))
  obtain ⟨A, m, c, l, rfl, hm, hsl, hcan, hval, hmL⟩ := h
  obtain ⟨A', m', c', l', rfl, hm', hsl', hcan', hval', hmL'⟩ := h'
  obtain ⟨M, hM⟩ : ∃ M, max m m' = M := ⟨_, rfl⟩
  have hMI : max (m : Int) m' = M := by omega
  have hMb : M ≤ 1000000 := by omega
  have ht1 : x / 4294967296 ^ M = 0 := by rw [← hval]; exact Nm.cmp_top hcan.1 (by omega)
  have ht2 : y / 4294967296 ^ M = 0 := by rw [← hval']; exact Nm.cmp_top hcan'.1 (by omega)
  have HT := hy' (ht1.trans ht2.symm)
  obtain ⟨w1, hw1⟩ : ∃ w1, (w.alloc (.cells #[.slice A m c] 27)).alloc (.cells #[.slice A' m' c'] 27) = w1 := ⟨_, rfl⟩
  have hal : Below w.heap.size w w1 := by rw [← hw1]; exact ((Below.refl _ _).alloc (Nat.le_refl _) _).alloc (by simp) _
  have hb0 : w1.heap[w.heap.size]? = some (.cells #[.slice A m c] 27 (0, 0)) := by
    rw [← hw1]; exact (Below.heap_alloc _ _ _ (by simp)).trans (heap_alloc_new w _)
  have hb1 : w1.heap[w.heap.size + 1]? = some (.cells #[.slice A' m' c'] 27 (0, 0)) := by
    rw [← hw1]; exact (by simp : (w.alloc (.cells #[.slice A m c] 27)).heap.size = w.heap.size + 1) ▸ heap_alloc_new (w.alloc (.cells #[.slice A m c] 27)) _
  have HAL := hy' hal
  have HB0 := hy' hb0
  have HB1 := hy' hb1
  have HW := hy' hw1
  clear hm hsl hcan hval hm' hsl' hcan' hval' hal ht1 ht2 hb0 hb1 hw1 hM
  go_enter Tryd.func16, Tryd.ntmps16
  go_upto_region 1 with (fail)
  rw [HW.o]
  have hk0 := (blk_cell HB0.o 0).1
  have hk1 := (blk_cell HB1.o 0).1
  simp only [List.getElem?_toArray, List.getElem?_cons_zero] at hk0 hk1
  have hg0 := heap_lt HB0.o
  have hg1 := heap_lt HB1.o
  have HK0 := hy' hk0
  have HK1 := hy' hk1
  go_cut [5] (fun v wx => v = .int .i64 ((M : Int) - 1) ∧ wx = w1)
  case first =>
    go_wp2_with fail
    · go_meet
      exact ⟨by congr 1; omega, rfl⟩
    · go_meet
      exact ⟨by congr 1; omega, rfl⟩
  case rest =>
  obtain ⟨rfl, hwx⟩ := hcut
  replace hwx := hwx.symm
  subst hwx
  clear hk0 hk1
  go_wp2_with fail
  go_loopw [5] (fun vi wr => ∃ k : Nat, k ≤ M ∧ vi = .int .i64 ((k : Int) - 1) ∧ x / 4294967296 ^ k = y / 4294967296 ^ k ∧ Below w1.heap.size w1 wr) (fun vi _ => (intOf vi + 1).toNat)
  case atStart => exact ⟨M, Nat.le_refl _, rfl, HT.o, Below.refl _ _⟩
  case round =>
    obtain ⟨k, hk, rfl, heq, hbe⟩ := hrel
    have HEQ := hy' heq
    have HBE := hy' hbe
    clear heq hbe
    rcases k with _ | k
    · go_wp2_with fail
      go_ret
      refine ⟨0, rfl, ⟨fun h => by omega, fun h => ?_⟩, HAL.o.trans (HBE.o.mono HAL.o.size)⟩
      have := HEQ.o
      simp at this
      omega
    · have ek : ((k + 1 : Nat) : Int) - 1 = k := by omega
      rw [ek]
      have hbw := HBE.o.size
      have hc0 := (bcell HBE.o).1 w.heap.size 0 hg0
      have hc1 := (bcell HBE.o).1 (w.heap.size + 1) 0 hg1
      rw [HK0.o] at hc0
      rw [HK1.o] at hc1
      have e0 := Ext.cells hc0 (by omega)
      have e1 := Ext.cells hc1 (by omega)
      have C1 := hy' (Ext.call fun W hW => HL1.o W (HAL.o.trans ((HBE.o.trans (hW.mono hbw)).mono HAL.o.size)) k (by omega))
      have C2 := hy' (Ext.call fun W hW => HL2.o W (HAL.o.trans ((HBE.o.trans (hW.mono hbw)).mono HAL.o.size)) k (by omega))
      obtain ⟨p, hp⟩ : ∃ p, x / 4294967296 ^ k % 4294967296 = p := ⟨_, rfl⟩
      obtain ⟨q, hq⟩ : ∃ q, y / 4294967296 ^ k % 4294967296 = q := ⟨_, rfl⟩
      rw [hp] at C1
      rw [hq] at C2
      have HP := hy' hp
      have HQ := hy' hq
      have kg : (k : Int) ≥ 0 := by omega
      clear hp hq hc0 hc1
      go_wp2_with fail
      refine wp_region_ext (by kernel_rfl) (by kernel_rfl) ?_
      repeat (go_big_quiet_step ((go_at_call 19; first | with_reducible exact C1.o _ | with_reducible exact C2.o _)))
      refine wpQuiet_nil ?_
      intro xw
      have HBX := hy' (HBE.o.trans (xw.below.mono hbw))
      rcases Nat.lt_trichotomy p q with hlt | heq | hgt
      · have hI : (p : Int) < q := by omega
        go_wp2_with fail
        go_ret
        exact ⟨-1, rfl, ⟨fun _ => Nm.cmp_lt HEQ.o (by rw [HP.o, HQ.o]; exact hlt), fun _ => by decide⟩, HAL.o.trans (HBX.o.mono HAL.o.size)⟩
      · subst heq
        have hI : ¬ (p : Int) < p := by omega
        go_wp2_with fail
        exact ⟨⟨k, by omega, by first | rfl | go_num, Nm.cmp_eq HEQ.o (by rw [HP.o, HQ.o]), HBX.o⟩, by first | (simp [intOf]; done) | (simp [intOf]; omega)⟩
      · have hI : ¬ (p : Int) < q := by omega
        have hI2 : (q : Int) < p := by omega
        go_wp2_with fail
        go_ret
        refine ⟨1, rfl, ⟨fun h => by omega, fun h => ?_⟩, HAL.o.trans (HBX.o.mono HAL.o.size)⟩
        have := Nm.cmp_lt HEQ.o.symm (by rw [HP.o, HQ.o]; exact hgt)
        omega
end Go.Proofs.YthcdecncnppjaaaDoor
