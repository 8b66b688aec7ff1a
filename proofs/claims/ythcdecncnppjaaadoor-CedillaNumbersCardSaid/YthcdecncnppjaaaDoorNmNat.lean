/- The package nat, by walking its text: cloning, Limbs, Of, Zero, Same; the law's Few. -/
import Derived.Test.YthcdecncnppjaaaDoorNmLib
namespace Go.Proofs.YthcdecncnppjaaaDoor
open Go.RowKit
set_option linter.unusedSimpArgs false
set_option linter.unusedVariables false
theorem infoU32 : (Tryd.prog.info? 47).map (fun i => (i.zero, i.size, i.bytes)) = some (some (.int .u32 0), 1, 4) := by kernel_rfl
theorem Nm.u32s_one (l : List Nat) : ∀ u ∈ Nm.u32s l, u.oneCell' = true := by
  intro u hu
  obtain ⟨d, _, rfl⟩ := List.mem_map.1 hu
  rfl
theorem Nm.own_caps {w : World} {base : Nat} {e : TypeId} {n c : Nat} {A : Option Addr} {xs : List Value} (h : w.ownsRow base e 1 (.slice A n c) n xs) : n ≤ c ∧ c ≤ maxLen := by
  rcases h.2 with ⟨hv, hn⟩ | ⟨g, cap, cur, hv, hg, hb, h1, h2, h3, h4⟩
  · cases hv; exact ⟨by omega, by decide⟩
  · cases hv; exact ⟨h1, h2⟩
set_option maxRecDepth 100000 in
set_option maxHeartbeats 1000000 in
/-- slices.Clone of digits that are read: a row of the call's own. -/
theorem Nm.clone_any (A : Option Addr) (n c B : Nat) (l : List Nat) (w : World) (hn : l.length = n) (hn' : n ≤ 1000000) (hB : B ≤ w.heap.size) (hA : Sl w B A (Nm.u32s l)) :
    Calls Tryd.prog 18 #[.slice A n c] w fun r w' => ∃ A' c', r = .returned (.slice A' n c') ∧ w'.ownsRow w.heap.size 47 1 (.slice A' n c') n (Nm.u32s l) ∧ Go.RowKit.Below w.heap.size w w' := by
  obtain ⟨j0, hj0, hy0, hy1, hy2⟩ := info_parts infoU32
  have HN := hy' hn
  clear hn
  rcases A with _ | ad
  · have hl : l = [] := by
      rcases l with _ | ⟨x, t⟩
      · rfl
      · obtain ⟨b, o, h, _⟩ := hA (by simp [Nm.u32s])
        cases h
    subst hl
    obtain rfl : 0 = n := HN.o
    have heq : ∀ w, (binOp .eql 25 (.slice none 0 c) (.slice none 0 0)).run Tryd.prog w = .ok (.bool true) w := fun w => by kernel_rfl
    go_enter Tryd.func18, Tryd.ntmps18
    go_wp2
    go_ret
    exact ⟨none, 0, rfl, World.ownsRow_nil _ _ _ _, Go.RowKit.Below.refl _ _⟩
  · have hal : Go.RowKit.Below w.heap.size w (w.alloc (.cells #[] 47)) := (Go.RowKit.Below.refl _ _).alloc (Nat.le_refl _) _
    have hS := hy' (hA.belowN hal hB (Nat.le_refl _))
    have heq : ∀ w, (binOp .eql 25 (.slice (some ad) n c) (.slice none 0 0)).run Tryd.prog w = .ok (.bool false) w := fun w => by first | exact Lib.run_eql_slice_nil w _ _ _ _ _ Tryd.underlying25 | kernel_rfl
    have hown0 : (w.alloc (.cells #[] 47)).ownsRow w.heap.size 47 1 (.slice (some ⟨w.heap.size, 0, none⟩) 0 0) 0 [] := ⟨rfl, .inr ⟨w.heap.size, 0, #[], rfl, Nat.le_refl _, heap_alloc_new w _, Nat.le_refl _, by decide, rfl, rfl⟩⟩
    go_enter Tryd.func18, Tryd.ntmps18
    go_wp2_with (at_builtin; refine wpList_appendSl _ rfl _ _ _ rfl w.heap.size 47 j0 _ 1 4 Tryd.underlying25 hj0 hy0 hy1 hy2 rfl (by omega) _ 0 _ rfl hown0 _ (some ad) n c (Nm.u32s l) rfl (by rw [Nm.u32s_len, HN.o]; omega) hS.out (Nm.u32s_one _) (by simp only [maxLen]; omega) (by omega) (by simp) ?_; intro v1 w2 hown2 hb2 _)
    obtain ⟨A5, c5, rfl⟩ := own_form hown2
    go_wp2
    go_ret
    rw [Nat.zero_add] at hown2
    exact ⟨A5, c5, by simp, by simpa using hown2, hal.trans hb2⟩
set_option maxRecDepth 100000 in
set_option maxHeartbeats 1000000 in
/-- The law's Few: at most 40 digits. -/
theorem Nm.few_any (A : Option Addr) (n c B : Nat) (l : List Nat) (w : World) (hn : l.length = n) (hc : n ≤ c) (hcm : c ≤ maxLen) (hB : B ≤ w.heap.size) (hA : Sl w B A (Nm.u32s l)) :
    Calls Tryd.prog 6 #[.slice A n c] w fun r w' => ∃ A' c', r = .returned (.slice A' (l.take 40).length c') ∧ w'.ownsRow w.heap.size 47 1 (.slice A' (l.take 40).length c') (l.take 40).length (Nm.u32s (l.take 40)) ∧ Below w.heap.size w w' := by
  have HN := hy' hn
  clear hn
  simp only [maxLen] at hcm
  obtain ⟨j0, hj0, hy0, hy1, hy2⟩ := info_parts infoU32
  have hown0 : (w.alloc (.cells #[] 47)).ownsRow w.heap.size 47 1 (.slice (some ⟨w.heap.size, 0, none⟩) 0 0) 0 [] := ⟨rfl, .inr ⟨w.heap.size, 0, #[], rfl, Nat.le_refl _, heap_alloc_new w _, Nat.le_refl _, by decide, rfl, rfl⟩⟩
  have hal : Below w.heap.size w (w.alloc (.cells #[] 47)) := (Below.refl _ _).alloc (Nat.le_refl _) _
  have hS := hy' (hA.belowN hal hB (Nat.le_refl _))
  go_enter Tryd.func6, Tryd.ntmps6
  by_cases hlt : (40 : Int) < n
  · have h12 : (40 : Int) ≤ c := by omega
    have hS2 := hy' (Nm.sl_take hS.out 40)
    have e12 : (l.take 40).length = 40 := by rw [List.length_take, HN.o]; omega
    have E12 := hy' e12
    clear e12
    go_wp2_with (at_builtin; refine wpList_appendSl _ rfl _ _ _ rfl w.heap.size 47 j0 _ 1 4 Tryd.underlying25 hj0 hy0 hy1 hy2 rfl (by omega) _ 0 _ rfl hown0 _ A 40 c (Nm.u32s (l.take 40)) rfl (by rw [Nm.u32s_len, E12.o]) (by rw [Nm.u32s_take]; exact hS2.out) (Nm.u32s_one _) (by simp only [maxLen]; omega) (by omega) (by simp) ?_; intro v1 w2 hown2 hb2 _)
    obtain ⟨A5, c5, rfl⟩ := own_form hown2
    go_wp2
    go_ret
    refine ⟨A5, c5, by rw [E12.o]; rfl, by rw [E12.o]; exact hown2, hal.trans hb2⟩
  · have ef : l.take 40 = l := List.take_of_length_le (by rw [HN.o]; omega)
    rw [ef]
    clear ef
    go_wp2_with (at_builtin; refine wpList_appendSl _ rfl _ _ _ rfl w.heap.size 47 j0 _ 1 4 Tryd.underlying25 hj0 hy0 hy1 hy2 rfl (by omega) _ 0 _ rfl hown0 _ A n c (Nm.u32s l) rfl (by rw [Nm.u32s_len, HN.o]; omega) hS.out (Nm.u32s_one _) (by simp only [maxLen]; omega) (by omega) (by simp) ?_; intro v1 w2 hown2 hb2 _)
    obtain ⟨A5, c5, rfl⟩ := own_form hown2
    go_wp2
    go_ret
    have e0 : 0 + n = l.length := by rw [HN.o]; omega
    rw [e0] at hown2
    exact ⟨A5, c5, by rw [← e0]; rfl, hown2, hal.trans hb2⟩
theorem Nm.Is.setAt {w : World} {v : Value} {n L b : Nat} {t : TypeId} {cs : List Value} (h : Nm.Is w v n L) (k : Rw.At w b t cs) (hne : t ≠ 47) (i : Nat) (u : Value) : Nm.Is (w.setCell ⟨b, i, none⟩ u) v n L := by
  obtain ⟨A, m, c, l, h1, h2, h3, h4⟩ := h
  exact ⟨A, m, c, l, h1, h2, h3.setAt k hne i u, h4⟩
set_option maxRecDepth 100000 in
set_option maxHeartbeats 1000000 in
theorem Nm.limbs_any (A : Option Addr) (n c B : Nat) (l : List Nat) (w : World) (hn : l.length = n) (hm : n ≤ 1000000) (hB : B ≤ w.heap.size) (hok : Nm.Ok l) (hA : Sl w B A (Nm.u32s l)) :
    Calls Tryd.prog 5 #[.slice A n c] w (Nm.Ret (Nm.val l) n w) := by
  have hal : Below w.heap.size w (w.alloc (.cells #[.slice none 0 0] 27)) := (Below.refl _ _).alloc (Nat.le_refl _) _
  have HC := hy' (Nm.clone_any A n c B l _ hn hm (Nat.le_trans hB hal.size) (hA.belowN hal hB (Nat.le_refl _)))
  have HOK := hy' hok
  have HN := hy' hn
  obtain ⟨V, hV⟩ : ∃ V, Nm.val l = V := ⟨_, rfl⟩
  rw [hV]
  have HV := hy' hV
  clear hn hok hA hV
  go_enter Tryd.func5, Tryd.ntmps5
  go_wp2_with fail
  refine HC.o.mono ?_
  rintro e w1 ⟨A1, c1, rfl, hown1, hb1⟩
  obtain ⟨hc1, hc2⟩ := Nm.own_caps hown1
  have hS1 := Slt.of_own hown1
  have HT := hy' (Nm.trim_any A1 n c1 l w1 HN.o hm HOK.o hS1 hc1 hc2)
  have hk := (hb1.block w.heap.size (by simp)).trans (heap_alloc_new w _)
  have HK := hy' hk
  have HB1 := hy' (hal.trans (hb1.mono hal.size))
  clear hk hc1 hc2 hS1 hown1 hb1 HC
  go_wp2_with fail
  refine HT.o.mono ?_
  rintro e w2 ⟨v2, rfl, his, hb2⟩
  rw [HV.o] at his
  obtain ⟨A2, m2, c2, l2, rfl, r⟩ := id his
  have hk2 := (hb2.block (w.heap.size) (heap_lt HK.o)).trans HK.o
  have HK2 := hy' hk2
  have HI2 := hy' his
  obtain ⟨d1, d2⟩ := blk_cell hk2 0
  simp only [List.getElem?_toArray, List.getElem?_cons_zero] at d1
  have hlt2 := heap_lt hk2
  have HB2 := hy' (HB1.o.trans (hb2.mono HB1.o.size))
  clear hk2 r his hb2
  go_wp2_with fail
  have hb3 := set_cell (v := .slice A2 m2 c2) HK2.o
  refine bodyPost_ret (results_cell_row rfl _ _ (w.heap.size) _ _ _ _ rfl hb3 Tryd.underlying27 rfl (by kernel_rfl)) rfl ?_
  exact ⟨_, rfl, HI2.o.setAt (t := 27) (cs := [.slice none 0 0]) HK2.o (by decide) 0 _, HB2.o.setCell (by show w.heap.size ≤ w.heap.size; omega) _⟩
set_option maxRecDepth 100000 in
set_option maxHeartbeats 1000000 in
theorem Nm.of_any (x : Nat) (w : World) (hx : x < 18446744073709551616) : Calls Tryd.prog 4 #[.int .u64 (x : Int)] w (Nm.Ret x 2 w) := by
  have hal : Below w.heap.size w (w.alloc (.cells #[.slice none 0 0] 27)) := (Below.refl _ _).alloc (Nat.le_refl _) _
  obtain ⟨a, ha⟩ : ∃ a, x % 4294967296 = a := ⟨_, rfl⟩
  obtain ⟨b, hb⟩ : ∃ b, x / 4294967296 = b := ⟨_, rfl⟩
  have ha1 : a < 4294967296 := by omega
  have hb1 : b < 4294967296 := by omega
  have haI : (x : Int) % 4294967296 = a := by omega
  have hbI : (x : Int) / 4294967296 = b := by omega
  have hbI2 : (b : Int) % 4294967296 = b := by omega
  have hbel := hal.alloc hal.size (.cells #[.int .u32 (a : Nat), .int .u32 (b : Nat)] 47)
  obtain ⟨w1, hw1⟩ : ∃ w1, (w.alloc (.cells #[.slice none 0 0] 27)).alloc (.cells #[.int .u32 (a : Nat), .int .u32 (b : Nat)] 47) = w1 := ⟨_, rfl⟩
  have hsl : Slt w1 47 (some ⟨w.heap.size + 1, 0, none⟩) (Nm.u32s [a, b]) := by
    intro _
    refine ⟨w.heap.size + 1, 0, _, rfl, by rw [← hw1]; exact (by simp : (w.alloc (.cells #[.slice none 0 0] 27)).heap.size = w.heap.size + 1) ▸ heap_alloc_new (w.alloc (.cells #[.slice none 0 0] 27)) _, fun i hi => by simp [Nm.u32s]⟩
  have hval : Nm.val [a, b] = x := by simp only [Nm.val]; omega
  have hok : Nm.Ok [a, b] := fun d hd => by simp at hd; omega
  have HT := hy' (Nm.trim_any (some ⟨w.heap.size + 1, 0, none⟩) 2 2 [a, b] w1 rfl (by decide) hok hsl (by decide) (by decide))
  have HV := hy' hval
  have hk : w1.heap[w.heap.size]? = some (.cells #[.slice none 0 0] 27 (0, 0)) := by
    rw [← hw1]; exact (Below.heap_alloc _ _ _ (by simp)).trans (heap_alloc_new w _)
  have HK := hy' hk
  rw [hw1] at hbel
  have HB := hy' hbel
  have HW := hy' hw1
  clear hal ha hb hbel hw1 hsl hval hok hk
  go_enter Tryd.func4, Tryd.ntmps4
  go_wp2_with fail
  rw [HW.o]
  refine HT.o.mono ?_
  rintro e w2 ⟨v2, rfl, his, hb2⟩
  rw [HV.o] at his
  obtain ⟨A2, m2, c2, l2, rfl, r⟩ := id his
  have hk2 := (hb2.block (w.heap.size) (heap_lt HK.o)).trans HK.o
  have HK2 := hy' hk2
  have HI2 := hy' his
  obtain ⟨d1, d2⟩ := blk_cell hk2 0
  simp only [List.getElem?_toArray, List.getElem?_cons_zero] at d1
  have hlt2 := heap_lt hk2
  have HB2 := hy' (HB.o.trans (hb2.mono HB.o.size))
  clear hk2 r his hb2
  go_wp2_with fail
  have hb3 := set_cell (v := .slice A2 m2 c2) HK2.o
  refine bodyPost_ret (results_cell_row rfl _ _ (w.heap.size) _ _ _ _ rfl hb3 Tryd.underlying27 rfl (by kernel_rfl)) rfl ?_
  exact ⟨_, rfl, HI2.o.setAt (t := 27) (cs := [.slice none 0 0]) HK2.o (by decide) 0 _, HB2.o.setCell (by show w.heap.size ≤ w.heap.size; omega) _⟩
set_option maxRecDepth 100000 in
set_option maxHeartbeats 2000000 in
theorem Nm.getLimbs_any (v : Value) (n L : Nat) (w : World) (hL : L ≤ 1000000) (h : Nm.Is w v n L) :
    Calls Tryd.prog 20 #[v] w fun r w' => ∃ l A' c', r = .returned (.slice A' (List.length l) c') ∧ w'.ownsRow w.heap.size 47 1 (.slice A' l.length c') l.length (Nm.u32s l) ∧ Nm.Can l ∧ Nm.val l = n ∧ l.length ≤ L ∧ Below w.heap.size w w' := by
  obtain ⟨A, m, c, l, rfl, hm, hsl, hcan, hval, hmL⟩ := h
  have hal : Below w.heap.size w (w.alloc (.cells #[.slice A m c] 27)) := (Below.refl _ _).alloc (Nat.le_refl _) _
  have HC := hy' (Nm.clone_any A m c w.heap.size l _ hm (by omega) hal.size (hsl.sl.belowN hal (Nat.le_refl _) (Nat.le_refl _)))
  have HCAN := hy' hcan
  have HV := hy' hval
  have HM := hy' hm
  have HAL := hy' hal
  clear hm hsl hcan hval hal
  go_enter Tryd.func20, Tryd.ntmps20
  go_wp2_with fail
  refine HC.o.mono ?_
  rintro e w1 ⟨A1, c1, rfl, hown1, hb1⟩
  have HO := hy' hown1
  have HB := hy' (HAL.o.trans (hb1.mono HAL.o.size))
  clear hown1 hb1
  go_wp2_with fail
  go_ret
  exact ⟨l, A1, c1, by rw [HM.o]; rfl, by rw [HM.o]; exact own_base HO.o (by have := HAL.o.size; exact this), HCAN.o, HV.o, by rw [HM.o]; exact hmL, HB.o⟩
set_option maxRecDepth 100000 in
set_option maxHeartbeats 2000000 in
theorem Nm.zero_any (v : Value) (n L : Nat) (w : World) (hL : L ≤ 1000000) (h : Nm.Is w v n L) :
    Calls Tryd.prog 15 #[v] w fun e w' => e = .returned (.bool (decide (n = 0))) ∧ Below w.heap.size w w' := by
  obtain ⟨A, m, c, l, rfl, hm, hsl, hcan, hval, hmL⟩ := h
  have hal : Below w.heap.size w (w.alloc (.cells #[.slice A m c] 27)) := (Below.refl _ _).alloc (Nat.le_refl _) _
  have HAL := hy' hal
  obtain ⟨b, hb⟩ : ∃ b, decide (n = 0) = b := ⟨_, rfl⟩
  rw [hb]
  have HBB := hy' hb
  have h0 : n = 0 ↔ m = 0 := by
    constructor
    · intro h
      have := Nm.can_zero hcan (by rw [hval]; exact h)
      rw [← hm, this]; rfl
    · intro h
      rw [h] at hm
      rw [← hval, List.eq_nil_of_length_eq_zero hm]; rfl
  have H0 := hy' h0
  clear hm hsl hcan hval hal hb h0
  go_enter Tryd.func15, Tryd.ntmps15
  rcases hz : ((m : Int) == 0) with _ | _
  · have hb : b = false := by rw [← HBB.o]; exact decide_eq_false fun h => by have := H0.o.1 h; simp at hz; omega
    have HBF := hy' hb
    clear hb
    go_wp2_with fail
    go_ret
    exact ⟨by rw [HBF.o]; first | rfl | simp [hz], HAL.o⟩
  · have hb : b = true := by rw [← HBB.o]; exact decide_eq_true (H0.o.2 (by simp at hz; omega))
    have HBF := hy' hb
    clear hb
    go_wp2_with fail
    go_ret
    exact ⟨by rw [HBF.o]; first | rfl | simp [hz], HAL.o⟩
end Go.Proofs.YthcdecncnppjaaaDoor
