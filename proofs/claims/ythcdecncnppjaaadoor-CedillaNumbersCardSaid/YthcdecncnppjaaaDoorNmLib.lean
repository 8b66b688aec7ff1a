/- Numbers in memory; limb, trim. -/
import Derived.Test.YthcdecncnppjaaaDoorNmPlain2
import Derived.Test.YthcdecncnppjaaaDoorLib4
import Derived.Test.YthcdecncnppjaaaDoorCpLib
import Derived.Test.YthcdecncnppjaaaDoorExt
import Derived.Test.YthcdecncnppjaaaDoorRwTab
import Derived.WalkSpells
namespace Go.Proofs.YthcdecncnppjaaaDoor
open Go.RowKit
set_option linter.unusedSimpArgs false
set_option linter.unusedVariables false
def Nm.u32s (l : List Nat) : List Value := l.map fun d => Value.int .u32 (d : Nat)
theorem Nm.u32s_len (l : List Nat) : (Nm.u32s l).length = l.length := by simp [Nm.u32s]
theorem Nm.u32s_take (l : List Nat) (k : Nat) : Nm.u32s (l.take k) = (Nm.u32s l).take k := by simp [Nm.u32s]
/-- A number in memory: its digits lie in a slice; it has at most L. -/
def Nm.Is (w : World) (v : Value) (n L : Nat) : Prop :=
  ∃ (A : Option Addr) (m c : Nat) (l : List Nat), v = .agg #[.slice A m c] ∧ l.length = m ∧ Slt w 47 A (Nm.u32s l) ∧ Nm.Can l ∧ Nm.val l = n ∧ m ≤ L
theorem Nm.Is.below {w w' : World} {v : Value} {n L : Nat} (h : Nm.Is w v n L) (hb : Below w.heap.size w w') : Nm.Is w' v n L := by
  obtain ⟨A, m, c, l, h1, h2, h3, h4⟩ := h
  exact ⟨A, m, c, l, h1, h2, h3.below hb, h4⟩
theorem Nm.Is.more {w : World} {v : Value} {n L L' : Nat} (h : Nm.Is w v n L) (hL : L ≤ L') : Nm.Is w v n L' := by
  obtain ⟨A, m, c, l, h1, h2, h3, h4, h5, h6⟩ := h
  exact ⟨A, m, c, l, h1, h2, h3, h4, h5, Nat.le_trans h6 hL⟩
def Nm.Ret (n L : Nat) (w : World) (e : Ending) (w' : World) : Prop := ∃ v, e = .returned v ∧ Nm.Is w' v n L ∧ Below w.heap.size w w'
theorem Nm.sl_get {w : World} {B : Nat} {A : Option Addr} {l : List Nat} (h : Sl w B A (Nm.u32s l)) {i d : Nat} (hd : l[i]? = some d) : ∃ b o, A = some ⟨b, o, none⟩ ∧ b < B ∧ w.cell? ⟨b, o + i, none⟩ = some (.int .u32 (d : Nat)) := by
  have hi : i < l.length := (List.getElem?_eq_some_iff.1 hd).1
  obtain ⟨b, o, hA, hb, hc⟩ := h (by rw [Nm.u32s_len]; omega)
  refine ⟨b, o, hA, hb, ?_⟩
  rw [hc i (by rw [Nm.u32s_len]; exact hi)]
  simp [Nm.u32s, hd]
theorem Nm.sl_take {w : World} {B : Nat} {A : Option Addr} {xs : List Value} (h : Sl w B A xs) (k : Nat) : Sl w B A (xs.take k) := by
  intro hx
  rw [List.length_take] at hx
  obtain ⟨b, o, hA, hb, hc⟩ := h (by omega)
  refine ⟨b, o, hA, hb, fun i hi => ?_⟩
  rw [List.length_take] at hi
  rw [hc i (by omega), List.getElem?_take, if_pos (by omega)]
theorem Nm.slt_take {w : World} {t : TypeId} {A : Option Addr} {xs : List Value} (h : Slt w t A xs) (k : Nat) : Slt w t A (xs.take k) := by
  intro hx
  rw [List.length_take] at hx
  obtain ⟨b, o, cs, hA, hb, hc⟩ := h (by omega)
  refine ⟨b, o, cs, hA, hb, fun i hi => ?_⟩
  rw [List.length_take] at hi
  rw [hc i (by omega), List.getElem?_take, if_pos (by omega)]
theorem Nm.get_of {l : List Nat} {i : Nat} (hi : i < l.length) : l[i]? = some (l.getD i 0) := by
  rw [List.getElem?_eq_getElem hi]; simp [List.getD, hi]
set_option maxRecDepth 100000 in
set_option maxHeartbeats 1000000 in
/-- A digit of a number. -/
theorem Nm.limb_any (v : Value) (n L i : Nat) (w : World) (hi : i ≤ 1000000) (hL : L ≤ 1000000) (h : Nm.Is w v n L) :
    Calls Tryd.prog 19 #[v, .int .i64 i] w fun e w' => e = .returned (.int .u64 ((n / 4294967296 ^ i % 4294967296 : Nat) : Int)) ∧ Below w.heap.size w w' := by
  obtain ⟨A, m, c, l, rfl, hm, hsl, hcan, hval, hmL⟩ := h
  have hdig := Nm.digit hcan.1 i
  rw [hval] at hdig
  obtain ⟨D, hD⟩ : ∃ D, n / 4294967296 ^ i % 4294967296 = D := ⟨_, rfl⟩
  have hDlt : D < 4294967296 := by rw [← hD]; exact Nat.mod_lt _ (by decide)
  rw [hD] at hdig ⊢
  have HDG := hy' hdig
  have HM := hy' hm
  have HSL := hy' hsl.sl
  have hal : Below w.heap.size w (w.alloc (.cells #[.slice A m c] 27)) := (Below.refl _ _).alloc (Nat.le_refl _) _
  have HAL := hy' hal
  clear hdig hm hsl hcan hval hal hD
  go_enter Tryd.func19, Tryd.ntmps19
  by_cases hlt : i < m
  · obtain ⟨b, o, rfl, hb, hc⟩ := Nm.sl_get HSL.o (Nm.get_of (by rw [HM.o]; exact hlt))
    have hI : ¬ (i : Int) ≥ m := by omega
    have hI2 : (i : Int) < m := by omega
    have i0 : (0 : Int) ≤ i := by omega
    have hbw : b < w.heap.size := hb
    rw [← HDG.o] at hc
    have d0 : (0 : Int) ≤ D := by omega
    have d1 : (D : Int) < 4294967296 := by omega
    go_wp2_with fail
    go_ret
    exact ⟨by first | rfl | go_num, HAL.o⟩
  · have hI : (i : Int) ≥ m := by omega
    go_wp2_with fail
    go_ret
    have : D = 0 := by
      rw [HDG.o]
      have := HM.o
      simp [List.getD, List.getElem?_eq_none (show l.length ≤ i by omega)]
    subst this
    exact ⟨rfl, HAL.o⟩
set_option maxRecDepth 100000 in
set_option maxHeartbeats 1000000 in
/-- Without noughts at the end. -/
theorem Nm.trim_any (A : Option Addr) (n c : Nat) (l : List Nat) (w : World) (hn : l.length = n) (hm : n ≤ 1000000) (hok : Nm.Ok l) (hA : Slt w 47 A (Nm.u32s l)) (hc : n ≤ c) (hcm : c ≤ maxLen) :
    Calls Tryd.prog 17 #[.slice A n c] w (Nm.Ret (Nm.val l) n w) := by
  have hal : Below w.heap.size w (w.alloc (.cells #[.slice none 0 0] 27)) := (Below.refl _ _).alloc (Nat.le_refl _) _
  have HAL := hy' hal
  have HN := hy' hn
  have HOK := hy' hok
  have HA := hy' hA
  unfold maxLen at hcm
  clear hal hn hok hA
  go_enter Tryd.func17, Tryd.ntmps17
  go_wp2_with fail
  go_loopw [3] (fun v wr => ∃ k : Nat, v = .int .i64 k ∧ k ≤ n ∧ (∀ i, k ≤ i → i < n → l[i]? = some 0) ∧ wr = w.alloc (.cells #[.slice none 0 0] 27)) (fun v _ => (intOf v).toNat)
  case atStart => exact ⟨n, rfl, Nat.le_refl _, fun i h1 h2 => by omega, rfl⟩
  case round =>
    obtain ⟨k, rfl, hk, hz, rfl⟩ := hrel
    have HZ := hy' hz
    clear hz
    by_cases h0 : 0 < k
    · obtain ⟨b, o, rfl, hb, hcell⟩ := Nm.sl_get HA.o.sl (Nm.get_of (l := l) (i := k - 1) (by rw [HN.o]; omega))
      obtain ⟨d, hd⟩ : ∃ d, l.getD (k - 1) 0 = d := ⟨_, rfl⟩
      rw [hd] at hcell
      obtain ⟨j, rfl⟩ : ∃ j, k = j + 1 := ⟨k - 1, by omega⟩
      rw [Nat.add_sub_cancel] at hcell hd
      have HD := hy' hd
      have hbw : b < w.heap.size := by omega
      clear hd
      by_cases hd0 : d = 0
      · subst hd0
        go_wp2_with fail
        exact ⟨⟨j, rfl, by omega, fun i h1 h2 => by
          by_cases hij : i = j
          · subst hij; rw [Nm.get_of (by rw [HN.o]; exact h2), HD.o]
          · exact HZ.o i (by omega) h2, trivial⟩, by simp [intOf]⟩
      · have hdI : ¬ (d : Int) = 0 := by omega
        obtain ⟨g1, g2⟩ := Nm.trimmed HOK.o (n := j + 1) (by rw [HN.o]; exact hk) (fun i h1 h2 => HZ.o i h1 (by rw [← HN.o]; exact h2)) (fun _ => by
          rw [Nat.add_sub_cancel, Nm.get_of (by rw [HN.o]; omega), HD.o]; simp; exact hd0)
        have G1 := hy' g1
        have G2 := hy' g2
        clear g1 g2
        go_wp2_with fail
        have hbn := (Below.refl w.heap.size w).alloc (Nat.le_refl _) (.cells #[Value.slice (some ⟨b, o, none⟩) (j + 1) (j + 1)] 27)
        refine bodyPost_ret (results_cell_row rfl _ _ w.heap.size _ _ _ _ rfl (heap_alloc_new w _) Tryd.underlying27 rfl (by kernel_rfl)) rfl ?_
        exact ⟨_, rfl, ⟨_, _, _, l.take (j + 1), rfl, by rw [List.length_take, HN.o]; omega, by rw [Nm.u32s_take]; exact (Nm.slt_take HA.o _).below hbn, G1.o, G2.o, hk⟩, hbn⟩
    · obtain rfl : k = 0 := by omega
      obtain ⟨g1, g2⟩ := Nm.trimmed HOK.o (n := 0) (by omega) (fun i h1 h2 => HZ.o i h1 (by rw [← HN.o]; exact h2)) (fun h => by omega)
      have G1 := hy' g1
      have G2 := hy' g2
      clear g1 g2
      go_wp2_with fail
      have hbn := (Below.refl w.heap.size w).alloc (Nat.le_refl _) (.cells #[Value.slice A 0 0] 27)
      refine bodyPost_ret (results_cell_row rfl _ _ w.heap.size _ _ _ _ rfl (heap_alloc_new w _) Tryd.underlying27 rfl (by kernel_rfl)) rfl ?_
      exact ⟨_, rfl, ⟨_, _, _, l.take 0, rfl, by simp, by rw [Nm.u32s_take]; exact (Nm.slt_take HA.o _).below hbn, G1.o, G2.o, hk⟩, hbn⟩
end Go.Proofs.YthcdecncnppjaaaDoor
