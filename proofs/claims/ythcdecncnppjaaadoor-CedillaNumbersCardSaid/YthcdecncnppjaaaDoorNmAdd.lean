/- The package nat, by walking its text: Add. -/
import Derived.Test.YthcdecncnppjaaaDoorNmNat2
namespace Go.Proofs.YthcdecncnppjaaaDoor
open Go.RowKit
set_option linter.unusedSimpArgs false
set_option linter.unusedVariables false
/-- Digits made by the call: they are all that stands in their block. -/
def Nm.At (w : World) (g : Nat) (l : List Nat) : Prop := Rw.At w g 47 (Nm.u32s l)
theorem Nm.At.cell {w : World} {g : Nat} {l : List Nat} (h : Nm.At w g l) {i d : Nat} (hd : l[i]? = some d) : w.cell? ⟨g, i, none⟩ = some (.int .u32 (d : Nat)) := Rw.At.cell h i (by simp [Nm.u32s, hd])
theorem Nm.At.set {w : World} {g : Nat} {l : List Nat} (h : Nm.At w g l) (i d : Nat) : Nm.At (w.setCell ⟨g, i, none⟩ (.int .u32 (d : Nat))) g (l.set i d) := by
  unfold Nm.At
  rw [show Nm.u32s (l.set i d) = (Nm.u32s l).set i (.int .u32 (d : Nat)) by unfold Nm.u32s; rw [List.map_set]]
  exact Rw.At.set h i _
theorem Nm.At.below {w w' : World} {g : Nat} {l : List Nat} (h : Nm.At w g l) (hb : Below w.heap.size w w') : Nm.At w' g l := Rw.At.below h hb
theorem Nm.At.slt {w : World} {g : Nat} {l : List Nat} (h : Nm.At w g l) : Slt w 47 (some ⟨g, 0, none⟩) (Nm.u32s l) := fun _ => ⟨g, 0, (Nm.u32s l).toArray, rfl, h, fun i _ => by simp⟩
theorem Nm.At.lt {w : World} {g : Nat} {l : List Nat} (h : Nm.At w g l) : g < w.heap.size := Rw.At.lt h
theorem Nm.made_zeros (n : Nat) : (madeCells (Value.int .u32 0).cells (n * 1)).toList = Nm.u32s (List.replicate n 0) := by
  rw [Nat.mul_one]
  apply List.ext_getElem?
  intro i
  simp only [madeCells, Value.cells, Nm.u32s, List.map_replicate]
  by_cases hi : i < n
  · simp [hi]
    rw [show i % 1 = 0 by omega]
    rfl
  · simp [hi, List.getElem?_replicate]
theorem Nm.own_at {w : World} {base g n : Nat} {t : TypeId} {xs : List Value} (h : w.ownsRow base t 1 (.slice (some ⟨g, 0, none⟩) n n) n xs) : Rw.At w g t xs := by
  rcases h.2 with ⟨hv, _⟩ | ⟨g', cap', cur, hv, hg, hb, h1, h2, h3, h4⟩
  · cases hv
  · simp only [Value.slice.injEq, Option.some.injEq, Addr.mk.injEq, and_true, true_and] at hv
    obtain ⟨rfl, rfl⟩ := hv
    unfold Rw.At
    rw [← h4, h3.symm, List.take_of_length_le (by rw [Array.length_toList]; exact Nat.le_refl _)]
    simpa using hb
theorem Nm.bel_set {w0 w' : World} {B : Nat} (h : Below B w0 w') {g : Nat} (hg : B ≤ g) (i : Nat) (v : Value) : Below B w0 (w'.setCell ⟨g, i, none⟩ v) := h.setCell hg v
set_option maxRecDepth 100000 in
set_option maxHeartbeats 2000000 in
theorem Nm.add_any (u v : Value) (x y L L' : Nat) (w : World) (hL : L ≤ 100000) (hL' : L' ≤ 100000) (h : Nm.Is w u x L) (h' : Nm.Is w v y L') :
    Calls Tryd.prog 7 #[u, v] w (Nm.Ret (x + y) (max L L' + 1) w) := by
  obtain ⟨i0, hi, hz0, hz1, hz2⟩ := info_parts infoU32
  have HL1 := hy' (fun W (hW : Below w.heap.size w W) (i : Nat) (hi : i ≤ 1000000) => Nm.limb_any u x L i W hi (by omega) (h.below hW))
  have HL2 := hy' (fun W (hW : Below w.heap.size w W) (i : Nat) (hi : i ≤ 1000000) => Nm.limb_any v y L' i W hi (by omega) (h'.below hW))
  obtain ⟨A, m, c, l, rfl, hm, hsl, hcan, hval, hmL⟩ := h
  obtain ⟨A', m', c', l', rfl, hm', hsl', hcan', hval', hmL'⟩ := h'
  obtain ⟨M, hM⟩ : ∃ M, max m m' = M := ⟨_, rfl⟩
  have hMb : M ≤ max L L' := by omega
  have hMb2 : M ≤ 100000 := by omega
  have ht1 : x % 4294967296 ^ M = x := by rw [← hval]; exact Nm.small hcan.1 (by omega)
  have ht2 : y % 4294967296 ^ M = y := by rw [← hval']; exact Nm.small hcan'.1 (by omega)
  have hs1 : x / 4294967296 ^ M = 0 := by rw [← hval]; exact Nm.cmp_top hcan.1 (by omega)
  have hs2 : y / 4294967296 ^ M = 0 := by rw [← hval']; exact Nm.cmp_top hcan'.1 (by omega)
  have HT1 := hy' ht1
  have HT2 := hy' ht2
  have HS1 := hy' hs1
  have HS2 := hy' hs2
  obtain ⟨w1, hw1⟩ : ∃ w1, ((w.alloc (.cells #[.slice A m c] 27)).alloc (.cells #[.slice A' m' c'] 27)).alloc (.cells #[.slice none 0 0] 27) = w1 := ⟨_, rfl⟩
  have hal : Below w.heap.size w w1 := by rw [← hw1]; exact (((Below.refl _ _).alloc (Nat.le_refl _) _).alloc (by simp) _).alloc (by simp; omega) _
  have hb0 : Rw.At w1 w.heap.size 27 [.slice A m c] := by
    rw [← hw1]; exact ((Rw.At.new w 27 [.slice A m c]).alloc _).alloc _
  have hb1 : Rw.At w1 (w.heap.size + 1) 27 [.slice A' m' c'] := by
    rw [← hw1]; exact ((by simp : (w.alloc (.cells #[.slice A m c] 27)).heap.size = w.heap.size + 1) ▸ Rw.At.new (w.alloc (.cells #[.slice A m c] 27)) 27 [.slice A' m' c']).alloc _
  have hb2 : Rw.At w1 (w.heap.size + 2) 27 [.slice none 0 0] := by
    rw [← hw1]; exact (by simp : ((w.alloc (.cells #[.slice A m c] 27)).alloc (.cells #[.slice A' m' c'] 27)).heap.size = w.heap.size + 2) ▸ Rw.At.new ((w.alloc (.cells #[.slice A m c] 27)).alloc (.cells #[.slice A' m' c'] 27)) 27 [.slice none 0 0]
  have hsz1 : w1.heap.size = w.heap.size + 3 := by rw [← hw1]; simp
  have HSZ1 := hy' hsz1
  have HAL := hy' hal
  have HB0 := hy' hb0
  have HB1 := hy' hb1
  have HB2 := hy' hb2
  have HW := hy' hw1
  have HMM := hy' hM
  clear hm hsl hcan hval hm' hsl' hcan' hval' hal ht1 ht2 hs1 hs2 hb0 hb1 hb2 hw1 hM hsz1
  go_enter Tryd.func7, Tryd.ntmps7
  go_upto_region 1 with (fail)
  rw [HW.o]
  have hk0 := HB0.o.cell 0 rfl
  have hk1 := HB1.o.cell 0 rfl
  have hg0 := HB0.o.lt
  have hg1 := HB1.o.lt
  have HK0 := hy' hk0
  have HK1 := hy' hk1
  go_cut [5] (fun v wx => v = .int .i64 (M : Int) ∧ wx = w1)
  case first =>
    have hM := HMM.o
    go_wp2_with fail
    · go_meet
      exact ⟨by congr 1; omega, rfl⟩
    · go_meet
      exact ⟨by congr 1; omega, rfl⟩
  case rest =>
  obtain ⟨rfl, hwx⟩ := hcut
  replace hwx := hwx.symm
  subst hwx
  clear hk0 hk1
  go_upto_region 3 with (first | (at_make; refine wpList_make_full _ rfl _ _ _ rfl w1.heap.size 47 i0 _ 1 Tryd.underlying25 hi hz0 hz1 _ _ _ _ (M + 1) rfl rfl (by go_num) (by go_num) (by rw [hz2]; omega) (by simp only [maxLen]; omega) (Nat.le_refl _) ?_; intro w2 hown hgr) | fail)
  rw [Nm.made_zeros] at hown
  have hat0 : Nm.At w2 w1.heap.size (List.replicate (M + 1) 0) := Nm.own_at hown
  have hbe0 := Below.grown (Below.refl w1.heap.size w1) hgr (Nat.le_refl _) (by intro k hk; cases hk)
  have HA0 := hy' hat0
  have HE0 := hy' hbe0
  clear hown hgr hat0 hbe0
  go_wp2_with fail
  go_loopw [7, 22] (fun vc vi wr => ∃ (k cy : Nat) (O : List Nat), vc = .int .u64 (cy : Int) ∧ vi = .int .i64 (k : Int) ∧ k ≤ M + 1 ∧ O.length = M + 1 ∧ Nm.Ok O ∧ cy ≤ 1 ∧ Nm.val O + 4294967296 ^ k * cy = x % 4294967296 ^ k + y % 4294967296 ^ k ∧ (∀ i, k ≤ i → O.getD i 0 = 0) ∧ Nm.At wr w1.heap.size O ∧ Below w1.heap.size w1 wr) (fun _ vi _ => M + 1 - (intOf vi).toNat)
  case atStart => exact ⟨0, 0, _, rfl, rfl, by omega, by simp, Nm.ok_zeros _, by omega, by rw [Nm.val_zeros]; simp [Nat.mod_one], fun i _ => by simp [List.getD, List.getElem?_replicate]; split <;> rfl, HA0.o, HE0.o⟩
  case round =>
    obtain ⟨k, cy, O, rfl, rfl, hk, hOl, hOk, hcy, hO, hz, hat, hbe⟩ := hrel
    have HOL := hy' hOl
    have HOK := hy' hOk
    have HO := hy' hO
    have HZ := hy' hz
    have HAT := hy' hat
    have HBE := hy' hbe
    clear hOl hOk hO hz hat hbe
    by_cases hlt : k < M + 1
    · have kI : (k : Int) < (M : Int) + 1 := by omega
      have k0 : (0 : Int) ≤ k := by omega
      have hbw := HBE.o.size
      have hc0 := (bcell HBE.o).1 w.heap.size 0 hg0
      have hc1 := (bcell HBE.o).1 (w.heap.size + 1) 0 hg1
      rw [HK0.o] at hc0
      rw [HK1.o] at hc1
      have e0 := Ext.cells hc0 (by omega)
      have e1 := Ext.cells hc1 (by omega)
      have C1 := hy' (Ext.call fun W hW => HL1.o W (HAL.o.trans ((HBE.o.trans (hW.mono hbw)).mono HAL.o.size)) k (by omega))
      have C2 := hy' (Ext.call fun W hW => HL2.o W (HAL.o.trans ((HBE.o.trans (hW.mono hbw)).mono HAL.o.size)) k (by omega))
      obtain ⟨p, hp⟩ : ∃ p, x / 4294967296 ^ k % 4294967296 = p := ⟨_, rfl⟩
      obtain ⟨q, hq⟩ : ∃ q, y / 4294967296 ^ k % 4294967296 = q := ⟨_, rfl⟩
      have hp2 : p < 4294967296 := by rw [← hp]; exact Nat.mod_lt _ (by decide)
      have hq2 : q < 4294967296 := by rw [← hq]; exact Nat.mod_lt _ (by decide)
      have hstep := Nm.add_step HO.o (s := p + q + cy) (by rw [hp, hq])
      rw [hp] at C1
      rw [hq] at C2
      obtain ⟨s, hs⟩ : ∃ s, (p + q + cy) % 4294967296 = s := ⟨_, rfl⟩
      obtain ⟨d, hd⟩ : ∃ d, (p + q + cy) / 4294967296 = d := ⟨_, rfl⟩
      rw [hs, hd] at hstep
      have hsI : ((p : Int) + q + cy) % 4294967296 = s := by omega
      have hdI : ((p : Int) + q + cy) / 4294967296 = d := by omega
      have hs2 : s < 4294967296 := by omega
      have hd2 : d ≤ 1 := by omega
      have hset := Nm.val_set (l := O) (i := k) (d := s) (by rw [HOL.o]; exact hlt)
      rw [HZ.o k (Nat.le_refl _), Nat.mul_zero, Nat.add_zero] at hset
      rw [← hset] at hstep
      have HST := hy' hstep
      have hOk : O[k]? = some (O.getD k 0) := Nm.get_of (by rw [HOL.o]; exact hlt)
      have HOKK := hy' hOk
      clear hp hq hc0 hc1 hs hd hstep hset hOk
      go_wp2_with fail
      refine wp_region_ext (by kernel_rfl) (by kernel_rfl) ?_
      repeat (go_big_quiet_step ((go_at_call 19; first | with_reducible exact C1.o _ | with_reducible exact C2.o _)))
      refine wpQuiet_nil ?_
      intro xw
      have HBX := hy' (HBE.o.trans (xw.below.mono hbw))
      have hatx := HAT.o.below xw.below
      have gc := hatx.cell HOKK.o
      have gf := Rw.At.frozen hatx k
      have gl := hatx.lt
      have hats := hatx.set k s
      have HATS := hy' hats
      clear hatx hats e0 e1
      go_wp2_with fail
      exact ⟨⟨k + 1, d, O.set k s, by first | rfl | go_num, by first | rfl | go_num, by omega, by rw [List.length_set]; exact HOL.o, Nm.ok_set HOK.o hs2, hd2, HST.o, fun i hi => by
        rw [List.getD_eq_getElem?_getD, List.getElem?_set_ne (by omega), ← List.getD_eq_getElem?_getD]; exact HZ.o i (by omega), HATS.o, Nm.bel_set HBX.o (Nat.le_refl _) _ _⟩, by first | (simp [intOf]; done) | (simp [intOf]; omega)⟩
    · obtain rfl : k = M + 1 := by omega
      have kI : ¬ (M : Int) + 1 < (M : Int) + 1 := by omega
      have hsum : Nm.val O = x + y := by
        exact Nm.add_end HO.o (by rw [← HT1.o]; exact Nat.mod_lt _ (Nat.pow_pos (by decide))) (by rw [← HT2.o]; exact Nat.mod_lt _ (Nat.pow_pos (by decide)))
      have HSUM := hy' hsum
      obtain ⟨w3, hw3⟩ : ∃ q : World, wr = q := ⟨_, rfl⟩
      subst hw3
      have HT := hy' (Nm.trim_any (some ⟨w1.heap.size, 0, none⟩) (M + 1) (M + 1) O wr HOL.o (by omega) HOK.o HAT.o.slt (Nat.le_refl _) (by simp only [maxLen]; omega))
      have HK := hy' (show wr.heap[w.heap.size + 2]? = some (.cells #[.slice none 0 0] 27 (0, 0)) from Rw.At.below' HB2.o HBE.o (by rw [HSZ1.o]; omega))
      have HBW := hy' (HAL.o.trans (HBE.o.mono HAL.o.size))
      clear hsum
      go_wp2_with fail
      refine HT.o.mono ?_
      rintro e w2' ⟨v2, rfl, his, hb2⟩
      rw [HSUM.o] at his
      replace his := his.more (show M + 1 ≤ max L L' + 1 by omega)
      obtain ⟨A2, m2, c2, l2, rfl, r⟩ := id his
      have hk2 := (hb2.block (w.heap.size + 2) (heap_lt HK.o)).trans HK.o
      have HK2 := hy' hk2
      have HI2 := hy' his
      obtain ⟨d1, d2⟩ := blk_cell hk2 0
      simp only [List.getElem?_toArray, List.getElem?_cons_zero] at d1
      have hlt2 := heap_lt hk2
      have HB2 := hy' (HBW.o.trans (hb2.mono HBW.o.size))
      clear hk2 r his hb2
      go_wp2_with fail
      have hb3 := set_cell (v := .slice A2 m2 c2) HK2.o
      refine bodyPost_ret (results_cell_row rfl _ _ (w.heap.size + 2) _ _ _ _ rfl hb3 Tryd.underlying27 rfl (by kernel_rfl)) rfl ?_
      exact ⟨_, rfl, HI2.o.setAt (t := 27) (cs := [.slice none 0 0]) HK2.o (by decide) 0 _, HB2.o.setCell (by show w.heap.size ≤ w.heap.size + 2; omega) _⟩
end Go.Proofs.YthcdecncnppjaaaDoor
