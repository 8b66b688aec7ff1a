/- The package prod, by walking its text: Mul. -/
import Derived.Test.YthcdecncnppjaaaDoorNmAdd
import Derived.Test.YthcdecncnppjaaaDoorStage
namespace Go.Proofs.YthcdecncnppjaaaDoor
open Go.RowKit
set_option linter.unusedSimpArgs false
set_option linter.unusedVariables false
theorem Nm.three {w : World} {u v r : Value} {t : TypeId} : ∃ w1, ((w.alloc (.cells #[u] t)).alloc (.cells #[v] t)).alloc (.cells #[r] t) = w1 ∧ Below w.heap.size w w1 ∧ w1.heap.size = w.heap.size + 3 ∧ Rw.At w1 w.heap.size t [u] ∧ Rw.At w1 (w.heap.size + 1) t [v] ∧ Rw.At w1 (w.heap.size + 2) t [r] := by
  refine ⟨_, rfl, (((Below.refl _ _).alloc (Nat.le_refl _) _).alloc (by simp) _).alloc (by simp; omega) _, by simp, ?_, ?_, ?_⟩
  · exact ((Rw.At.new w t [u]).alloc _).alloc _
  · exact ((by simp : (w.alloc (.cells #[u] t)).heap.size = w.heap.size + 1) ▸ Rw.At.new (w.alloc (.cells #[u] t)) t [v]).alloc _
  · exact (by simp : ((w.alloc (.cells #[u] t)).alloc (.cells #[v] t)).heap.size = w.heap.size + 2) ▸ Rw.At.new ((w.alloc (.cells #[u] t)).alloc (.cells #[v] t)) t [r]
set_option maxRecDepth 100000 in
set_option maxHeartbeats 2000000 in
theorem Nm.mul_any (u v : Value) (x y L L' : Nat) (w : World) (hL : L ≤ 100000) (hL' : L' ≤ 100000) (h : Nm.Is w u x L) (h' : Nm.Is w v y L') :
    Calls Tryd.prog 8 #[u, v] w (Nm.Ret (x * y) (L + L') w) := by
  obtain ⟨i0, hi, hz0, hz1, hz2⟩ := info_parts infoU32
  have HL1 := hy' (fun W (hW : Below w.heap.size w W) => Nm.getLimbs_any u x L W (by omega) (h.below hW))
  have HL2 := hy' (fun W (hW : Below w.heap.size w W) => Nm.getLimbs_any v y L' W (by omega) (h'.below hW))
  obtain ⟨A, m, c, l, rfl, -⟩ := h
  obtain ⟨A', m', c', l', rfl, -⟩ := h'
  obtain ⟨w1, hw1, hal, hsz1, hb0, hb1, hb2⟩ := Nm.three (w := w) (u := .slice A m c) (v := .slice A' m' c') (r := .slice none 0 0) (t := 27)
  have HSZ1 := hy' hsz1
  have HAL := hy' hal
  have HB0 := hy' hb0
  have HB1 := hy' hb1
  have HB2 := hy' hb2
  have HW := hy' hw1
  clear hal hb0 hb1 hb2 hw1 hsz1
  go_enter Tryd.func8, Tryd.ntmps8
  go_upto_region 1 with (fail)
  rw [HW.o]
  have HG : Hy (∀ W, Below w1.heap.size w1 W → (∀ u : Stg.Later Stg.Ex W, u.val.cell? ⟨w.heap.size, 0, none⟩ = some (.slice A m c)) ∧ (∀ u : Stg.Later Stg.Ex W, u.val.cell? ⟨w.heap.size + 1, 0, none⟩ = some (.slice A' m' c'))) := hy' fun W hW =>
    have h0 := HB0.o.below hW
    have h1 := HB1.o.below hW
    ⟨Stg.cells (h0.cell 0 rfl) h0.lt, Stg.cells (h1.cell 0 rfl) h1.lt⟩
  have HQ0 := hy' (Below.refl w1.heap.size w1).drew
  refine Stg.wp_region (by kernel_rfl) Stg.Ex Stg.Ex.rel ?_
  obtain ⟨f0, f1⟩ := HG.o w1.drew HQ0.o
  refine Stg.read 0 (by kernel_rfl) w1.drew rfl ?_; intro K hK; go_big_quiet_op; go_big_quiet_on
  refine Stg.call 20 _ _ rfl Tryd.func20 [.agg #[.slice A m c]] rfl w1.drew _ (HL1.o w1.drew (HAL.o.trans (HQ0.o.mono HAL.o.size))) (by kernel_rfl) rfl ?_
  rintro e q1 ⟨lx, Ax, cx, rfl, hox, hcx, hvx, hlx, hb⟩; refine ⟨_, rfl, hb, ?_⟩; have HQ1 := hy' (HQ0.o.trans (hb.mono HQ0.o.size)); obtain ⟨nx, hnx⟩ : ∃ n, lx.length = n := ⟨_, rfl⟩; rw [hnx] at hox hlx ⊢; have HNX := hy' hnx; have HOX := hy' hox; have HCX := hy' hcx; have HVX := hy' hvx; clear hnx hox hcx hvx; clear hb; intro A' hA'; simp only [Act.put, List.setIfInBounds_toArray, List.set_cons_succ, List.set_cons_zero] at hA'; subst hA'
  refine Stg.read 1 (by kernel_rfl) w1.drew rfl ?_; intro K hK; go_big_quiet_op; go_big_quiet_on
  refine Stg.call 20 _ _ rfl Tryd.func20 [.agg #[.slice A' m' c']] rfl q1 _ (HL2.o q1 (HAL.o.trans (HQ1.o.mono HAL.o.size))) (by kernel_rfl) rfl ?_
  rintro e q2 ⟨ly, Ay, cy, rfl, hoy, hcy, hvy, hly, hb⟩; refine ⟨_, rfl, hb, ?_⟩; have HQ2 := hy' (HQ1.o.trans (hb.mono HQ1.o.size)); obtain ⟨ny, hny⟩ : ∃ n, ly.length = n := ⟨_, rfl⟩; rw [hny] at hoy hly ⊢; have HNY := hy' hny; have HOY := hy' hoy; have HCY := hy' hcy; have HVY := hy' hvy; have HOX2 := hy' (own_below HOX.o hb (Nat.le_refl _)); clear hny hoy hcy hvy; clear hb; intro A' hA'; simp only [Act.put, List.setIfInBounds_toArray, List.set_cons_succ, List.set_cons_zero] at hA'; subst hA'
  refine Stg.readW (by kernel_rfl) ?_; intro K hK; go_big_quiet_op; go_big_quiet_on
  refine Stg.readW (by kernel_rfl) ?_; intro K hK; go_big_quiet_op; go_big_quiet_on
  clear f0 f1
  refine Stg.nil q2 rfl ?_
  have HSX := hy' (Slt.of_own HOX2.o)
  have HSY := hy' (Slt.of_own HOY.o)
  have HBQ := hy' (HAL.o.trans (HQ2.o.mono HAL.o.size))
  have hnb : nx + ny ≤ 200000 := by omega
  obtain ⟨w2, hw2⟩ : ∃ q : World, q = q2 := ⟨_, rfl⟩
  rw [← hw2] at HSX HSY HBQ HQ2 ⊢
  clear hw2
  go_upto_region 3 with (first | (at_make; refine wpList_make_full _ rfl _ _ _ rfl w2.heap.size 47 i0 _ 1 Tryd.underlying25 hi hz0 hz1 _ _ _ _ (nx + ny) rfl rfl (by go_num) (by go_num) (by rw [hz2]; omega) (by simp only [maxLen]; omega) (Nat.le_refl _) ?_; intro w3 hown hgr) | fail)
  rw [Nm.made_zeros] at hown
  have hat0 : Nm.At w3 w2.heap.size (List.replicate (nx + ny) 0) := Nm.own_at hown
  have hbe0 := Below.grown (Below.refl w2.heap.size w2) hgr (Nat.le_refl _) (by intro k hk; cases hk)
  have HA0 := hy' hat0
  have HE0 := hy' hbe0
  clear hown hgr hat0 hbe0
  obtain ⟨g, hg⟩ : ∃ g, w2.heap.size = g := ⟨_, rfl⟩
  rw [hg] at HA0 HE0 ⊢
  have HGG := hy' hg
  clear hg
  go_wp2_with fail
  go_loopw [26] (fun vi wr => ∃ (i : Nat) (O : List Nat), vi = .int .i64 (i : Int) ∧ i ≤ nx ∧ O.length = nx + ny ∧ Nm.Ok O ∧ Nm.val O = Nm.val (lx.take i) * Nm.val ly ∧ (∀ k, i + ny ≤ k → O.getD k 0 = 0) ∧ Nm.At wr g O ∧ Below g w2 wr) (fun vi _ => nx - (intOf vi).toNat)
  case atStart => exact ⟨0, _, rfl, by omega, by simp, Nm.ok_zeros _, by rw [Nm.val_zeros]; simp [Nm.val], fun i _ => by simp [List.getD, List.getElem?_replicate]; split <;> rfl, HA0.o, HE0.o⟩
  case round =>
    obtain ⟨i, O, rfl, hin, hOl, hOk, hO, hz, hat, hbe⟩ := hrel
    have HOL := hy' hOl
    have HOK := hy' hOk
    have HO := hy' hO
    have HZ := hy' hz
    have HAT := hy' hat
    have HBE := hy' hbe
    clear hOl hOk hO hz hat hbe
    by_cases hlt : i < nx
    · have iI : (i : Int) < nx := by omega
      have i0' : (0 : Int) ≤ i := by omega
      have hgx : lx[i]? = some (lx.getD i 0) := Nm.get_of (by rw [HNX.o]; exact hlt)
      obtain ⟨p, hp⟩ : ∃ p, lx.getD i 0 = p := ⟨_, rfl⟩
      rw [hp] at hgx
      have hpl : p < 4294967296 := HCX.o.1 p (List.mem_of_getElem? hgx)
      obtain ⟨bx, ox, rfl, hbx, hcell⟩ := Nm.sl_get (HSX.o.below (by rw [HGG.o]; exact HBE.o)).sl hgx
      have htk := Nm.take_succ (l := lx) (k := i)
      rw [hp] at htk
      have HTK := hy' htk
      have p0 : (0 : Int) ≤ p := by omega
      have p1 : (p : Int) < 4294967296 := by omega
      obtain ⟨r0, hr0⟩ : ∃ q : World, q = wr := ⟨_, rfl⟩
      subst hr0
      clear hgx hp htk
      go_wp2_with fail
      go_loopw [10, 33] (fun vc vk wr => ∃ (k cy : Nat) (O : List Nat), vc = .int .u64 (cy : Int) ∧ vk = .int .i64 (k : Int) ∧ k ≤ ny ∧ cy < 4294967296 ∧ O.length = nx + ny ∧ Nm.Ok O ∧ Nm.val O + 4294967296 ^ (i + k) * cy = Nm.val (lx.take i) * Nm.val ly + 4294967296 ^ i * (p * Nm.val (ly.take k)) ∧ (∀ k, i + ny ≤ k → O.getD k 0 = 0) ∧ Nm.At wr g O ∧ Below g w2 wr) (fun _ vk _ => ny - (intOf vk).toNat)
      case atStart => exact ⟨0, 0, O, rfl, rfl, by omega, by omega, HOL.o, HOK.o, by rw [HO.o]; simp [Nm.val], HZ.o, HAT.o, HBE.o⟩
      case round =>
        obtain ⟨k, cy, O2, rfl, rfl, hkn, hcy, hOl2, hOk2, hO2, hz2', hat2, hbe2⟩ := hrel
        have HOL2 := hy' hOl2
        have HOK2 := hy' hOk2
        have HO2 := hy' hO2
        have HZ2 := hy' hz2'
        have HAT2 := hy' hat2
        have HBE2 := hy' hbe2
        clear hOl2 hOk2 hO2 hz2' hat2 hbe2
        by_cases hlt2 : k < ny
        · have kI : (k : Int) < ny := by omega
          have k0 : (0 : Int) ≤ k := by omega
          have hgy : ly[k]? = some (ly.getD k 0) := Nm.get_of (by rw [HNY.o]; exact hlt2)
          obtain ⟨q, hq⟩ : ∃ q, ly.getD k 0 = q := ⟨_, rfl⟩
          rw [hq] at hgy
          have hql : q < 4294967296 := HCY.o.1 q (List.mem_of_getElem? hgy)
          obtain ⟨by_, oy, rfl, hby, hcelly⟩ := Nm.sl_get (HSY.o.below (by rw [HGG.o]; exact HBE2.o)).sl hgy
          have htk2 := Nm.take_succ (l := ly) (k := k)
          rw [hq] at htk2
          have hgo : O2[i + k]? = some (O2.getD (i + k) 0) := Nm.get_of (by rw [HOL2.o]; omega)
          obtain ⟨o, ho⟩ : ∃ o, O2.getD (i + k) 0 = o := ⟨_, rfl⟩
          rw [ho] at hgo
          have hol : o < 4294967296 := HOK2.o o (List.mem_of_getElem? hgo)
          have hcello := HAT2.o.cell hgo
          have hfr := Rw.At.frozen HAT2.o (i + k)
          have hgl := HAT2.o.lt
          have hle := Nm.mul_le hpl hql hol hcy
          obtain ⟨pq, hpq⟩ : ∃ n, p * q = n := ⟨_, rfl⟩
          have hpqI : (p : Int) * q = pq := by rw [← hpq]; exact (Int.natCast_mul _ _).symm
          rw [hpq] at hle
          obtain ⟨s, hs⟩ : ∃ s, (pq + o + cy) % 4294967296 = s := ⟨_, rfl⟩
          obtain ⟨d, hd⟩ : ∃ d, (pq + o + cy) / 4294967296 = d := ⟨_, rfl⟩
          have hsI : ((pq : Int) + o + cy) % 4294967296 = s := by omega
          have hdI : ((pq : Int) + o + cy) / 4294967296 = d := by omega
          have hs2 : s < 4294967296 := by omega
          have hd2 : d < 4294967296 := by omega
          have hset := Nm.val_set (l := O2) (i := i + k) (d := s) (by rw [HOL2.o]; omega)
          rw [ho, ← hs] at hset
          have hstep := Nm.mul_inner (p := p) (q := q) hset HO2.o (by rw [hpq])
          rw [hs, hd, ← htk2] at hstep
          have HST := hy' hstep
          have hats := HAT2.o.set (i + k) s
          have HATS := hy' hats
          clear hgy hq htk2 hgo ho hpq hset hstep hats hs hd
          have o0 : (0 : Int) ≤ o := by omega
          have o1 : (o : Int) < 4294967296 := by omega
          have q0 : (0 : Int) ≤ q := by omega
          have q1 : (q : Int) < 4294967296 := by omega
          have hleI : (pq : Int) + o + cy < 18446744073709551616 := by omega
          go_wp2_with fail
          exact ⟨⟨k + 1, d, O2.set (i + k) s, by first | rfl | go_num, by first | rfl | go_num, by omega, hd2, by rw [List.length_set]; exact HOL2.o, Nm.ok_set HOK2.o hs2, HST.o, fun j hj => by
            rw [List.getD_eq_getElem?_getD, List.getElem?_set_ne (by omega), ← List.getD_eq_getElem?_getD]; exact HZ2.o j (by omega), HATS.o, Nm.bel_set HBE2.o (Nat.le_refl _) _ _⟩, by first | (simp [intOf]; done) | (simp [intOf]; omega)⟩
        · obtain rfl : k = ny := by omega
          have kI : ¬ (k : Int) < k := by omega
          have hgo : O2[i + k]? = some (O2.getD (i + k) 0) := Nm.get_of (by rw [HOL2.o]; omega)
          rw [HZ2.o (i + k) (Nat.le_refl _)] at hgo
          have hcello := HAT2.o.cell hgo
          have hfr := Rw.At.frozen HAT2.o (i + k)
          have hgl := HAT2.o.lt
          have hset := Nm.val_set (l := O2) (i := i + k) (d := cy) (by rw [HOL2.o]; omega)
          rw [HZ2.o (i + k) (Nat.le_refl _), Nat.mul_zero, Nat.add_zero, HO2.o, show ly.take k = ly from List.take_of_length_le (by rw [HNY.o]; exact Nat.le_refl _)] at hset
          have hrow := Nm.mul_row hset
          rw [← HTK.o] at hrow
          have HROW := hy' hrow
          have hats := HAT2.o.set (i + k) cy
          have HATS := hy' hats
          have iN : (i : Int) + k < (nx : Int) + k := by omega
          have c0 : (0 : Int) ≤ cy := by omega
          have c1 : (cy : Int) < 4294967296 := by omega
          have c2 : (cy : Int) % 4294967296 = cy := by omega
          clear hgo hset hrow hats
          go_wp2_with fail
          exact ⟨⟨i + 1, O2.set (i + k) cy, by first | rfl | go_num, by omega, by rw [List.length_set]; exact HOL2.o, Nm.ok_set HOK2.o hcy, HROW.o, fun j hj => by
            rw [List.getD_eq_getElem?_getD, List.getElem?_set_ne (by omega), ← List.getD_eq_getElem?_getD]; exact HZ2.o j (by omega), HATS.o, Nm.bel_set HBE2.o (Nat.le_refl _) _ _⟩, by first | (simp [intOf]; done) | (simp [intOf]; omega)⟩
    · obtain rfl : i = nx := by omega
      have iI : ¬ (i : Int) < i := by omega
      have hxy : Nm.val O = x * y := by rw [HO.o, List.take_of_length_le (by rw [HNX.o]; exact Nat.le_refl _), HVX.o, HVY.o]
      have HXY := hy' hxy
      obtain ⟨w3', hw3⟩ : ∃ q : World, wr = q := ⟨_, rfl⟩
      subst hw3
      have HT := hy' (Nm.limbs_any (some ⟨g, 0, none⟩) (i + ny) (i + ny) wr.heap.size O wr HOL.o (by omega) (Nat.le_refl _) HOK.o HAT.o.slt.sl)
      have hbe1 : Below w1.heap.size w1 wr := HQ2.o.trans (HBE.o.mono (by rw [← HGG.o]; exact HQ2.o.size))
      have HK := hy' (show wr.heap[w.heap.size + 2]? = some (.cells #[.slice none 0 0] 27 (0, 0)) from Rw.At.below HB2.o hbe1)
      have HBW := hy' (HAL.o.trans (hbe1.mono HAL.o.size))
      clear hxy hbe1
      go_wp2_with fail
      refine HT.o.mono ?_
      rintro e w2' ⟨v2, rfl, his, hb2⟩
      rw [HXY.o] at his
      replace his := his.more (show i + ny ≤ L + L' by omega)
      obtain ⟨A2, m2, c2, l2, rfl, r⟩ := id his
      have hk2 := (hb2.block (w.heap.size + 2) (heap_lt HK.o)).trans HK.o
      have HK2 := hy' hk2
      have HI2 := hy' his
      obtain ⟨d1, d2⟩ := blk_cell hk2 0
      simp only [List.getElem?_toArray, List.getElem?_cons_zero] at d1
      have hlt2 := heap_lt hk2
      have HB2 := hy' (HBW.o.trans (hb2.mono HBW.o.size))
      clear hk2 r his hb2
      go_wp2_with fail
      have hb3 := set_cell (v := .slice A2 m2 c2) HK2.o
      refine bodyPost_ret (results_cell_row rfl _ _ (w.heap.size + 2) _ _ _ _ rfl hb3 Tryd.underlying27 rfl (by kernel_rfl)) rfl ?_
      exact ⟨_, rfl, HI2.o.setAt (t := 27) (cs := [.slice none 0 0]) HK2.o (by decide) 0 _, HB2.o.setCell (by show w.heap.size ≤ w.heap.size + 2; omega) _⟩
end Go.Proofs.YthcdecncnppjaaaDoor
