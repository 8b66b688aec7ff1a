/- The package prod, by walking its text: DivMod. -/
import Derived.Test.YthcdecncnppjaaaDoorNmLong
namespace Go.Proofs.YthcdecncnppjaaaDoor
open Go.RowKit
set_option linter.unusedSimpArgs false
set_option linter.unusedVariables false
theorem Nm.four {w : World} {u v r s : Value} {t : TypeId} : ∃ w1, (((w.alloc (.cells #[u] t)).alloc (.cells #[v] t)).alloc (.cells #[r] t)).alloc (.cells #[s] t) = w1 ∧ Below w.heap.size w w1 ∧ w1.heap.size = w.heap.size + 4 ∧ Rw.At w1 w.heap.size t [u] ∧ Rw.At w1 (w.heap.size + 1) t [v] ∧ Rw.At w1 (w.heap.size + 2) t [r] ∧ Rw.At w1 (w.heap.size + 3) t [s] := by
  obtain ⟨w3, h3, hb, hs, ha, hb', hc⟩ := Nm.three (w := w) (u := u) (v := v) (r := r) (t := t)
  refine ⟨_, rfl, ?_, ?_, ?_, ?_, ?_, ?_⟩
  · rw [h3]; exact hb.alloc hb.size _
  · rw [h3]; simp; omega
  · rw [h3]; exact ha.alloc _
  · rw [h3]; exact hb'.alloc _
  · rw [h3]; exact hc.alloc _
  · rw [h3]; exact hs ▸ Rw.At.new w3 t [s]
theorem Nm.results3 {P : Program} {fn : Func} {p p' u : Tmp} {ty : TypeId} (h : fn.results = #[.cell p ty, .cell p' ty, .tmp u]) (tmps : Array Value) (w : World) (g g' : Nat) (t t' : TypeId) (cs cs' : Array Value) (fr fr' : Nat × Nat) (d : TypeDesc)
    (hp : tmps.getD p undef = .pointer (some ⟨g, 0, none⟩)) (hp2 : tmps.getD p' undef = .pointer (some ⟨g', 0, none⟩)) (hg : w.heap[g]? = some (.cells cs t fr)) (hg2 : w.heap[g']? = some (.cells cs' t' fr'))
    (hu : P.underlying ty = some d) (hd : (match d with | .struct _ | .array _ _ => true | _ => false) = true) (hi : (P.info? ty).map (·.size) = some cs.size) (hi2 : (P.info? ty).map (·.size) = some cs'.size) :
    (results fn tmps).run P w = .ok (.tuple #[.agg cs, .agg cs', tmps.getD u undef]) w := by
  have hp' : tmps[p]?.getD undef = .pointer (some ⟨g, 0, none⟩) := by simpa using hp
  have hp2' : tmps[p']?.getD undef = .pointer (some ⟨g', 0, none⟩) := by simpa using hp2
  simp [results, h, hp', hp2', asAddr, run_loadVar_row w g t ty cs fr d hg hu hd hi, run_loadVar_row w g' t' ty cs' fr' d hg2 hu hd hi2]
def Nm.DivPost (x y L : Nat) (w : World) (e : Ending) (w' : World) : Prop :=
  ∃ q r, e = .returned (.tuple #[q, r, .int .i64 0]) ∧ Nm.Is w' q (x / y) L ∧ Nm.Is w' r (x % y) L ∧ Below w.heap.size w w'
theorem Nm.zero_is (w : World) (L : Nat) : Nm.Is w (.agg #[.slice none 0 0]) 0 L := ⟨none, 0, 0, [], rfl, rfl, Slt.nil _ _ _, ⟨fun d hd => by simp at hd, by simp⟩, rfl, Nat.zero_le _⟩
set_option maxRecDepth 100000 in
set_option maxHeartbeats 2000000 in
theorem Nm.div_any (u v : Value) (x y L L' : Nat) (w : World) (hL : L ≤ 100000) (hL' : L' ≤ 100000) (hy : 0 < y) (h : Nm.Is w u x L) (h' : Nm.Is w v y L') :
    Calls Tryd.prog 14 #[u, v] w (Nm.DivPost x y L w) := by
  have HCMP := hy' (fun W (hW : Below w.heap.size w W) => Nm.compare_any u v x y L L' W (by omega) (by omega) (h.below hW) (h'.below hW))
  have HL1 := hy' (fun W (hW : Below w.heap.size w W) => Nm.getLimbs_any u x L W (by omega) (h.below hW))
  have HL2 := hy' (fun W (hW : Below w.heap.size w W) => Nm.getLimbs_any v y L' W (by omega) (h'.below hW))
  have HIU := hy' h
  obtain ⟨A, m, c, l, rfl, -⟩ := h
  obtain ⟨A', m', c', l', rfl, -⟩ := h'
  obtain ⟨w1, hw1, hal, hsz1, hb0, hb1, hb2, hb3⟩ := Nm.four (w := w) (u := .slice A m c) (v := .slice A' m' c') (r := .slice none 0 0) (s := .slice none 0 0) (t := 27)
  have HSZ1 := hy' hsz1
  have HAL := hy' hal
  have HB0 := hy' hb0
  have HB1 := hy' hb1
  have HB2 := hy' hb2
  have HB3 := hy' hb3
  have HW := hy' hw1
  clear hal hb0 hb1 hb2 hb3 hw1 hsz1
  go_enter Tryd.func14, Tryd.ntmps14
  go_upto_region 1 with (fail)
  rw [HW.o]
  have HG : Hy (∀ W, Below w1.heap.size w1 W → (∀ u : Stg.Later Stg.Ex W, u.val.cell? ⟨w.heap.size, 0, none⟩ = some (.slice A m c)) ∧ (∀ u : Stg.Later Stg.Ex W, u.val.cell? ⟨w.heap.size + 1, 0, none⟩ = some (.slice A' m' c'))) := hy' fun W hW =>
    have h0 := HB0.o.below hW
    have h1 := HB1.o.below hW
    ⟨Stg.cells (h0.cell 0 rfl) h0.lt, Stg.cells (h1.cell 0 rfl) h1.lt⟩
  have HQ0 := hy' (Below.refl w1.heap.size w1).drew
  refine Stg.wp_region (by kernel_rfl) Stg.Ex Stg.Ex.rel ?_
  obtain ⟨f0, f1⟩ := HG.o w1.drew HQ0.o
  refine Stg.read 0 (by kernel_rfl) w1.drew rfl ?_; intro K hK; go_big_quiet_op; go_big_quiet_on
  refine Stg.call 20 _ _ rfl Tryd.func20 [.agg #[.slice A m c]] rfl w1.drew _ (HL1.o w1.drew (HAL.o.trans (HQ0.o.mono HAL.o.size))) (by kernel_rfl) rfl ?_
  rintro e q1 ⟨lx, Ax, cx, rfl, hox, hcx, hvx, hlx, hb⟩; refine ⟨_, rfl, hb, ?_⟩; have HQ1 := hy' (HQ0.o.trans (hb.mono HQ0.o.size)); obtain ⟨nx, hnx⟩ : ∃ n, lx.length = n := ⟨_, rfl⟩; rw [hnx] at hox hlx ⊢; have HNX := hy' hnx; have HOX := hy' hox; have HCX := hy' hcx; have HVX := hy' hvx; clear hnx hox hcx hvx; clear hb; intro A' hA'; simp only [Act.put, List.setIfInBounds_toArray, List.set_cons_succ, List.set_cons_zero] at hA'; subst hA'
  refine Stg.read 1 (by kernel_rfl) w1.drew rfl ?_; intro K hK; go_big_quiet_op; go_big_quiet_on
  refine Stg.call 20 _ _ rfl Tryd.func20 [.agg #[.slice A' m' c']] rfl q1 _ (HL2.o q1 (HAL.o.trans (HQ1.o.mono HAL.o.size))) (by kernel_rfl) rfl ?_
  rintro e q2 ⟨ly, Ay, cy, rfl, hoy, hcy, hvy, hly, hb⟩; refine ⟨_, rfl, hb, ?_⟩; have HQ2 := hy' (HQ1.o.trans (hb.mono HQ1.o.size)); obtain ⟨ny, hny⟩ : ∃ n, ly.length = n := ⟨_, rfl⟩; rw [hny] at hoy hly ⊢; have HNY := hy' hny; have HOY := hy' hoy; have HCY := hy' hcy; have HVY := hy' hvy; have HOX2 := hy' (own_below HOX.o hb (Nat.le_refl _)); clear hny hoy hcy hvy; clear hb; intro A' hA'; simp only [Act.put, List.setIfInBounds_toArray, List.set_cons_succ, List.set_cons_zero] at hA'; subst hA'
  refine Stg.readW (by kernel_rfl) ?_; intro K hK; go_big_quiet_op; go_big_quiet_on
  refine Stg.readW (by kernel_rfl) ?_; intro K hK; go_big_quiet_op; go_big_quiet_on
  clear f0 f1
  refine Stg.nil q2 rfl ?_
  have HSX := hy' (Slt.of_own HOX2.o)
  have HSY := hy' (Slt.of_own HOY.o)
  have HBQ := hy' (HAL.o.trans (HQ2.o.mono HAL.o.size))
  obtain ⟨w2, hw2⟩ : ∃ q : World, q = q2 := ⟨_, rfl⟩
  rw [← hw2] at HSX HSY HBQ HQ2 ⊢
  clear hw2
  have hny0 : 0 < ny := by
    rcases Nat.eq_zero_or_pos ny with h | h
    · exfalso
      have h1 := HNY.o
      rw [h] at h1
      have h2 := HVY.o
      rw [List.eq_nil_of_length_eq_zero h1] at h2
      simp [Nm.val] at h2
      omega
    · exact h
  have nI : (0 : Int) < ny := by omega
  have nN : ((ny : Int) == 0) = false := by simp; omega
  have nN2 : ¬ (ny : Int) = 0 := by omega
  have K0 := hy' (HB0.o.below HQ2.o)
  have K1 := hy' (HB1.o.below HQ2.o)
  have K2 := hy' (HB2.o.below HQ2.o)
  have K3 := hy' (HB3.o.below HQ2.o)
  have k0 := K0.o.cell 0 rfl
  have k1 := K1.o.cell 0 rfl
  have l0 := K0.o.lt
  have l1 := K1.o.lt
  go_wp2_with fail
  refine (HCMP.o w2 HBQ.o).mono ?_
  rintro e w3 ⟨kc, rfl, hkc, hb3⟩
  have HKC := hy' hkc
  have HB3' := hy' (HBQ.o.trans (hb3.mono HBQ.o.size))
  have J0 := hy' (K0.o.below hb3)
  have J2 := hy' (K2.o.below hb3)
  have J3 := hy' (K3.o.below hb3)
  have HSX3 := hy' (HSX.o.below hb3)
  have HSY3 := hy' (HSY.o.below hb3)
  clear k0 k1 l0 l1 hb3 hkc
  by_cases hk : kc < 0
  · have hxy : x < y := HKC.o.1 hk
    have j0 := J0.o.cell 0 rfl
    have j2 := J2.o.cell 0 rfl
    have j3 := J3.o.cell 0 rfl
    have g2 := J2.o.frozen 0
    have g3 := J3.o.frozen 0
    have l0 := J0.o.lt
    have l2 := J2.o.lt
    have l3 := J3.o.lt
    go_upto_region 5 with (fail)
    go_region
    go_wp2_with fail
    obtain ⟨wf, hwf⟩ : ∃ wf, ((w3.setCell ⟨w.heap.size + 2, 0, none⟩ (.slice none 0 0)).setCell ⟨w.heap.size + 3, 0, none⟩ (.slice A m c)).drew = wf := ⟨_, rfl⟩
    have e2 : Rw.At wf (w.heap.size + 2) 27 [.slice none 0 0] := by rw [← hwf]; exact (J2.o.set 0 (.slice none 0 0)).other (by omega) _
    have e3 : Rw.At wf (w.heap.size + 3) 27 [.slice A m c] := by rw [← hwf]; exact (J3.o.other (by omega) _).set 0 (.slice A m c)
    have hbf : Below w.heap.size w wf := by rw [← hwf]; exact ((HB3'.o.setCell (by show w.heap.size ≤ w.heap.size + 2; omega) _).setCell (by show w.heap.size ≤ w.heap.size + 3; omega) _).drew
    show bodyPost _ _ _ _ _ ((w3.setCell ⟨w.heap.size + 2, 0, none⟩ (.slice none 0 0)).setCell ⟨w.heap.size + 3, 0, none⟩ (.slice A m c)).drew
    rw [hwf]
    refine bodyPost_ret (Nm.results3 rfl _ _ (w.heap.size + 2) (w.heap.size + 3) 27 27 #[.slice none 0 0] #[.slice A m c] (0, 0) (0, 0) _ rfl rfl e2 e3 Tryd.underlying27 rfl (by kernel_rfl) (by kernel_rfl)) rfl ?_
    refine ⟨_, _, rfl, ?_, ?_, hbf⟩
    · rw [Nat.div_eq_of_lt hxy]; exact Nm.zero_is _ _
    · rw [Nat.mod_eq_of_lt hxy]; exact HIU.o.below hbf
  · have hxy : y ≤ x := by
      refine Nat.le_of_not_lt fun h => hk (HKC.o.2 h)
    have hkI : ¬ kc < 0 := hk
    have hnx0 : 1 ≤ nx := by
      refine Nat.lt_of_not_le fun h => ?_
      have h1 := HNX.o
      have h2 := HVX.o
      have hl0 : lx = [] := List.eq_nil_of_length_eq_zero (by omega)
      rw [hl0] at h2
      simp [Nm.val] at h2
      omega
    by_cases hn1 : ny = 1
    · subst hn1
      have hgy : ly[0]? = some (ly.getD 0 0) := Nm.get_of (by rw [HNY.o]; omega)
      obtain ⟨d, hd⟩ : ∃ d, ly.getD 0 0 = d := ⟨_, rfl⟩
      rw [hd] at hgy
      have hdl : d < 4294967296 := HCY.o.1 d (List.mem_of_getElem? hgy)
      have hyd : y = d := by
        have h1 := HVY.o
        have h2 := HNY.o
        match ly, h2, hgy, h1 with
        | [z], _, hz, h1 =>
          simp at hz
          subst hz
          simp [Nm.val] at h1
          omega
      subst hyd
      obtain ⟨yb, yo, rfl, hyb, hcy0⟩ := Nm.sl_get HSY3.o.sl hgy
      have HSM := hy' (Nm.small_any Ax nx cx w3.heap.size y lx w3 HNX.o (by omega) (Nat.le_refl _) HCX.o.1 HSX3.o.sl hy hdl)
      obtain ⟨rr, hrr⟩ : ∃ r, x % y = r := ⟨_, rfl⟩
      have hrl : rr < 4294967296 := by rw [← hrr]; exact Nat.lt_trans (Nat.mod_lt _ hy) hdl
      rw [HVX.o, hrr] at HSM
      have HRR := hy' hrr
      clear hrr
      simp only [Nat.add_zero] at hcy0
      clear hgy hd
      go_wp2_with fail
      refine HSM.o.mono ?_
      rintro e w4 ⟨gd, Q, rfl, hQl, hQok, hQv, hatq, hb4⟩
      have HB4 := hy' (HB3'.o.trans (hb4.mono HB3'.o.size))
      have HLQ := hy' (Nm.limbs_any (some ⟨gd, 0, none⟩) nx nx w4.heap.size Q w4 hQl (by omega) (Nat.le_refl _) hQok hatq.slt.sl)
      rw [hQv] at HLQ
      have J24 := hy' (J2.o.below hb4)
      have J34 := hy' (J3.o.below hb4)
      clear hQl hQok hQv hatq hb4
      go_wp2_with fail
      refine HLQ.o.mono ?_
      rintro e w5 ⟨v5, rfl, his5, hb5⟩
      obtain ⟨A5, m5, c5, l5, rfl, r5⟩ := id his5
      have HB5 := hy' (HB4.o.trans (hb5.mono HB4.o.size))
      have J25 := hy' (J24.o.below hb5)
      have J35 := hy' (J34.o.below hb5)
      obtain ⟨w6, hw6⟩ : ∃ w6, w5.alloc (.cells #[.int .u32 (rr : Int)] 47) = w6 := ⟨_, rfl⟩
      have hb6 : Below w5.heap.size w5 w6 := by rw [← hw6]; exact (Below.refl _ _).alloc (Nat.le_refl _) _
      have hat6 : Nm.At w6 w5.heap.size [rr] := by rw [← hw6]; exact Rw.At.new w5 47 [.int .u32 (rr : Int)]
      have HIS6 := hy' (his5.below hb6)
      have HB6 := hy' (HB5.o.trans (hb6.mono HB5.o.size))
      have J26 := hy' (J25.o.below hb6)
      have J36 := hy' (J35.o.below hb6)
      have HW6 := hy' hw6
      have HLR := hy' (Nm.limbs_any (some ⟨w5.heap.size, 0, none⟩) 1 1 w6.heap.size [rr] w6 rfl (by omega) (Nat.le_refl _) (fun d hd => by simp at hd; omega) hat6.slt.sl)
      rw [show Nm.val [rr] = rr by simp [Nm.val]] at HLR
      clear hw6 hb6 hat6 his5 hb5 r5
      go_wp2_with fail
      rw [HW6.o]
      refine HLR.o.mono ?_
      rintro e w7 ⟨v7, rfl, his7, hb7⟩
      obtain ⟨A7, m7, c7, l7, rfl, r7⟩ := id his7
      have HI7 := hy' his7
      have HI57 := hy' (HIS6.o.below hb7)
      have J27 := hy' (J26.o.below hb7)
      have J37 := hy' (J36.o.below hb7)
      have HB7 := hy' (HB6.o.trans (hb7.mono HB6.o.size))
      have j2 := J27.o.cell 0 rfl
      have j3 := J37.o.cell 0 rfl
      have g2 := J27.o.frozen 0
      have g3 := J37.o.frozen 0
      have l2 := J27.o.lt
      have l3 := J37.o.lt
      clear his7 hb7 r7
      go_wp2_with fail
      obtain ⟨wf, hwf⟩ : ∃ wf, (w7.setCell ⟨w.heap.size + 2, 0, none⟩ (.slice A5 m5 c5)).setCell ⟨w.heap.size + 3, 0, none⟩ (.slice A7 m7 c7) = wf := ⟨_, rfl⟩
      have e2 : Rw.At wf (w.heap.size + 2) 27 [.slice A5 m5 c5] := by rw [← hwf]; exact (J27.o.set 0 (.slice A5 m5 c5)).other (by omega) _
      have e3 : Rw.At wf (w.heap.size + 3) 27 [.slice A7 m7 c7] := by rw [← hwf]; exact (J37.o.other (by omega) _).set 0 (.slice A7 m7 c7)
      have hbf : Below w.heap.size w wf := by rw [← hwf]; exact (HB7.o.setCell (by show w.heap.size ≤ w.heap.size + 2; omega) _).setCell (by show w.heap.size ≤ w.heap.size + 3; omega) _
      show bodyPost _ _ _ _ _ ((w7.setCell ⟨w.heap.size + 2, 0, none⟩ (.slice A5 m5 c5)).setCell ⟨w.heap.size + 3, 0, none⟩ (.slice A7 m7 c7))
      rw [hwf]
      refine bodyPost_ret (Nm.results3 rfl _ _ (w.heap.size + 2) (w.heap.size + 3) 27 27 #[.slice A5 m5 c5] #[.slice A7 m7 c7] (0, 0) (0, 0) _ rfl rfl e2 e3 Tryd.underlying27 rfl (by kernel_rfl) (by kernel_rfl)) rfl ?_
      refine ⟨_, _, rfl, ?_, ?_, hbf⟩
      · rw [← hwf]
        exact ((HI57.o.more (by omega)).setAt J27.o (by decide) 0 _).setAt (J37.o.other (by omega) _) (by decide) 0 _
      · rw [← hwf, HRR.o]
        exact ((HI7.o.more (by omega)).setAt J27.o (by decide) 0 _).setAt (J37.o.other (by omega) _) (by decide) 0 _
    · have hnI : ¬ (ny : Int) = 1 := by omega
      have hnI2 : ((ny : Int) == 1) = false := by simp; omega
      have hnn : ny ≤ nx := by
        refine Nat.le_of_not_lt fun h => ?_
        have h1 := Nm.can_len HCY.o (by rw [HNY.o]; omega)
        have h2 := Nm.val_lt HCX.o.1
        rw [HVY.o, HNY.o] at h1
        rw [HVX.o, HNX.o] at h2
        have h3 : 4294967296 ^ nx ≤ 4294967296 ^ (ny - 1) := Nat.pow_le_pow_right (by decide) (by omega)
        omega
      have HLG := hy' (Nm.long_any Ax Ay nx ny cx cy (nx - ny) lx ly w3 HNX.o HNY.o (by omega) (by omega) (by omega) HCX.o HCY.o HSX3.o.sl HSY3.o.sl)
      rw [HVX.o, HVY.o] at HLG
      obtain ⟨nq, hnq⟩ : ∃ k, nx - ny + 1 = k := ⟨_, rfl⟩
      rw [hnq] at HLG
      have hnq2 : nq ≤ nx := by omega
      clear hnq
      go_wp2_with fail
      refine HLG.o.mono ?_
      rintro e w4 ⟨gd, gr, cr, Q, R, rfl, hQl, hRl, hQok, hRok, hQv, hRv, hatq, hatr, hb4⟩
      have HB4 := hy' (HB3'.o.trans (hb4.mono HB3'.o.size))
      have HLQ := hy' (Nm.limbs_any (some ⟨gd, 0, none⟩) nq nq w4.heap.size Q w4 hQl (by omega) (Nat.le_refl _) hQok hatq.slt.sl)
      rw [hQv] at HLQ
      have HLR0 := hy' (fun W (hW : Below w4.heap.size w4 W) => Nm.limbs_any (some ⟨gr, 0, none⟩) ny cr W.heap.size R W hRl (by omega) (Nat.le_refl _) hRok (hatr.below hW).slt.sl)
      rw [hRv] at HLR0
      have J24 := hy' (J2.o.below hb4)
      have J34 := hy' (J3.o.below hb4)
      clear hQl hQok hQv hatq hb4 hRl hRok hRv hatr
      go_wp2_with fail
      refine HLQ.o.mono ?_
      rintro e w5 ⟨v5, rfl, his5, hb5⟩
      obtain ⟨A5, m5, c5, l5, rfl, r5⟩ := id his5
      have HB5 := hy' (HB4.o.trans (hb5.mono HB4.o.size))
      have J25 := hy' (J24.o.below hb5)
      have J35 := hy' (J34.o.below hb5)
      have HIS5 := hy' his5
      have HLR := hy' (HLR0.o w5 hb5)
      clear his5 hb5 r5
      go_wp2_with fail
      refine HLR.o.mono ?_
      rintro e w7 ⟨v7, rfl, his7, hb7⟩
      obtain ⟨A7, m7, c7, l7, rfl, r7⟩ := id his7
      have HI7 := hy' his7
      have HI57 := hy' (HIS5.o.below hb7)
      have J27 := hy' (J25.o.below hb7)
      have J37 := hy' (J35.o.below hb7)
      have HB7 := hy' (HB5.o.trans (hb7.mono HB5.o.size))
      have j2 := J27.o.cell 0 rfl
      have j3 := J37.o.cell 0 rfl
      have g2 := J27.o.frozen 0
      have g3 := J37.o.frozen 0
      have l2 := J27.o.lt
      have l3 := J37.o.lt
      clear his7 hb7 r7
      go_wp2_with fail
      obtain ⟨wf, hwf⟩ : ∃ wf, (w7.setCell ⟨w.heap.size + 2, 0, none⟩ (.slice A5 m5 c5)).setCell ⟨w.heap.size + 3, 0, none⟩ (.slice A7 m7 c7) = wf := ⟨_, rfl⟩
      have e2 : Rw.At wf (w.heap.size + 2) 27 [.slice A5 m5 c5] := by rw [← hwf]; exact (J27.o.set 0 (.slice A5 m5 c5)).other (by omega) _
      have e3 : Rw.At wf (w.heap.size + 3) 27 [.slice A7 m7 c7] := by rw [← hwf]; exact (J37.o.other (by omega) _).set 0 (.slice A7 m7 c7)
      have hbf : Below w.heap.size w wf := by rw [← hwf]; exact (HB7.o.setCell (by show w.heap.size ≤ w.heap.size + 2; omega) _).setCell (by show w.heap.size ≤ w.heap.size + 3; omega) _
      show bodyPost _ _ _ _ _ ((w7.setCell ⟨w.heap.size + 2, 0, none⟩ (.slice A5 m5 c5)).setCell ⟨w.heap.size + 3, 0, none⟩ (.slice A7 m7 c7))
      rw [hwf]
      refine bodyPost_ret (Nm.results3 rfl _ _ (w.heap.size + 2) (w.heap.size + 3) 27 27 #[.slice A5 m5 c5] #[.slice A7 m7 c7] (0, 0) (0, 0) _ rfl rfl e2 e3 Tryd.underlying27 rfl (by kernel_rfl) (by kernel_rfl)) rfl ?_
      refine ⟨_, _, rfl, ?_, ?_, hbf⟩
      · rw [← hwf]
        exact ((HI57.o.more (by omega)).setAt J27.o (by decide) 0 _).setAt (J37.o.other (by omega) _) (by decide) 0 _
      · rw [← hwf]
        exact ((HI7.o.more (by omega)).setAt J27.o (by decide) 0 _).setAt (J37.o.other (by omega) _) (by decide) 0 _
end Go.Proofs.YthcdecncnppjaaaDoor
