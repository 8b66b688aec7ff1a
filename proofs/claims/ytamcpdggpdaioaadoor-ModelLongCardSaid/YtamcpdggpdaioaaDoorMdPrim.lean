/- The layer model: composite and Primary, by walking their text. -/
import Derived.Test.YtamcpdggpdaioaaDoorMdExp
import Derived.Test.YtamcpdggpdaioaaDoorCpFind
import Derived.Deep.RegionHeld3
import Derived.BigQuiet
namespace Go.Proofs.YtamcpdggpdaioaaDoor
open Go.RowKit
set_option linter.unusedSimpArgs false
set_option linter.unusedVariables false

set_option maxRecDepth 100000 in
set_option maxHeartbeats 2000000 in
theorem Md.comp_any (v : Value) (T : List Rw.Row) (S : List Int) (r : Rw.Row) (aA : Option Addr) (ac : Nat) (w : World) (ok : Md.Ok T) (h : Md.Is w v T S) (hS : C.srt S) (hSn : S.length ≤ 1000000) (hr : -2147483648 ≤ r.1 ∧ r.1 ≤ 2147483647) (hm : ∀ c ∈ r.2.2, -2147483648 ≤ c ∧ c ≤ 2147483647) (hl : r.2.2.length ≤ 1000000) (hM : Sl w w.heap.size aA (r.2.2.map (Value.int .i32))) :
    Calls Tryd.prog 20 #[v, Md.rv r (aA, ac)] w fun e w' => e = .returned (.bool (Md.comp T (C.mem S) r)) ∧ Below w.heap.size w w' := by
  obtain ⟨A, c, XA, xc, rfl, h2, hX⟩ := id h
  obtain ⟨xn, hxn⟩ : ∃ k, S.length = k := ⟨_, rfl⟩
  obtain ⟨n, hn⟩ : ∃ k, T.length = k := ⟨_, rfl⟩
  rw [hn, hxn] at h ⊢
  obtain ⟨ml, hml⟩ : ∃ k, r.2.2.length = k := ⟨_, rfl⟩
  have HML := Lib.hid hml
  unfold Md.rv
  rw [hml] at hl ⊢
  obtain ⟨wa, hwa⟩ : ∃ wa, (w.alloc (.cells #[.slice A n c, .slice XA xn xc] 34)).alloc (.cells #[.int .i32 r.1, .int .i64 r.2.1, .slice aA ml ac] 50) = wa := ⟨_, rfl⟩
  have hbA : Below w.heap.size w wa := by rw [← hwa]; exact ((Below.refl _ _).alloc (Nat.le_refl _) _).alloc (by simp) _
  have hat0 : Rw.At wa w.heap.size 34 [.slice A n c, .slice XA xn xc] := by rw [← hwa]; exact (Rw.At.new w 34 [.slice A n c, .slice XA xn xc]).alloc _
  have hat1 : Rw.At wa (w.heap.size + 1) 50 [.int .i32 r.1, .int .i64 r.2.1, .slice aA ml ac] := by
    have hh := Rw.At.new (w.alloc (.cells #[.slice A n c, .slice XA xn xc] 34)) 50 [.int .i32 r.1, .int .i64 r.2.1, .slice aA ml ac]
    rw [World.size_alloc] at hh
    rw [← hwa]
    exact hh
  have hz1 : w.heap.size + 1 < wa.heap.size := hat1.lt
  have z0 := hat0.cell 0 rfl
  have z1 := hat0.cell 1 rfl
  have y0 := hat1.cell 0 rfl
  have y1 := hat1.cell 1 rfl
  have y2 := hat1.cell 2 rfl
  have HWA := Lib.hid hwa
  have HBA := Lib.hid hbA
  have HIS := Lib.hid (h.below hbA)
  have HX := Lib.hid hX
  have HXN := Lib.hid hxn
  have HSS := Lib.hid hS
  have HMS := Lib.hid hM
  have HMB := Lib.hid hm
  have HOK := Lib.hid ok
  have HAT0 := Lib.hid hat0
  have HAT1 := Lib.hid hat1
  rw [hxn] at hSn
  obtain ⟨cm, hcm⟩ : ∃ b, Md.comp T (C.mem S) r = b := ⟨_, rfl⟩
  rw [hcm]
  have HCM := Lib.hid hcm
  clear hwa hbA h h2 hX hxn hS hM hm hn ok hat0 hat1 hcm hml
  unfold Md.tv
  rcases hb1 : (r.2.1 == 0) with _ | _
  · go_enter Tryd.func20, Tryd.ntmps20
    go_upto_region 1 with (fail)
    rw [HWA.out]
    go_quiet (fail)
    go_wp2_with fail
    go_ret
    have hc : cm = false := by
      rw [← HCM.out]
      unfold Md.comp
      rw [decide_eq_false (by simpa using hb1), Bool.false_and]
    exact ⟨by rw [hc]; rfl, below_drewN HBA.out _⟩
  · rcases hb2 : ((ml : Int) == 2) with _ | _
    · go_enter Tryd.func20, Tryd.ntmps20
      go_upto_region 1 with (fail)
      rw [HWA.out]
      go_quiet (fail)
      go_wp2_with fail
      go_ret
      have hc : cm = false := by
        rw [← HCM.out]
        unfold Md.comp
        have h2 : ¬ r.2.2.length = 2 := fun e => by rw [HML.out] at e; rw [e] at hb2; simp at hb2
        rw [decide_eq_false h2, Bool.false_and, Bool.and_false]
      exact ⟨by rw [hc]; rfl, below_drewN HBA.out _⟩
    · obtain ⟨x, y, hxy⟩ : ∃ x y, r.2.2 = [x, y] := by
        have h2 : r.2.2.length = 2 := by rw [HML.out]; have := beq_iff_eq.1 hb2; omega
        match hh : r.2.2, h2 with
        | [x, y], _ => exact ⟨x, y, rfl⟩
      have hsl := HMS.out.below HBA.out HBA.out.size
      rw [hxy] at hsl
      obtain ⟨ab, ao, hA, hab, hac⟩ := hsl (by simp)
      have hc0 : wa.cell? ⟨ab, ao, none⟩ = some (.int .i32 x) := by simpa using hac 0 (by simp)
      subst hA
      have hxb := HMB.out x (by rw [hxy]; simp)
      have HCL : Hid (∀ W, Below wa.heap.size wa W → Calls Tryd.prog 37 #[.agg #[.slice A n c, .slice XA xn xc], .int .i32 x] W fun e w' => e = .returned (.int .i64 (Md.cls T x)) ∧ Below W.heap.size W w') := Lib.hid fun W hW => Md.class_any _ T S x W HOK.out (HIS.out.below hW) hxb.1 hxb.2
      have HHA : Hid (∀ W, Below wa.heap.size wa W → Calls Tryd.prog 38 #[.agg #[.slice XA xn xc], .int .i32 r.1] W fun e w' => e = .returned (.bool (C.mem S r.1)) ∧ Below W.heap.size W w') := Lib.hid fun W hW => C.has_any XA xc xn w.heap.size S r.1 W HXN.out hSn HSS.out (Nat.le_trans HBA.out.size hW.size) (HX.out.below (HBA.out.trans (hW.mono HBA.out.size)) (Nat.le_refl _))
      have hw0 : Below wa.heap.size wa wa := Below.refl _ _
      have hcm : cm = (decide (Md.cls T x = 0) && !C.mem S r.1) := by
        rw [← HCM.out]
        unfold Md.comp
        rw [decide_eq_true (beq_iff_eq.1 hb1), hxy]
        rfl
      have HCMM := Lib.hid hcm
      have hml3 : 0 < ml := by have := beq_iff_eq.1 hb2; omega
      have hml2 : (0 : Int) < ml := by have := beq_iff_eq.1 hb2; omega
      obtain ⟨q, hq⟩ : ∃ q, Md.cls T x = q := ⟨_, rfl⟩
      rw [hq] at HCL HCMM
      clear hcm hac hsl hq
      rcases hb3 : (q == 0) with _ | _
      · have hb4 : decide (q = 0) = false := by simpa using hb3
        have hb5 : ¬ q = 0 := by simpa using hb3
        have hc : cm = false := by rw [HCMM.out, hb4]; rfl
        have HC := Lib.hid hc
        clear hc
        go_enter Tryd.func20, Tryd.ntmps20
        go_upto_region 1 with (fail)
        rw [HWA.out]
        first
          | go_region_with (go_at_call 37; refine (HCL.out _ ?_).mono ?_; exact hw0.drew; rintro e wk ⟨rfl, hbc⟩; have hbz := hw0.drew.trans (hbc.mono (by simp)); have hsz := Nat.lt_of_lt_of_le hz1 hbz.size; have k0 := ((bcell hbz).1 _ 0 (Nat.lt_trans (Nat.lt_succ_self _) hz1)).trans z0; have k1 := ((bcell hbz).1 _ 1 (Nat.lt_trans (Nat.lt_succ_self _) hz1)).trans z1; have k2 := ((bcell hbz).1 _ 0 hz1).trans y0; have k3 := ((bcell hbz).1 _ 1 hz1).trans y1; have k4 := ((bcell hbz).1 _ 2 hz1).trans y2; have k5 := ((bcell hbz).1 _ ao hab).trans hc0)
          | fail
        all_goals
          clear k0 k1 k2 k3 k4 k5
          have HBZ := Lib.hid (HBA.out.trans (hbz.mono HBA.out.size))
          clear hbz hsz
          go_wp2_with fail
          go_ret
          exact ⟨by rw [HC.out]; rfl, HBZ.out⟩
      · have hq0 : q = 0 := beq_iff_eq.1 hb3
        subst hq0
        rw [show decide ((0 : Int) = 0) = true from rfl, Bool.true_and] at HCMM
        clear hb3
        go_enter Tryd.func20, Tryd.ntmps20
        go_upto_region 1 with (fail)
        rw [HWA.out]
        go_region_held3 (fun w' => w'.cell? ⟨w.heap.size, 0, none⟩ = some (.slice A n c) ∧ w'.cell? ⟨w.heap.size, 1, none⟩ = some (.slice XA xn xc) ∧ w'.cell? ⟨w.heap.size + 1, 0, none⟩ = some (.int .i32 r.1) ∧ w'.cell? ⟨w.heap.size + 1, 1, none⟩ = some (.int .i64 r.2.1) ∧ w'.cell? ⟨w.heap.size + 1, 2, none⟩ = some (.slice (some ⟨ab, ao, none⟩) ml ac) ∧ w'.cell? ⟨ab, ao, none⟩ = some (.int .i32 x) ∧ Below wa.heap.size wa w')
          (first | exact ⟨z0, z1, y0, y1, y2, hc0, hw0.drew⟩ | exact ⟨k0, k1, k2, k3, k4, k5, hbz⟩ | exact ⟨k0, k1, k2, k3, k4, k5, hbz2⟩ | fail)
          (first
            | (go_at_call 37; refine (HCL.out _ hw0.drew).mono ?_; rintro e wk ⟨rfl, hbc⟩; have hbz := hw0.drew.trans (hbc.mono (by simp)); have k0 := ((bcell hbz).1 _ 0 (Nat.lt_trans (Nat.lt_succ_self _) hz1)).trans z0; have k1 := ((bcell hbz).1 _ 1 (Nat.lt_trans (Nat.lt_succ_self _) hz1)).trans z1; have k2 := ((bcell hbz).1 _ 0 hz1).trans y0; have k3 := ((bcell hbz).1 _ 1 hz1).trans y1; have k4 := ((bcell hbz).1 _ 2 hz1).trans y2; have k5 := ((bcell hbz).1 _ ao hab).trans hc0)
            | (go_at_call 38; refine (HHA.out _ hbz).mono ?_; rintro e wk2 ⟨rfl, hbc2⟩; have hbz2 := hbz.trans (hbc2.mono hbz.size); have k0 := ((bcell hbz2).1 _ 0 (Nat.lt_trans (Nat.lt_succ_self _) hz1)).trans z0; have k1 := ((bcell hbz2).1 _ 1 (Nat.lt_trans (Nat.lt_succ_self _) hz1)).trans z1; have k2 := ((bcell hbz2).1 _ 0 hz1).trans y0; have k3 := ((bcell hbz2).1 _ 1 hz1).trans y1; have k4 := ((bcell hbz2).1 _ 2 hz1).trans y2; have k5 := ((bcell hbz2).1 _ ao hab).trans hc0)
            | fail)
        all_goals
          clear k0 k1 k2 k3 k4 k5
          have HBZ := Lib.hid (HBA.out.trans (hbz2.mono HBA.out.size))
          clear hbz hbz2
          go_wp2_with fail
          go_ret
          exact ⟨by rw [HCMM.out]; rfl, HBZ.out⟩
end Go.Proofs.YtamcpdggpdaioaaDoor
