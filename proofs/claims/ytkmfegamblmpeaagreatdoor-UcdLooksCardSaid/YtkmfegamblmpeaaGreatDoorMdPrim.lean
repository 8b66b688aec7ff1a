/- The layer model: composite and Primary, by walking their text. -/
import Derived.Test.YtkmfegamblmpeaaGreatDoorExt
import Derived.Deep.RegionHeld3
import Derived.BigQuiet
namespace Go.Proofs.YtkmfegamblmpeaaGreatDoor
open Go.RowKit
set_option linter.unusedSimpArgs false
set_option linter.unusedVariables false

set_option maxRecDepth 100000 in
set_option maxHeartbeats 2000000 in
theorem Md.comp_any (v : Value) (T : List Rw.Row) (S : List Int) (r : Rw.Row) (aA : Option Addr) (ac : Nat) (w : World) (ok : Md.Ok T) (h : Md.Is w v T S) (hS : C.srt S) (hSn : S.length ≤ 1000000) (hr : -2147483648 ≤ r.1 ∧ r.1 ≤ 2147483647) (hm : ∀ c ∈ r.2.2, -2147483648 ≤ c ∧ c ≤ 2147483647) (hl : r.2.2.length ≤ 1000000) (hM : Sl w w.heap.size aA (r.2.2.map (Value.int .i32))) :
    Calls Tryz.prog 82 #[v, Md.rv r (aA, ac)] w fun e w' => e = .returned (.bool (Md.comp T (C.mem S) r)) ∧ Below w.heap.size w w' := by
  obtain ⟨A, c, XA, xc, rfl, h2, hX⟩ := id h
  obtain ⟨xn, hxn⟩ : ∃ k, S.length = k := ⟨_, rfl⟩
  obtain ⟨n, hn⟩ : ∃ k, T.length = k := ⟨_, rfl⟩
  rw [hn, hxn] at h ⊢
  obtain ⟨ml, hml⟩ : ∃ k, r.2.2.length = k := ⟨_, rfl⟩
  have HML := Lib.hid hml
  unfold Md.rv
  rw [hml] at hl ⊢
  obtain ⟨wa, hwa⟩ : ∃ wa, (w.alloc (.cells #[.slice A n c, .slice XA xn xc] 50)).alloc (.cells #[.int .i32 r.1, .int .i64 r.2.1, .slice aA ml ac] 99) = wa := ⟨_, rfl⟩
  have hbA : Below w.heap.size w wa := by rw [← hwa]; exact ((Below.refl _ _).alloc (Nat.le_refl _) _).alloc (by simp) _
  have hat0 : Rw.At wa w.heap.size 50 [.slice A n c, .slice XA xn xc] := by rw [← hwa]; exact (Rw.At.new w 50 [.slice A n c, .slice XA xn xc]).alloc _
  have hat1 : Rw.At wa (w.heap.size + 1) 99 [.int .i32 r.1, .int .i64 r.2.1, .slice aA ml ac] := by
    have hh := Rw.At.new (w.alloc (.cells #[.slice A n c, .slice XA xn xc] 50)) 99 [.int .i32 r.1, .int .i64 r.2.1, .slice aA ml ac]
    rw [World.size_alloc] at hh
    rw [← hwa]
    exact hh
  have hz1 : w.heap.size + 1 < wa.heap.size := hat1.lt
  have z0 := hat0.cell 0 rfl
  have z1 := hat0.cell 1 rfl
  have y0 := hat1.cell 0 rfl
  have y1 := hat1.cell 1 rfl
  have y2 := hat1.cell 2 rfl
  have HWA := Lib.hid hwa
  have HBA := Lib.hid hbA
  have HIS := Lib.hid (h.below hbA)
  have HX := Lib.hid hX
  have HXN := Lib.hid hxn
  have HSS := Lib.hid hS
  have HMS := Lib.hid hM
  have HMB := Lib.hid hm
  have HOK := Lib.hid ok
  have HAT0 := Lib.hid hat0
  have HAT1 := Lib.hid hat1
  rw [hxn] at hSn
  obtain ⟨cm, hcm⟩ : ∃ b, Md.comp T (C.mem S) r = b := ⟨_, rfl⟩
  rw [hcm]
  have HCM := Lib.hid hcm
  clear hwa hbA h h2 hX hxn hS hM hm hn ok hat0 hat1 hcm hml
  unfold Md.tv
  rcases hb1 : (r.2.1 == 0) with _ | _
  · go_enter Tryz.func82, Tryz.ntmps82
    go_upto_region 1 with (fail)
    rw [HWA.out]
    go_quiet (fail)
    go_wp2_with fail
    go_ret
    have hc : cm = false := by
      rw [← HCM.out]
      unfold Md.comp
      rw [decide_eq_false (by simpa using hb1), Bool.false_and]
    exact ⟨by rw [hc]; rfl, below_drewN HBA.out _⟩
  · rcases hb2 : ((ml : Int) == 2) with _ | _
    · go_enter Tryz.func82, Tryz.ntmps82
      go_upto_region 1 with (fail)
      rw [HWA.out]
      go_quiet (fail)
      go_wp2_with fail
      go_ret
      have hc : cm = false := by
        rw [← HCM.out]
        unfold Md.comp
        have h2 : ¬ r.2.2.length = 2 := fun e => by rw [HML.out] at e; rw [e] at hb2; simp at hb2
        rw [decide_eq_false h2, Bool.false_and, Bool.and_false]
      exact ⟨by rw [hc]; rfl, below_drewN HBA.out _⟩
    · obtain ⟨x, y, hxy⟩ : ∃ x y, r.2.2 = [x, y] := by
        have h2 : r.2.2.length = 2 := by rw [HML.out]; have := beq_iff_eq.1 hb2; omega
        match hh : r.2.2, h2 with
        | [x, y], _ => exact ⟨x, y, rfl⟩
      have hsl := HMS.out.below HBA.out HBA.out.size
      rw [hxy] at hsl
      obtain ⟨ab, ao, hA, hab, hac⟩ := hsl (by simp)
      have hc0 : wa.cell? ⟨ab, ao, none⟩ = some (.int .i32 x) := by simpa using hac 0 (by simp)
      subst hA
      have hxb := HMB.out x (by rw [hxy]; simp)
      have HCL : Hid (∀ W, Below wa.heap.size wa W → Calls Tryz.prog 111 #[.agg #[.slice A n c, .slice XA xn xc], .int .i32 x] W fun e w' => e = .returned (.int .i64 (Md.cls T x)) ∧ Below W.heap.size W w') := Lib.hid fun W hW => Md.class_any _ T S x W HOK.out (HIS.out.below hW) hxb.1 hxb.2
      have HHA : Hid (∀ W, Below wa.heap.size wa W → Calls Tryz.prog 19 #[.agg #[.slice XA xn xc], .int .i32 r.1] W fun e w' => e = .returned (.bool (C.mem S r.1)) ∧ Below W.heap.size W w') := Lib.hid fun W hW => C.has_any XA xc xn w.heap.size S r.1 W HXN.out hSn HSS.out (Nat.le_trans HBA.out.size hW.size) (HX.out.below (HBA.out.trans (hW.mono HBA.out.size)) (Nat.le_refl _))
      have hw0 : Below wa.heap.size wa wa := Below.refl _ _
      have hcm : cm = (decide (Md.cls T x = 0) && !C.mem S r.1) := by
        rw [← HCM.out]
        unfold Md.comp
        rw [decide_eq_true (beq_iff_eq.1 hb1), hxy]
        rfl
      have HCMM := Lib.hid hcm
      have hml3 : 0 < ml := by have := beq_iff_eq.1 hb2; omega
      have hml2 : (0 : Int) < ml := by have := beq_iff_eq.1 hb2; omega
      obtain ⟨q, hq⟩ : ∃ q, Md.cls T x = q := ⟨_, rfl⟩
      rw [hq] at HCL HCMM
      have C1 := Lib.hid (Ext.call HCL.out)
      have C2 := Lib.hid (Ext.call HHA.out)
      have f0 := Ext.cells z0 (Nat.lt_trans (Nat.lt_succ_self _) hz1)
      have f1 := Ext.cells z1 (Nat.lt_trans (Nat.lt_succ_self _) hz1)
      have f2 := Ext.cells y0 hz1
      have f3 := Ext.cells y1 hz1
      have f4 := Ext.cells y2 hz1
      have f5 := Ext.cells hc0 hab
      clear hcm hac hsl hq HCL HHA z0 z1 y0 y1 y2 hc0 hw0
      rcases hb3 : (q == 0) with _ | _
      · have hb4 : decide (q = 0) = false := by simpa using hb3
        have HOO : Hid (cm = false) := Lib.hid (by rw [HCMM.out, hb4]; rfl)
        clear hb4
        go_enter Tryz.func82, Tryz.ntmps82
        go_upto_region 1 with (fail)
        rw [HWA.out]
        refine wp_region_ext (by kernel_rfl) (by kernel_rfl) ?_
        repeat (go_big_quiet_step ((first | (go_at_call 111; with_reducible exact C1.out _) | (go_at_call 19; with_reducible exact C2.out _))))
        refine wpQuiet_nil ?_
        intro xw
        have HBZ := Lib.hid (HBA.out.trans (xw.below.mono HBA.out.size))
        go_wp2_with fail
        go_ret
        exact ⟨by rw [HOO.out]; rfl, HBZ.out⟩
      · have hq0 : q = 0 := beq_iff_eq.1 hb3
        subst hq0
        have HOO : Hid (cm = !C.mem S r.1) := Lib.hid (by rw [HCMM.out]; rfl)
        clear hb3
        go_enter Tryz.func82, Tryz.ntmps82
        go_upto_region 1 with (fail)
        rw [HWA.out]
        refine wp_region_ext (by kernel_rfl) (by kernel_rfl) ?_
        repeat (go_big_quiet_step ((first | (go_at_call 111; with_reducible exact C1.out _) | (go_at_call 19; with_reducible exact C2.out _))))
        refine wpQuiet_nil ?_
        intro xw
        have HBZ := Lib.hid (HBA.out.trans (xw.below.mono HBA.out.size))
        go_wp2_with fail
        go_ret
        exact ⟨by rw [HOO.out]; rfl, HBZ.out⟩
end Go.Proofs.YtkmfegamblmpeaaGreatDoor
