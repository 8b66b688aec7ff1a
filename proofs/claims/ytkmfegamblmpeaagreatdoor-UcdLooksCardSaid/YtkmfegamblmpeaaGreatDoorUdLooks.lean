/- The law UcdLooks, by walking its text. -/
import Derived.Test.YtkmfegamblmpeaaGreatDoorExText
import Derived.Test.YtkmfegamblmpeaaGreatDoorUdLoaded
import Derived.Test.YtkmfegamblmpeaaGreatDoorUdLooksPlain
namespace Go.Proofs.YtkmfegamblmpeaaGreatDoor
open Go.RowKit
set_option linter.unusedSimpArgs false
set_option linter.unusedVariables false

set_option maxRecDepth 100000 in
set_option maxHeartbeats 4000000 in
theorem Ud.looks_any (A XA : Option Addr) (n c xn xc : Nat) (T0 : List Rw.Row) (E0 : List Int) (c0 : Int) (w : World) (hn : T0.length = n) (hxn : E0.length = xn) (hnb : n ≤ maxLen) (hxb : xn ≤ maxLen) (hbd : ∀ r ∈ T0, Rw.bounds r) (h2 : Rw.SeesI w A T0) (hX : Sl w w.heap.size XA (E0.map (Value.int .i64))) (hL : Rw.Laid w) :
    Calls Tryz.prog 3 #[.agg #[.slice A n c, .slice XA xn xc], .int .i64 c0] w fun e w' => e = .returned (.bool true) ∧ Below w.heap.size w w' := by
  obtain ⟨wa, hwa⟩ : ∃ wa, w.alloc (.cells #[.slice A n c, .slice XA xn xc] 25) = wa := ⟨_, rfl⟩
  have hba : Below w.heap.size w wa := by rw [← hwa]; exact (Below.refl _ _).alloc (Nat.le_refl _) _
  have hat : Rw.At wa w.heap.size 25 [.slice A n c, .slice XA xn xc] := by rw [← hwa]; exact Rw.At.new w 25 [.slice A n c, .slice XA xn xc]
  have HWA := Lib.hid hwa
  have HBA := Lib.hid hba
  have HAT := Lib.hid hat
  have HLOAD : Hid (∀ W, Below w.heap.size w W → Calls Tryz.prog 6 #[.agg #[.slice A n c, .slice XA xn xc]] W (Ud.RetLoaded W)) := Lib.hid fun W hW =>
    Ud.loaded_any A XA n c xn xc T0 E0 W hn hxn hnb hxb hbd (h2.below hW) (hX.below hW hW.size) (hL.next hW)
  have HAW := Lib.hid (fun W (hW : Below w.heap.size w W) => Ud.awake_any W (hL.next hW))
  clear hwa hba hat hn hxn hnb hxb hbd h2 hX hL
  go_enter Tryz.func3, Tryz.ntmps3
  go_upto_region 1 with (fail)
  rw [HWA.out]
  go_wp2_with fail
  refine (HAW.out wa HBA.out).mono ?_
  rintro e w1 ⟨rfl, hb1⟩
  have hat1 := HAT.out.below hb1
  have z0 := hat1.cell 0 rfl
  have z1 := hat1.cell 1 rfl
  have HAT1 := Lib.hid hat1
  have HB1 := Lib.hid (HBA.out.trans (hb1.mono HBA.out.size))
  have hl1 := hat1.lt
  clear hb1 hat1
  go_wp2_with fail
  refine (HLOAD.out w1 HB1.out).mono ?_
  rintro e w2 ⟨p, v2, T, E, S, rfl, his, hdo, hR, hb2⟩
  obtain ⟨pb, rfl, hpbl⟩ := his.form
  obtain ⟨A2, c2, XA2, xc2, rfl, hdo2⟩ := id hdo
  obtain ⟨n2, hn2⟩ : ∃ k, T.length = k := ⟨_, rfl⟩
  obtain ⟨xn2, hxn2⟩ : ∃ k, E.length = k := ⟨_, rfl⟩
  rw [hn2, hxn2] at hdo ⊢
  unfold Md.tv at hdo ⊢
  have hat2 := HAT1.out.below hb2
  have y0 := hat2.cell 0 rfl
  have y1 := hat2.cell 1 rfl
  have y2 := hat2.frozen 0
  have y3 := hat2.frozen 1
  have hl2 := hat2.lt
  have hs1 := hat2.set 0 (.slice A2 n2 c2)
  have hs2 := hs1.set 1 (.slice XA2 xn2 xc2)
  have hd2 := (hdo.setAt hat2 0 (.slice A2 n2 c2)).setAt hs1 1 (.slice XA2 xn2 xc2)
  have hi2 := (his.setAt hat2 0 (.slice A2 n2 c2)).setAt hs1 1 (.slice XA2 xn2 xc2)
  have hb3 : Below w.heap.size w ((w2.setCell ⟨w.heap.size, 0, none⟩ (.slice A2 n2 c2)).setCell ⟨w.heap.size, 1, none⟩ (.slice XA2 xn2 xc2)) :=
    ((HB1.out.trans (hb2.mono HB1.out.size)).setCell (p := ⟨w.heap.size, 0, none⟩) (Nat.le_refl _) _).setCell (p := ⟨w.heap.size, 1, none⟩) (Nat.le_refl _) _
  obtain ⟨w3, hw3⟩ : ∃ w3, (w2.setCell ⟨w.heap.size, 0, none⟩ (.slice A2 n2 c2)).setCell ⟨w.heap.size, 1, none⟩ (.slice XA2 xn2 xc2) = w3 := ⟨_, rfl⟩
  rw [hw3] at hs2 hd2 hi2 hb3
  have HW3 := Lib.hid hw3
  have HT3 := Lib.hid hs2
  have HD3 := Lib.hid hd2
  have HI3 := Lib.hid hi2
  have HB3 := Lib.hid hb3
  have hl3 := hs2.lt
  have x0 := hs2.cell 0 rfl
  have x1 := hs2.cell 1 rfl
  have HASK : Calls Tryz.prog 7 #[.agg #[.slice A2 n2 c2, .slice XA2 xn2 xc2], .int .i64 c0] w3 (Ud.RetAsked w3) := by
    obtain ⟨A9, c9, X9, d9, he, hse, hsx⟩ := hd2
    simp only [Md.tv, Value.agg.injEq, Array.mk.injEq, List.cons.injEq, Value.slice.injEq, and_true] at he
    obtain ⟨⟨rfl, _, rfl⟩, rfl, _, rfl⟩ := he
    exact Ud.asked_any A2 XA2 n2 c2 xn2 xc2 T c0 w3 hn2 (by have := hR.tl; omega) hR.ok.bd (fun r hr => (hR.rok r hr).2.2.1) hse
  have HR := Lib.hid hR
  have HASK' := Lib.hid HASK
  have HN2 := Lib.hid hn2
  clear hdo hdo2 hs1 hs2 hd2 hi2 his hb3 hw3 hat2 z0 z1 hn2 hxn2 hb2 hR HASK HLOAD HAW HAT HBA HWA
  go_upto_region 4 with (fail)
  rw [HW3.out]
  clear y0 y1 y2 y3
  go_wp2_with fail
  refine HASK'.out.mono ?_
  rintro e w9 ⟨A9, c9, xs, rfl, hown, hxb, hxl, hb9⟩
  have HSL9 := Lib.hid (Sl.of_own hown)
  have HXB := Lib.hid hxb
  have HT9 := Lib.hid (HT3.out.below hb9)
  have HD9 := Lib.hid (HD3.out.below hb9)
  have HI9 := Lib.hid (HI3.out.below hb9)
  have HB9 := Lib.hid (HB3.out.trans (hb9.mono HB3.out.size))
  obtain ⟨nx, hnx⟩ : ∃ k, xs.length = k := ⟨_, rfl⟩
  rw [hnx] at hxl ⊢
  have HNX := Lib.hid hnx
  have HG : Hid (∀ W, Below w9.heap.size w9 W → (∀ x : Stg.Later Stg.Ex W, x.val.cell? ⟨w.heap.size, 0, none⟩ = some (.slice A2 n2 c2)) ∧ (∀ x : Stg.Later Stg.Ex W, x.val.cell? ⟨w.heap.size, 1, none⟩ = some (.slice XA2 xn2 xc2))) := Lib.hid fun W hW =>
    have hT := HT9.out.below hW
    ⟨Stg.cells (hT.cell 0 rfl) hT.lt, Stg.cells (hT.cell 1 rfl) hT.lt⟩
  clear hown hxb hb9 hnx x0 x1 HASK' HT3 HD3 HI3 HW3
  go_wp2_with fail
  go_loopw [25] (fun i wr => ∃ k : Nat, k ≤ nx ∧ i = .int .i64 k ∧ Below w9.heap.size w9 wr) (fun i _ => nx - (intOf i).toNat)
  case atStart => exact ⟨0, Nat.zero_le _, rfl, Below.refl _ _⟩
  case round =>
    obtain ⟨k, hk, rfl, hbelk⟩ := hrel
    have HBK := Lib.hid hbelk
    by_cases hlt : k < nx
    · obtain ⟨a, ha⟩ : ∃ a, xs[k]? = some a := ⟨_, List.getElem?_eq_getElem (by rw [HNX.out]; exact hlt)⟩
      have hab := HXB.out a (List.mem_of_getElem? ha)
      obtain ⟨ba, oa, hA9, hba, hca⟩ := (HSL9.out.below hbelk hbelk.size) (by rw [List.length_map, HNX.out]; omega)
      have hc := hca k (by rw [List.length_map, HNX.out]; exact hlt)
      rw [List.getElem?_map, ha, Option.map_some] at hc
      have ea : IntKind.i32.wrap a = a := by rw [IntKind.wrap_i32]; omega
      have kI : (k : Int) < nx := by omega
      have k0 : (0 : Int) ≤ k := by omega
      have hOK := HR.out.ok
      have hTBD := hOK.bd
      have hTML : ∀ r ∈ T, r.2.2.length ≤ 1000 := fun r hr => Nat.le_trans (HR.out.rok r hr).2.2.1 (by decide)
      obtain ⟨l, hl⟩ := Md.full_some hOK.chk a
      obtain ⟨hln, hl1, hl32, hl2⟩ := Md.full_none hl
      have hlf : Ud.full T a = l := by unfold Ud.full; rw [hl]; rfl
      have hlb : ∀ y ∈ l, -2147483648 ≤ y ∧ y ≤ 2147483647 := Md.full_bd hTBD hab hl
      have hmb := Md.mp_bd hTBD a
      have hmn : (Md.mp T a).length ≤ 1000 := Md.mp_len hTML a
      have hms := Ud.mset_mem hOK a
      have hml1 := Ud.mset_len hOK
      obtain ⟨m, hm⟩ : ∃ m, Md.mp T a = m := ⟨_, rfl⟩
      obtain ⟨q, hq⟩ : ∃ q, Md.cls T a = q := ⟨_, rfl⟩
      obtain ⟨pr, hpr⟩ : ∃ q, Md.prim T (Md.xs E) a = q := ⟨_, rfl⟩
      obtain ⟨ms, hmse⟩ : ∃ q, Ud.mset T = q := ⟨_, rfl⟩
      obtain ⟨msn, hmsn⟩ : ∃ q, ms.length = q := ⟨_, rfl⟩
      rw [hm] at hmn hmb hms
      rw [hmse] at hms hml1
      rw [hmsn] at hml1
      obtain ⟨ml, hml⟩ : ∃ k, m.length = k := ⟨_, rfl⟩
      obtain ⟨ll, hll⟩ : ∃ k, l.length = k := ⟨_, rfl⟩
      rw [hml] at hmn
      rw [hll] at hl1 hl32 hl2
      have HRF : Hid (∀ W, Below w9.heap.size w9 W → Calls Tryz.prog 8 #[.agg #[.slice A2 n2 c2, .slice XA2 xn2 xc2], .int .i64 a] W (Md.RetFull (some l) W)) := Lib.hid fun W hW => by
        have := Md.rfull_any _ T E a W (by have := HR.out.tl; omega) (HD9.out.below hW) hTBD hTML hab.1 hab.2
        rw [hl] at this
        exact this
      have HRM : Hid (∀ W, Below w9.heap.size w9 W → Calls Tryz.prog 9 #[.agg #[.slice A2 n2 c2, .slice XA2 xn2 xc2], .int .i64 a] W (RetInts .i64 m W)) := Lib.hid fun W hW => by
        have := Md.rmap_any _ T E a W (by have := HR.out.tl; omega) (HD9.out.below hW) hab.1 hab.2
        rw [hm] at this
        exact this
      have HRC : Hid (∀ W, Below w9.heap.size w9 W → Calls Tryz.prog 11 #[.agg #[.slice A2 n2 c2, .slice XA2 xn2 xc2], .int .i64 a] W fun e w' => e = .returned (.int .i64 q) ∧ Below W.heap.size W w') := Lib.hid fun W hW => by
        have := Md.rcls_any _ T E a W (by have := HR.out.tl; omega) (HD9.out.below hW)
        rw [hq] at this
        exact this
      have HRP : Hid (∀ W, Below w9.heap.size w9 W → Calls Tryz.prog 16 #[.agg #[.slice A2 n2 c2, .slice XA2 xn2 xc2], .int .i64 a] W fun e w' => e = .returned (.bool pr) ∧ Below W.heap.size W w') := Lib.hid fun W hW => by
        have := Md.rprim_any _ T E a W (by have := HR.out.tl; omega) (by have := HR.out.el; omega) (HD9.out.below hW) hTML hab.1 hab.2
        rw [hpr] at this
        exact this
      have HCC : Hid (∀ W, Below w9.heap.size w9 W → Calls Tryz.prog 10 #[.pointer (some ⟨pb, 0, none⟩), .int .i32 a] W fun e w' => e = .returned (.int .i64 q) ∧ Below W.heap.size W w') := Lib.hid fun W hW => by
        have := Ud.class_any _ T S a W hOK (HI9.out.below hW)
        rw [hq] at this
        exact this
      have HCM : Hid (∀ W, Below w9.heap.size w9 W → Calls Tryz.prog 13 #[.pointer (some ⟨pb, 0, none⟩), .int .i32 a] W (RetInts .i32 m W)) := Lib.hid fun W hW => by
        have := Ud.map_any _ T S a W hOK (HI9.out.below hW) hab.1 hab.2
        rw [hm] at this
        exact this
      have HCF : Hid (∀ W, Below w9.heap.size w9 W → Calls Tryz.prog 14 #[.pointer (some ⟨pb, 0, none⟩), .int .i32 a] W (RetInts .i32 l W)) := Lib.hid fun W hW => by
        have := Ud.full_any _ T S a W hOK (HI9.out.below hW) hab.1 hab.2
        rw [hlf] at this
        exact this
      have HCP : Hid (∀ W, Below w9.heap.size w9 W → Calls Tryz.prog 15 #[.pointer (some ⟨pb, 0, none⟩), .int .i32 a] W fun e w' => e = .returned (.bool pr) ∧ Below W.heap.size W w') := Lib.hid fun W hW => by
        have := Ud.primary_any _ T S a W hOK (HI9.out.below hW) hab.1 hab.2
        rw [HR.out.mem, hpr] at this
        exact this
      have HCL : Hid (∀ W, Below w9.heap.size w9 W → Calls Tryz.prog 17 #[.pointer (some ⟨pb, 0, none⟩), .int .i32 a] W fun e w' => e = .returned (.bool ((ml : Int) == 0)) ∧ Below W.heap.size W w') := Lib.hid fun W hW => by
        have := Ud.plain_any _ T S a W hOK (HI9.out.below hW) hab.1 hab.2
        rw [hm] at this
        have he : decide (m = []) = ((ml : Int) == 0) := by
          rw [Bool.eq_iff_iff, decide_eq_true_iff, beq_iff_eq, ← List.length_eq_zero_iff, hml]
          omega
        rw [he] at this
        exact this
      have HCD : Hid (∀ W, Below w9.heap.size w9 W → Calls Tryz.prog 18 #[.pointer (some ⟨pb, 0, none⟩)] W (RetSet ms W)) := Lib.hid fun W hW => by
        have := Ud.mapped_any _ T S W hOK (HI9.out.below hW)
        rw [hmse] at this
        exact this
      have HHS : Hid (∀ (A : Option Addr) (c : Nat) (W : World), Sl W W.heap.size A (ms.map (Value.int .i32)) → Calls Tryz.prog 19 #[.agg #[.slice A msn c], .int .i32 a] W fun e w' => e = .returned (.bool (decide ((ml : Int) > 0))) ∧ Below W.heap.size W w') := Lib.hid fun A c W hA => by
        have := C.has_any A c msn W.heap.size ms a W hmsn (by omega) (by rw [← hmse]; exact Ud.mset_srt T) (Nat.le_refl _) hA
        have he : decide (m ≠ []) = decide ((ml : Int) > 0) := by
          rw [Bool.eq_iff_iff, decide_eq_true_iff, decide_eq_true_iff, ne_eq, ← List.length_eq_zero_iff, hml]
          omega
        rw [hms, he] at this
        exact this
      have HSM : Hid (∀ (A B : Option Addr) (ca cb : Nat) (W : World), Sl W W.heap.size A (m.map (Value.int .i32)) → Sl W W.heap.size B (m.map (Value.int .i64)) → Calls Tryz.prog 12 #[.slice A ml ca, .slice B ml cb] W fun e w' => e = .returned (.bool true) ∧ Below W.heap.size W w') := Lib.hid fun A B ca cb W h1 h2 => by
        have := Ud.same_any A B ml ca ml cb m m W hml hml (by omega) (by omega) hmb h1 h2
        rw [decide_eq_true rfl] at this
        exact this
      have HSF : Hid (∀ (A B : Option Addr) (ca cb : Nat) (W : World), Sl W W.heap.size A (l.map (Value.int .i32)) → Sl W W.heap.size B (l.map (Value.int .i64)) → Calls Tryz.prog 12 #[.slice A ll ca, .slice B ll cb] W fun e w' => e = .returned (.bool true) ∧ Below W.heap.size W w') := Lib.hid fun A B ca cb W h1 h2 => by
        have := Ud.same_any A B ll ca ll cb l l W hll hll (by omega) (by omega) hlb h1 h2
        rw [decide_eq_true rfl] at this
        exact this
      have HML := Lib.hid hml
      have HLL := Lib.hid hll
      have HMS := Lib.hid hmsn
      have hT := HT9.out.below hbelk
      have t0 := hT.cell 0 rfl
      have t1 := hT.cell 1 rfl
      have tl := hT.lt
      subst hA9
      clear ha hca hl hln hlb hmb hm hq hpr hml hll hl2 hbelk hT hlt hms hmse hmsn hlf hOK hTBD hTML hab hmn hml1 hl1 hl32
      go_wp2_with fail
      refine (HRF.out _ HBK.out).mono ?_
      rintro e wf ⟨Af, cf, rfl, hsf, hbf⟩
      simp only [Option.getD_some, Option.isSome_some] at hsf ⊢
      rw [HLL.out]
      have HBF := Lib.hid (HBK.out.trans (hbf.mono HBK.out.size))
      have hTf := HT9.out.below HBF.out
      have HSF1 := Lib.hid hsf
      clear hbf hsf t0 t1 tl
      have t0 := hTf.cell 0 rfl
      have t1 := hTf.cell 1 rfl
      have tl := hTf.lt
      clear hTf
      go_wp2_with fail
      refine (HRM.out _ HBF.out).mono ?_
      rintro e wg ⟨Am, cm, rfl, hsm, hbm⟩
      rw [HML.out]
      have HBG := Lib.hid (HBF.out.trans (hbm.mono HBF.out.size))
      have HSGM := Lib.hid hsm
      have HSGF := Lib.hid (HSF1.out.below hbm hbm.size)
      have HUP : Hid (∀ W, Below wg.heap.size wg W → Below w9.heap.size w9 W) := Lib.hid fun W hW => HBG.out.trans (hW.mono HBG.out.size)
      clear hbm hsm t0 t1 tl
      go_wp2_with fail
      refine Stg.wp_region Stg.Ex Stg.Ex.rel (by kernel_rfl) (by kernel_rfl) (by kernel_rfl) ?_
      refine Stg.readW (by kernel_rfl) (by kernel_rfl) (by kernel_rfl) ?_; intro K hK; go_big_quiet_op; go_big_quiet_on
      refine Stg.readW (by kernel_rfl) (by kernel_rfl) (by kernel_rfl) ?_; intro K hK; go_big_quiet_op; go_big_quiet_on
      refine Stg.readW (by kernel_rfl) (by kernel_rfl) (by kernel_rfl) ?_; intro K hK; go_big_quiet_op; go_big_quiet_on
      have HQ0 : Hid (Below wg.heap.size wg wg.drew) := Lib.hid (Below.refl _ _).drew
      refine Stg.readW (by kernel_rfl) (by kernel_rfl) (by kernel_rfl) ?_; intro K hK; go_big_quiet_op; go_big_quiet_on
      refine Stg.readW (by kernel_rfl) (by kernel_rfl) (by kernel_rfl) ?_; intro K hK; go_big_quiet_op; go_big_quiet_on
      refine Stg.call 10 _ _ rfl (C.enter Tryz.func10 (by kernel_rfl) rfl) [.pointer (some ⟨pb, 0, none⟩), .int .i32 a] rfl wg.drew _ (HCC.out _ (HUP.out _ HQ0.out)) (by kernel_rfl) rfl (by kernel_rfl) ?_
      rintro e q1 ⟨rfl, hb⟩; refine ⟨_, rfl, hb, ?_⟩; have HQ1 := Lib.hid (HQ0.out.trans (hb.mono HQ0.out.size)); clear hb; intro A' hA'; simp only [Act.put, List.setIfInBounds_toArray, List.set_cons_succ, List.set_cons_zero] at hA'; subst hA'
      obtain ⟨f0, f1⟩ := HG.out wg.drew (HUP.out _ HQ0.out)
      refine Stg.read 1 (by kernel_rfl) (by kernel_rfl) (by kernel_rfl) wg.drew rfl (by kernel_rfl) ?_; intro K hK; go_big_quiet_op; go_big_quiet_on
      clear f0 f1
      refine Stg.readW (by kernel_rfl) (by kernel_rfl) (by kernel_rfl) ?_; intro K hK; go_big_quiet_op; go_big_quiet_on
      refine Stg.call 11 _ _ rfl (C.enter Tryz.func11 (by kernel_rfl) rfl) [.agg #[.slice A2 n2 c2, .slice XA2 xn2 xc2], .int .i64 a] rfl q1 _ (HRC.out _ (HUP.out _ HQ1.out)) (by kernel_rfl) rfl (by kernel_rfl) ?_
      rintro e q2 ⟨rfl, hb⟩; refine ⟨_, rfl, hb, ?_⟩; have HQ2 := Lib.hid (HQ1.out.trans (hb.mono HQ1.out.size)); clear hb; intro A' hA'; simp only [Act.put, List.setIfInBounds_toArray, List.set_cons_succ, List.set_cons_zero] at hA'; subst hA'
      refine Stg.readW (by kernel_rfl) (by kernel_rfl) (by kernel_rfl) ?_; intro K hK; go_big_quiet_op; go_big_quiet_on
      refine Stg.readW (by kernel_rfl) (by kernel_rfl) (by kernel_rfl) ?_; intro K hK; go_big_quiet_op; go_big_quiet_on
      refine Stg.readW (by kernel_rfl) (by kernel_rfl) (by kernel_rfl) ?_; intro K hK; go_big_quiet_op; go_big_quiet_on
      refine Stg.readW (by kernel_rfl) (by kernel_rfl) (by kernel_rfl) ?_; intro K hK; go_big_quiet_op; go_big_quiet_on
      refine Stg.readW (by kernel_rfl) (by kernel_rfl) (by kernel_rfl) ?_; intro K hK; go_big_quiet_op; go_big_quiet_on
      refine Stg.call 13 _ _ rfl (C.enter Tryz.func13 (by kernel_rfl) rfl) [.pointer (some ⟨pb, 0, none⟩), .int .i32 a] rfl q2 _ (HCM.out _ (HUP.out _ HQ2.out)) (by kernel_rfl) rfl (by kernel_rfl) ?_
      rintro e q3 ⟨B1, d1, rfl, hs3, hb⟩; rw [HML.out]; refine ⟨_, rfl, hb, ?_⟩; have HQ3 := Lib.hid (HQ2.out.trans (hb.mono HQ2.out.size)); have HS3 := Lib.hid hs3; clear hb hs3; intro A' hA'; simp only [Act.put, List.setIfInBounds_toArray, List.set_cons_succ, List.set_cons_zero] at hA'; subst hA'
      refine Stg.readW (by kernel_rfl) (by kernel_rfl) (by kernel_rfl) ?_; intro K hK; go_big_quiet_op; go_big_quiet_on
      refine Stg.call 12 _ _ rfl (C.enter Tryz.func12 (by kernel_rfl) rfl) [.slice B1 ml d1, .slice Am ml cm] rfl q3 _ (HSM.out _ _ _ _ _ HS3.out (HSGM.out.below HQ3.out HQ3.out.size)) (by kernel_rfl) rfl (by kernel_rfl) ?_
      rintro e q4 ⟨rfl, hb⟩; refine ⟨_, rfl, hb, ?_⟩; have HQ4 := Lib.hid (HQ3.out.trans (hb.mono HQ3.out.size)); clear hb; intro A' hA'; simp only [Act.put, List.setIfInBounds_toArray, List.set_cons_succ, List.set_cons_zero] at hA'; subst hA'
      refine Stg.readW (by kernel_rfl) (by kernel_rfl) (by kernel_rfl) ?_; intro K hK; go_big_quiet_op; go_big_quiet_on
      refine Stg.readW (by kernel_rfl) (by kernel_rfl) (by kernel_rfl) ?_; intro K hK; go_big_quiet_op; go_big_quiet_on
      refine Stg.readW (by kernel_rfl) (by kernel_rfl) (by kernel_rfl) ?_; intro K hK; go_big_quiet_op; go_big_quiet_on
      refine Stg.readW (by kernel_rfl) (by kernel_rfl) (by kernel_rfl) ?_; intro K hK; go_big_quiet_op; go_big_quiet_on
      refine Stg.readW (by kernel_rfl) (by kernel_rfl) (by kernel_rfl) ?_; intro K hK; go_big_quiet_op; go_big_quiet_on
      refine Stg.call 14 _ _ rfl (C.enter Tryz.func14 (by kernel_rfl) rfl) [.pointer (some ⟨pb, 0, none⟩), .int .i32 a] rfl q4 _ (HCF.out _ (HUP.out _ HQ4.out)) (by kernel_rfl) rfl (by kernel_rfl) ?_
      rintro e q5 ⟨B3, d3, rfl, hs6, hb⟩; rw [HLL.out]; refine ⟨_, rfl, hb, ?_⟩; have HQ5 := Lib.hid (HQ4.out.trans (hb.mono HQ4.out.size)); have HS6 := Lib.hid hs6; clear hb hs6; intro A' hA'; simp only [Act.put, List.setIfInBounds_toArray, List.set_cons_succ, List.set_cons_zero] at hA'; subst hA'
      refine Stg.readW (by kernel_rfl) (by kernel_rfl) (by kernel_rfl) ?_; intro K hK; go_big_quiet_op; go_big_quiet_on
      refine Stg.call 12 _ _ rfl (C.enter Tryz.func12 (by kernel_rfl) rfl) [.slice B3 ll d3, .slice Af ll cf] rfl q5 _ (HSF.out _ _ _ _ _ HS6.out (HSGF.out.below HQ5.out HQ5.out.size)) (by kernel_rfl) rfl (by kernel_rfl) ?_
      rintro e q6 ⟨rfl, hb⟩; refine ⟨_, rfl, hb, ?_⟩; have HQ6 := Lib.hid (HQ5.out.trans (hb.mono HQ5.out.size)); clear hb; intro A' hA'; simp only [Act.put, List.setIfInBounds_toArray, List.set_cons_succ, List.set_cons_zero] at hA'; subst hA'
      refine Stg.readW (by kernel_rfl) (by kernel_rfl) (by kernel_rfl) ?_; intro K hK; go_big_quiet_op; go_big_quiet_on
      refine Stg.readW (by kernel_rfl) (by kernel_rfl) (by kernel_rfl) ?_; intro K hK; go_big_quiet_op; go_big_quiet_on
      refine Stg.readW (by kernel_rfl) (by kernel_rfl) (by kernel_rfl) ?_; intro K hK; go_big_quiet_op; go_big_quiet_on
      refine Stg.readW (by kernel_rfl) (by kernel_rfl) (by kernel_rfl) ?_; intro K hK; go_big_quiet_op; go_big_quiet_on
      refine Stg.readW (by kernel_rfl) (by kernel_rfl) (by kernel_rfl) ?_; intro K hK; go_big_quiet_op; go_big_quiet_on
      refine Stg.call 15 _ _ rfl (C.enter Tryz.func15 (by kernel_rfl) rfl) [.pointer (some ⟨pb, 0, none⟩), .int .i32 a] rfl q6 _ (HCP.out _ (HUP.out _ HQ6.out)) (by kernel_rfl) rfl (by kernel_rfl) ?_
      rintro e q7 ⟨rfl, hb⟩; refine ⟨_, rfl, hb, ?_⟩; have HQ7 := Lib.hid (HQ6.out.trans (hb.mono HQ6.out.size)); clear hb; intro A' hA'; simp only [Act.put, List.setIfInBounds_toArray, List.set_cons_succ, List.set_cons_zero] at hA'; subst hA'
      obtain ⟨f0, f1⟩ := HG.out q6 (HUP.out _ HQ6.out)
      refine Stg.read 1 (by kernel_rfl) (by kernel_rfl) (by kernel_rfl) q6 rfl (by kernel_rfl) ?_; intro K hK; go_big_quiet_op; go_big_quiet_on
      clear f0 f1
      refine Stg.readW (by kernel_rfl) (by kernel_rfl) (by kernel_rfl) ?_; intro K hK; go_big_quiet_op; go_big_quiet_on
      refine Stg.call 16 _ _ rfl (C.enter Tryz.func16 (by kernel_rfl) rfl) [.agg #[.slice A2 n2 c2, .slice XA2 xn2 xc2], .int .i64 a] rfl q7 _ (HRP.out _ (HUP.out _ HQ7.out)) (by kernel_rfl) rfl (by kernel_rfl) ?_
      rintro e q8 ⟨rfl, hb⟩; refine ⟨_, rfl, hb, ?_⟩; have HQ8 := Lib.hid (HQ7.out.trans (hb.mono HQ7.out.size)); clear hb; intro A' hA'; simp only [Act.put, List.setIfInBounds_toArray, List.set_cons_succ, List.set_cons_zero] at hA'; subst hA'
      refine Stg.readW (by kernel_rfl) (by kernel_rfl) (by kernel_rfl) ?_; intro K hK; go_big_quiet_op; go_big_quiet_on
      refine Stg.readW (by kernel_rfl) (by kernel_rfl) (by kernel_rfl) ?_; intro K hK; go_big_quiet_op; go_big_quiet_on
      refine Stg.readW (by kernel_rfl) (by kernel_rfl) (by kernel_rfl) ?_; intro K hK; go_big_quiet_op; go_big_quiet_on
      refine Stg.readW (by kernel_rfl) (by kernel_rfl) (by kernel_rfl) ?_; intro K hK; go_big_quiet_op; go_big_quiet_on
      refine Stg.readW (by kernel_rfl) (by kernel_rfl) (by kernel_rfl) ?_; intro K hK; go_big_quiet_op; go_big_quiet_on
      refine Stg.call 17 _ _ rfl (C.enter Tryz.func17 (by kernel_rfl) rfl) [.pointer (some ⟨pb, 0, none⟩), .int .i32 a] rfl q8 _ (HCL.out _ (HUP.out _ HQ8.out)) (by kernel_rfl) rfl (by kernel_rfl) ?_
      rintro e q9 ⟨rfl, hb⟩; refine ⟨_, rfl, hb, ?_⟩; have HQ9 := Lib.hid (HQ8.out.trans (hb.mono HQ8.out.size)); clear hb; intro A' hA'; simp only [Act.put, List.setIfInBounds_toArray, List.set_cons_succ, List.set_cons_zero] at hA'; subst hA'
      refine Stg.readW (by kernel_rfl) (by kernel_rfl) (by kernel_rfl) ?_; intro K hK; go_big_quiet_op; go_big_quiet_on
      refine Stg.readW (by kernel_rfl) (by kernel_rfl) (by kernel_rfl) ?_; intro K hK; go_big_quiet_op; go_big_quiet_on
      refine Stg.readW (by kernel_rfl) (by kernel_rfl) (by kernel_rfl) ?_; intro K hK; go_big_quiet_op; go_big_quiet_on
      refine Stg.readW (by kernel_rfl) (by kernel_rfl) (by kernel_rfl) ?_; intro K hK; go_big_quiet_op; go_big_quiet_on
      refine Stg.readW (by kernel_rfl) (by kernel_rfl) (by kernel_rfl) ?_; intro K hK; go_big_quiet_op; go_big_quiet_on
      refine Stg.readW (by kernel_rfl) (by kernel_rfl) (by kernel_rfl) ?_; intro K hK; go_big_quiet_op; go_big_quiet_on
      refine Stg.readW (by kernel_rfl) (by kernel_rfl) (by kernel_rfl) ?_; intro K hK; go_big_quiet_op; go_big_quiet_on
      refine Stg.call 18 _ _ rfl (C.enter Tryz.func18 (by kernel_rfl) rfl) [.pointer (some ⟨pb, 0, none⟩)] rfl q9 _ (HCD.out _ (HUP.out _ HQ9.out)) (by kernel_rfl) rfl (by kernel_rfl) ?_
      rintro e q10 ⟨B5, d5, rfl, hs7, hb⟩; rw [HMS.out]; refine ⟨_, rfl, hb, ?_⟩; have HQ10 := Lib.hid (HQ9.out.trans (hb.mono HQ9.out.size)); have HS7 := Lib.hid (Sl.of_own hs7); clear hb hs7; intro A' hA'; simp only [Act.put, List.setIfInBounds_toArray, List.set_cons_succ, List.set_cons_zero] at hA'; subst hA'
      refine Stg.readW (by kernel_rfl) (by kernel_rfl) (by kernel_rfl) ?_; intro K hK; go_big_quiet_op; go_big_quiet_on
      refine Stg.call 19 _ _ rfl (C.enter Tryz.func19 (by kernel_rfl) rfl) [.agg #[.slice B5 msn d5], .int .i32 a] rfl q10 _ (HHS.out _ _ _ HS7.out) (by kernel_rfl) rfl (by kernel_rfl) ?_
      rintro e q11 ⟨rfl, hb⟩; refine ⟨_, rfl, hb, ?_⟩; have HQ11 := Lib.hid (HQ10.out.trans (hb.mono HQ10.out.size)); clear hb; intro A' hA'; simp only [Act.put, List.setIfInBounds_toArray, List.set_cons_succ, List.set_cons_zero] at hA'; subst hA'
      refine Stg.readW (by kernel_rfl) (by kernel_rfl) (by kernel_rfl) ?_; intro K hK; go_big_quiet_op; go_big_quiet_on
      refine Stg.readW (by kernel_rfl) (by kernel_rfl) (by kernel_rfl) ?_; intro K hK; go_big_quiet_op; go_big_quiet_on
      refine Stg.readW (by kernel_rfl) (by kernel_rfl) (by kernel_rfl) ?_; intro K hK; go_big_quiet_op; go_big_quiet_on
      refine Stg.readW (by kernel_rfl) (by kernel_rfl) (by kernel_rfl) ?_; intro K hK; go_big_quiet_op; go_big_quiet_on
      refine Stg.readW (by kernel_rfl) (by kernel_rfl) (by kernel_rfl) ?_; intro K hK; go_big_quiet_op; go_big_quiet_on
      refine Stg.nil q11 rfl ?_
      have HB11 := Lib.hid (HUP.out _ HQ11.out)
      clear HQ0 HQ1 HQ2 HQ3 HQ4 HQ5 HQ6 HQ7 HQ8 HQ9 HQ10 HQ11 HS3 HS6 HS7 HCC HRC HCM HRM HRF HCF HCP HRP HCL HCD HHS HSM HSF
      go_wp2_with fail
      exact ⟨⟨k + 1, by omega, by go_num, HB11.out⟩, by simp [intOf]; omega⟩
    · obtain rfl : nx = k := by omega
      obtain ⟨wz, rfl⟩ : ∃ wz : World, wz = wr := ⟨_, rfl⟩
      have hOK := HR.out.ok
      obtain ⟨o1, o2, o3, o4⟩ := Ud.out_all hOK (c := -1) (by decide)
      obtain ⟨_, _, _, o5⟩ := Ud.out_all hOK (c := 1114112) (by decide)
      have o6 := Ud.begs_out hOK (c := -1) (by decide)
      have o7 := Ud.mset_syl hOK
      have hml1 := Ud.mset_len hOK
      obtain ⟨ms, hmse⟩ : ∃ q, Ud.mset T = q := ⟨_, rfl⟩
      obtain ⟨msn, hmsn⟩ : ∃ q, ms.length = q := ⟨_, rfl⟩
      rw [hmse] at o7 hml1
      rw [hmsn] at hml1
      have HC1 : Hid (∀ W, Below w9.heap.size w9 W → Calls Tryz.prog 10 #[.pointer (some ⟨pb, 0, none⟩), .int .i32 (-1)] W fun e w' => e = .returned (.int .i64 0) ∧ Below W.heap.size W w') := Lib.hid fun W hW => by
        have := Ud.class_any _ T S (-1) W hOK (HI9.out.below hW)
        rw [o1] at this
        exact this
      have HF1 : Hid (∀ W, Below w9.heap.size w9 W → Calls Tryz.prog 14 #[.pointer (some ⟨pb, 0, none⟩), .int .i32 (-1)] W fun e w' => (∃ A c, e = .returned (.slice A 1 c)) ∧ Below W.heap.size W w') := Lib.hid fun W hW => by
        have := Ud.full_any _ T S (-1) W hOK (HI9.out.below hW) (by decide) (by decide)
        rw [o3] at this
        exact this.mono fun e w' ⟨A, c, h1, _, h3⟩ => ⟨⟨A, c, h1⟩, h3⟩
      have HP1 : Hid (∀ W, Below w9.heap.size w9 W → Calls Tryz.prog 15 #[.pointer (some ⟨pb, 0, none⟩), .int .i32 1114112] W fun e w' => e = .returned (.bool false) ∧ Below W.heap.size W w') := Lib.hid fun W hW => by
        have := Ud.primary_any _ T S 1114112 W hOK (HI9.out.below hW) (by decide) (by decide)
        rw [o5] at this
        exact this
      have HM1 : Hid (∀ W, Below w9.heap.size w9 W → Calls Tryz.prog 13 #[.pointer (some ⟨pb, 0, none⟩), .int .i32 (-1)] W fun e w' => (∃ A c, e = .returned (.slice A 0 c)) ∧ Below W.heap.size W w') := Lib.hid fun W hW => by
        have := Ud.map_any _ T S (-1) W hOK (HI9.out.below hW) (by decide) (by decide)
        rw [o2] at this
        exact this.mono fun e w' ⟨A, c, h1, _, h3⟩ => ⟨⟨A, c, h1⟩, h3⟩
      have HB1' : Hid (∀ W, Below w9.heap.size w9 W → Calls Tryz.prog 20 #[.pointer (some ⟨pb, 0, none⟩), .int .i32 (-1)] W fun e w' => (∃ A c, e = .returned (.slice A 0 c)) ∧ Below W.heap.size W w') := Lib.hid fun W hW => by
        have := Ud.begins_any _ T S (-1) W hOK (HI9.out.below hW) (by decide) (by decide)
        rw [o6] at this
        exact this.mono fun e w' ⟨A, c, h1, _, h3⟩ => ⟨⟨A, c, h1⟩, h3⟩
      have HD1 : Hid (∀ W, Below w9.heap.size w9 W → Calls Tryz.prog 18 #[.pointer (some ⟨pb, 0, none⟩)] W fun e w' => ∃ A c, e = .returned (.agg #[.slice A msn c]) ∧ Sl w' w'.heap.size A (ms.map (Value.int .i32)) ∧ Below W.heap.size W w') := Lib.hid fun W hW => by
        have := Ud.mapped_any _ T S W hOK (HI9.out.below hW)
        rw [hmse] at this
        exact this.mono fun e w' ⟨A, c, h1, h2, h3⟩ => ⟨A, c, by rw [h1, hmsn], Sl.of_own h2, h3⟩
      have HH1 : Hid (∀ (A : Option Addr) (c : Nat) (W : World), Sl W W.heap.size A (ms.map (Value.int .i32)) → Calls Tryz.prog 19 #[.agg #[.slice A msn c], .int .i32 55203] W fun e w' => e = .returned (.bool true) ∧ Below W.heap.size W w') := Lib.hid fun A c W hA => by
        have := C.has_any A c msn W.heap.size ms 55203 W hmsn (by omega) (by rw [← hmse]; exact Ud.mset_srt T) (Nat.le_refl _) hA
        rw [o7] at this
        exact this
      clear hbelk hlt hOK o1 o2 o3 o4 o5 o6 o7 hml1 hmse hmsn
      go_wp2_with (first | (go_at_call 10; refine (HC1.out _ HBK.out).mono ?_; rintro e q1 ⟨rfl, hb⟩; have HQ1 := Lib.hid (HBK.out.trans (hb.mono HBK.out.size)); clear hb) | (go_at_call 14; refine (HF1.out _ HQ1.out).mono ?_; rintro e q2 ⟨⟨F1, f1, rfl⟩, hb⟩; have HQ2 := Lib.hid (HQ1.out.trans (hb.mono HQ1.out.size)); clear hb) | (go_at_call 15; refine (HP1.out _ HQ2.out).mono ?_; rintro e q3 ⟨rfl, hb⟩; have HQ3 := Lib.hid (HQ2.out.trans (hb.mono HQ2.out.size)); clear hb) | (go_at_call 13; refine (HM1.out _ HQ3.out).mono ?_; rintro e q4 ⟨⟨F2, f2, rfl⟩, hb⟩; have HQ4 := Lib.hid (HQ3.out.trans (hb.mono HQ3.out.size)); clear hb) | (go_at_call 20; refine (HB1'.out _ HQ4.out).mono ?_; rintro e q5 ⟨⟨F3, f3, rfl⟩, hb⟩; have HQ5 := Lib.hid (HQ4.out.trans (hb.mono HQ4.out.size)); clear hb) | (go_at_call 18; refine (HD1.out _ HQ5.out).mono ?_; rintro e q6 ⟨F4, f4, rfl, hs4, hb⟩; have HQ6 := Lib.hid (HQ5.out.trans (hb.mono HQ5.out.size)); have HS4 := Lib.hid hs4; clear hb hs4) | (go_at_call 19; refine (HH1.out _ _ _ HS4.out).mono ?_; rintro e q7 ⟨rfl, hb⟩; have HQ7 := Lib.hid (HQ6.out.trans (hb.mono HQ6.out.size)); clear hb) | fail)
      go_ret
      exact ⟨rfl, HB9.out.trans (HQ7.out.mono HB9.out.size)⟩
end Go.Proofs.YtkmfegamblmpeaaGreatDoor
