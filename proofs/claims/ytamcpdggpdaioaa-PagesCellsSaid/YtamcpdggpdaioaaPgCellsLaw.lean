/- The law PagesCells, by walking its text. -/
import Derived.Test.YtamcpdggpdaioaaPgOrder
import Derived.Test.YtamcpdggpdaioaaPgBlocks
import Derived.Test.YtamcpdggpdaioaaPgGets
namespace Go.Proofs.Ytamcpdggpdaioaa
open Go.RowKit
set_option linter.unusedSimpArgs false
set_option linter.unusedVariables false

theorem Pg.of_congr {w : World} {v : Value} {f g : Int → Int} (h : ∀ c, 0 ≤ c → c ≤ 1114111 → f c = g c) (hf : Pg.Of w v f) : Pg.Of w v g := by
  have e1 : Pg.bls f 4352 = Pg.bls g 4352 := Pg.bls_congr h 4352 (Nat.le_refl _)
  have e2 : Pg.idx f 4352 = Pg.idx g 4352 := by
    unfold Pg.idx
    refine List.map_congr_left fun n hn => ?_
    rw [e1, Pg.blk_congr h (List.mem_range.1 hn)]
  unfold Pg.Of at hf ⊢
  rw [← e1, ← e2]
  exact hf

set_option maxRecDepth 100000 in
set_option maxHeartbeats 4000000 in
theorem Pg.cells_row (A : Option Addr) (n c : Nat) (L : List (Int × Int)) (w : World) (hn : L.length = n) (hnb : n ≤ maxLen) (h64 : Pg.in64 L) (h : Sl w w.heap.size A (C.fl .i64 L)) :
    Calls Try.prog 4 #[.slice A n c] w fun e w' => e = .returned (.bool true) ∧ Below w.heap.size w w' := by
  have HFEW : Hid (∀ W, Below w.heap.size w W → Calls Try.prog 8 #[.slice A n c] W (Pg.RetFew (Pg.fewL L) W)) := Lib.hid fun W hW => Pg.few_any A n c L W hn hnb h64 (h.below hW hW.size)
  have hok := Pg.fewL_ok L
  have hl30 := Pg.fewL_len L
  obtain ⟨X, hX⟩ : ∃ X, Pg.fewL L = X := ⟨_, rfl⟩
  rw [hX] at HFEW hok hl30
  obtain ⟨m, hm⟩ : ∃ m, X.length = m := ⟨_, rfl⟩
  rw [hm] at hl30
  have HM := Lib.hid hm
  have HOK := Lib.hid hok
  have hgb := Pg.get_bd hok
  have hfb := Pg.last_u16 (fun x hx => (hok x hx).2.2)
  obtain ⟨f, hf⟩ : ∃ f, Pg.last X = f := ⟨_, rfl⟩
  rw [hf] at hgb hfb
  have HGB := Lib.hid hgb
  have HFB := Lib.hid hfb
  have HF := Lib.hid hf
  have hlo : Pg.cellsOk (Pg.cellsN f 1114112) := fun x hx => by
    obtain ⟨m1, m2, m3, m4⟩ := Pg.cellsN_mem f 1114112 x hx
    have := hfb x.1
    omega
  have hlast : ∀ c, 0 ≤ c → c ≤ 1114111 → Pg.last (Pg.cellsN f 1114112) c = f c := fun c h0 h1 => Pg.cellsN_last f 1114112 c h0 (by omega)
  have hmem := Pg.cellsN_mem f 1114112
  have hcl := Pg.cellsN_len f 1114112
  have hhas : ∀ c, Pg.get f c ≠ 0 → (c, Pg.get f c) ∈ Pg.cellsN f 1114112 := fun c hc => by
    unfold Pg.get at hc ⊢
    split at hc
    · rename_i hr
      rw [if_pos hr]
      exact Pg.cellsN_has f 1114112 hr.1 (by omega) hc
    · exact absurd rfl hc
  have hrise := Pg.cellsN_rise f 1114112
  have HCELLS : Hid (∀ v W, Pg.Of W v f → Calls Try.prog 12 #[v] W fun e w' => ∃ A c, e = .returned (.slice A (Pg.cellsN f 1114112).length c) ∧ w'.ownsRow W.heap.size 38 2 (.slice A (Pg.cellsN f 1114112).length c) (Pg.cellsN f 1114112).length (Pg.fl (Pg.cellsN f 1114112)) ∧ Below W.heap.size W w') := Lib.hid fun v W hW => Pg.cells_any v f W hW
  obtain ⟨LL, hLL⟩ : ∃ LL, Pg.cellsN f 1114112 = LL := ⟨_, rfl⟩
  rw [hLL] at HCELLS hmem hcl hhas hrise hlo hlast
  obtain ⟨ll, hll⟩ : ∃ ll, LL.length = ll := ⟨_, rfl⟩
  rw [hll] at HCELLS hcl
  have HMEM := Lib.hid hmem
  have HHAS := Lib.hid hhas
  have HRISE := Lib.hid hrise
  have HLO := Lib.hid hlo
  have HLAST := Lib.hid hlast
  have HLL := Lib.hid hll
  clear hn h64 h hok hX hm hgb hfb hf hlo hlast hmem hhas hrise hLL hll
  go_enter Try.func4, Try.ntmps4
  go_wp2_with fail
  refine (Pg.awake_any w).mono ?_
  rintro e w1 ⟨rfl, hb1⟩
  have HB1 := Lib.hid hb1
  clear hb1
  go_wp2_with fail
  refine (HFEW.out w1 HB1.out).mono ?_
  rintro e w2 ⟨A1, c1, A2, c2, rfl, hown1, hown2, hb2⟩
  rw [HM.out] at hown1 hown2 ⊢
  have hb12 := HB1.out.trans (hb2.mono HB1.out.size)
  have HB2 := Lib.hid hb12
  have HS1 := Lib.hid (Sl.of_own hown1)
  have HNEW := Lib.hid (Pg.new_any A2 m c2 X w2 HM.out HOK.out (Sl.of_own hown2) (by simp only [maxLen]; omega))
  clear hown1 hown2 hb2 hb12
  go_wp2_with fail
  refine HNEW.out.mono ?_
  rintro e w3 ⟨v, rfl, hof, hb3⟩
  rw [HF.out] at hof
  have hv := hof
  obtain ⟨gp, Ap, cp, rfl, _, _⟩ := hv
  have HOF := Lib.hid hof
  have HS3 := Lib.hid (HS1.out.below hb3 hb3.size)
  have HB3 := Lib.hid (HB2.out.trans (hb3.mono HB2.out.size))
  clear hof hb3
  go_wp2_with fail
  refine (HCELLS.out _ w3 HOF.out).mono ?_
  rintro e w4 ⟨A6, c6, rfl, hown6, hb4⟩
  have HS6 := Lib.hid (Sl.of_own hown6)
  have HS4 := Lib.hid (HS3.out.below hb4 hb4.size)
  have HOF4 : Hid (Pg.Of w4 (.pointer (some ⟨gp, 0, none⟩)) f) := Lib.hid (Pg.Is.below HOF.out hb4)
  have HB4 := Lib.hid (HB3.out.trans (hb4.mono HB3.out.size))
  have HGET : Hid (∀ d W, Below w4.heap.size w4 W → Calls Try.prog 11 #[.slice A1 m c1, .int .i64 d] W fun e w' => e = .returned (.int .i64 (Pg.get f d)) ∧ Below W.heap.size W w') := Lib.hid fun d W hW => by
    rw [← HF.out]
    exact Pg.rget_any A1 m c1 W.heap.size X d W HM.out (by omega) (Nat.le_refl _) (HS4.out.below hW hW.size)
  clear hown6 hb4
  go_wp2_with fail
  go_loopw [32] (fun i wr => ∃ k : Nat, k ≤ m ∧ i = .int .i64 k ∧ Below w4.heap.size w4 wr) (fun i _ => m - (intOf i).toNat)
  case atStart => exact ⟨0, Nat.zero_le _, rfl, Below.refl _ _⟩
  case round =>
    obtain ⟨k, hk, rfl, hbel⟩ := hrel
    have HBEL := Lib.hid hbel
    by_cases hlt : k < m
    · obtain ⟨y, hy⟩ : ∃ y, X[k]? = some y := ⟨_, List.getElem?_eq_getElem (by rw [HM.out]; exact hlt)⟩
      obtain ⟨b, o, rfl, hb, c0, c1'⟩ := (HS4.out.below hbel hbel.size).pair hy
      obtain ⟨y1, y2⟩ := y
      dsimp only at c0 c1'
      have hkI : (k : Int) < m := by omega
      have hk0 : (0 : Int) ≤ k := by omega
      have hbn : Below wr.heap.size wr (wr.alloc (.cells #[.int .i64 y1, .int .i64 y2] 31)) := (Below.refl _ _).alloc (Nat.le_refl _) _
      have hatn := Rw.At.new wr 31 [.int .i64 y1, .int .i64 y2]
      obtain ⟨wa, hwa⟩ : ∃ wa, wr.alloc (.cells #[.int .i64 y1, .int .i64 y2] 31) = wa := ⟨_, rfl⟩
      have hatn : Rw.At wa wr.heap.size 31 [.int .i64 y1, .int .i64 y2] := by rw [← hwa]; exact hatn
      rw [hwa] at hbn
      have HWA := Lib.hid hwa
      have HATN := Lib.hid hatn
      have HBELA := Lib.hid (hbel.trans (hbn.mono hbel.size))
      have HG := Lib.hid (HGET.out y1 wa (hbel.trans (hbn.mono hbel.size)))
      have q0 := hatn.cell 0 rfl
      have hql := hatn.lt
      have hhy := HHAS.out y1
      have hgy := HGB.out y1
      obtain ⟨v, hv⟩ : ∃ v, Pg.get f y1 = v := ⟨_, rfl⟩
      rw [hv] at HG hhy hgy
      have HHY := Lib.hid hhy
      clear hy hbn hatn hwa hbel hv hhy hb
      go_upto_region 12 with (fail)
      rw [HWA.out]
      clear c0 c1'
      go_wp2_with fail
      refine HG.out.mono ?_
      rintro e w5 ⟨rfl, hb5⟩
      have HAT5 := Lib.hid (HATN.out.below hb5)
      have HB5 := Lib.hid (HBELA.out.trans (hb5.mono HBELA.out.size))
      clear hb5 q0 hql
      rcases hd : (v != 0) with _ | _
      · go_wp2_with fail
        exact ⟨⟨k + 1, by omega, by go_num, HB5.out⟩, by simp [intOf]; omega⟩
      · have hin := HHY.out (by simpa using hd)
        have hfound : LL.any (fun z => z.1 == y1 && z.2 == v) = true := by
          rw [List.any_eq_true]
          exact ⟨(y1, v), hin, by simp⟩
        have HFOUND := Lib.hid hfound
        clear hin hfound
        go_wp2_with fail
        go_loopw [11, 44] (fun v11 i wq => ∃ q : Nat, q ≤ ll ∧ i = .int .i64 q ∧ v11 = .bool ((LL.take q).any fun z => z.1 == y1 && z.2 == v) ∧ Below w5.heap.size w5 wq) (fun _ i _ => ll - (intOf i).toNat)
        case atStart => exact ⟨0, Nat.zero_le _, rfl, rfl, Below.refl _ _⟩
        case round =>
          obtain ⟨q, hq, rfl, rfl, hbelq⟩ := hrel
          obtain ⟨wq, rfl⟩ : ∃ wq : World, wq = wr := ⟨_, rfl⟩
          have HBELQ := Lib.hid hbelq
          by_cases hltq : q < ll
          · obtain ⟨z, hz⟩ : ∃ z, LL[q]? = some z := ⟨_, List.getElem?_eq_getElem (by rw [HLL.out]; exact hltq)⟩
            have hbw := HB5.out.trans (hbelq.mono HB5.out.size)
            obtain ⟨b3, o3, rfl, hb3, d0, d1⟩ := (HS6.out.below hbw hbw.size).cellP hz
            have hany : (LL.take (q + 1)).any (fun z => z.1 == y1 && z.2 == v) = ((LL.take q).any (fun z => z.1 == y1 && z.2 == v) || (z.1 == y1 && z.2 == v)) := by rw [List.take_add_one, hz]; simp
            obtain ⟨m1, m2, m3, m4⟩ := HMEM.out z (List.mem_of_getElem? hz)
            have hfz := HFB.out z.1
            obtain ⟨z1, z2⟩ := z
            dsimp only at d0 d1 m1 m2 m3 m4 hany hfz
            have HANY := Lib.hid hany
            have e1 : IntKind.i64.wrap z1 = z1 := by rw [IntKind.wrap_i64]; omega
            have e2 : IntKind.i64.wrap z2 = z2 := by rw [IntKind.wrap_i64]; omega
            have hqI : (q : Int) < ll := by omega
            have hq0 : (0 : Int) ≤ q := by omega
            have hbn : Below wq.heap.size wq (wq.alloc (.cells #[.int .i32 z1, .int .u16 z2] 38)) := (Below.refl _ _).alloc (Nat.le_refl _) _
            have HBN := Lib.hid (hbelq.trans (hbn.mono hbelq.size))
            have hatz := Rw.At.new wq 38 [.int .i32 z1, .int .u16 z2]
            have hatx := (HAT5.out.below hbelq).alloc (.cells #[.int .i32 z1, .int .u16 z2] 38)
            obtain ⟨wz, hwz⟩ : ∃ wz, wq.alloc (.cells #[.int .i32 z1, .int .u16 z2] 38) = wz := ⟨_, rfl⟩
            have hatz : Rw.At wz wq.heap.size 38 [.int .i32 z1, .int .u16 z2] := by rw [← hwz]; exact hatz
            rw [hwz] at HBN hatx
            have HWZ := Lib.hid hwz
            have p0 := hatz.cell 0 rfl
            have p1 := hatz.cell 1 rfl
            have p2 := hatz.lt
            have r0 := hatx.cell 0 rfl
            have r1 := hatx.lt
            obtain ⟨tb, htb⟩ : ∃ tb, (LL.take q).any (fun z => z.1 == y1 && z.2 == v) = tb := ⟨_, rfl⟩
            rw [htb] at HANY ⊢
            clear hz hany m1 m2 m3 m4 hfz hbn hatz hatx hwz htb hbelq hbw hb3
            cases tb
            · rcases h1 : (z1 == y1) with _ | _
              · have hany2 : (LL.take (q + 1)).any (fun z => z.1 == y1 && z.2 == v) = false := by rw [HANY.out, h1]; rfl
                have HANY2 := Lib.hid hany2
                clear hany2
                go_upto_region 18 with (fail)
                rw [HWZ.out]
                go_wp2_with fail
                exact ⟨⟨q + 1, by omega, by go_num, by rw [HANY2.out], HBN.out⟩, by simp [intOf]; omega⟩
              · have hany2 : (LL.take (q + 1)).any (fun z => z.1 == y1 && z.2 == v) = (z2 == v) := by rw [HANY.out, h1]; rfl
                have HANY2 := Lib.hid hany2
                clear hany2
                go_upto_region 18 with (fail)
                rw [HWZ.out]
                go_wp2_with fail
                exact ⟨⟨q + 1, by omega, by go_num, by rw [HANY2.out], HBN.out⟩, by simp [intOf]; omega⟩
            · have hany2 : (LL.take (q + 1)).any (fun z => z.1 == y1 && z.2 == v) = true := by rw [HANY.out]; rfl
              have HANY2 := Lib.hid hany2
              clear hany2
              go_upto_region 18 with (fail)
              rw [HWZ.out]
              go_wp2_with fail
              exact ⟨⟨q + 1, by omega, by go_num, by rw [HANY2.out], HBN.out⟩, by simp [intOf]; omega⟩
          · obtain rfl : ll = q := by omega
            rw [List.take_of_length_le (Nat.le_of_eq HLL.out), HFOUND.out]
            clear hbelq
            go_wp2_with fail
            exact ⟨⟨k + 1, by omega, by go_num, HB5.out.trans (HBELQ.out.mono HB5.out.size)⟩, by simp [intOf]; omega⟩
    · obtain rfl : m = k := by omega
      obtain ⟨w5, rfl⟩ : ∃ w5 : World, w5 = wr := ⟨_, rfl⟩
      clear hbel hlt
      go_wp2_with fail
      go_loopw [7, 70] (fun v7 i wr => ∃ k : Nat, k ≤ ll ∧ i = .int .i64 k ∧ v7 = .int .i64 k ∧ Below w5.heap.size w5 wr) (fun _ i _ => ll - (intOf i).toNat)
      case atStart => exact ⟨0, Nat.zero_le _, rfl, rfl, Below.refl _ _⟩
      case round =>
        obtain ⟨k, hk, rfl, rfl, hbelk⟩ := hrel
        have HBELK := Lib.hid hbelk
        by_cases hltk : k < ll
        · obtain ⟨z, hz⟩ : ∃ z, LL[k]? = some z := ⟨_, List.getElem?_eq_getElem (by rw [HLL.out]; exact hltk)⟩
          have hbw := HBEL.out.trans (hbelk.mono HBEL.out.size)
          obtain ⟨b3, o3, rfl, hb3, d0, d1⟩ := (HS6.out.below hbw hbw.size).cellP hz
          obtain ⟨m1, m2, m3, m4⟩ := HMEM.out z (List.mem_of_getElem? hz)
          have hfz := HFB.out z.1
          have hgz : Pg.get f z.1 = z.2 := by unfold Pg.get; rw [if_pos (by omega)]; exact m3.symm
          have hprev : ∀ j u, k = j + 1 → LL[j]? = some u → u.1 < z.1 := fun j u hj hu => by
            have h1 := List.pairwise_iff_getElem.1 HRISE.out j k (List.getElem?_eq_some_iff.1 hu).1 (List.getElem?_eq_some_iff.1 hz).1 (by omega)
            rw [(List.getElem?_eq_some_iff.1 hu).2, (List.getElem?_eq_some_iff.1 hz).2] at h1
            exact h1
          obtain ⟨z1, z2⟩ := z
          dsimp only at d0 d1 m1 m2 m3 m4 hfz hgz hprev
          have e1 : IntKind.i64.wrap z1 = z1 := by rw [IntKind.wrap_i64]; omega
          have e2 : IntKind.i64.wrap z2 = z2 := by rw [IntKind.wrap_i64]; omega
          have hz0 : (z2 == 0) = false := by simpa using m4
          have hkI : (k : Int) < ll := by omega
          have hk0 : (0 : Int) ≤ k := by omega
          have hbn : Below wr.heap.size wr (wr.alloc (.cells #[.int .i32 z1, .int .u16 z2] 38)) := (Below.refl _ _).alloc (Nat.le_refl _) _
          have hatz := Rw.At.new wr 38 [.int .i32 z1, .int .u16 z2]
          obtain ⟨wz, hwz⟩ : ∃ wz, wr.alloc (.cells #[.int .i32 z1, .int .u16 z2] 38) = wz := ⟨_, rfl⟩
          have hatz : Rw.At wz wr.heap.size 38 [.int .i32 z1, .int .u16 z2] := by rw [← hwz]; exact hatz
          rw [hwz] at hbn
          have HWZ := Lib.hid hwz
          have hbz := hbelk.trans (hbn.mono hbelk.size)
          have HBZ := Lib.hid hbz
          have hG := Ext.call fun W hW => HGET.out z1 W (HBEL.out.trans ((hbz.trans (hW.mono hbz.size)).mono HBEL.out.size))
          rw [hgz] at hG
          have HG := Lib.hid hG
          have f0 := Ext.cells (hatz.cell 0 rfl) hatz.lt
          have f1 := Ext.cells (hatz.cell 1 rfl) hatz.lt
          rcases k with _ | j
          · clear hprev hz hbelk hbw m1 m2 m3 m4 hfz hgz hbn hatz hwz hbz hG hb3
            simp only [Nat.zero_mul, Nat.add_zero] at d0 d1
            go_upto_region 26 with (fail)
            rw [HWZ.out]
            clear d0 d1
            refine wp_region_ext (by kernel_rfl) (by kernel_rfl) ?_
            repeat (go_big_quiet_step ((go_at_call 11; with_reducible exact HG.out _)))
            refine wpQuiet_nil ?_
            intro xw
            have HBX := Lib.hid (HBZ.out.trans (xw.below.mono HBZ.out.size))
            go_wp2_with fail
            exact ⟨⟨1, by omega, by go_num, by go_num, HBX.out⟩, by simp [intOf]; omega⟩
          · obtain ⟨u, hu⟩ : ∃ u, LL[j]? = some u := ⟨_, List.getElem?_eq_getElem (by rw [HLL.out]; omega)⟩
            have hlt2 := hprev j u rfl hu
            obtain ⟨b4, o4, he4, hb4, g0, _⟩ := (HS6.out.below hbw hbw.size).cellP hu
            simp only [Option.some.injEq, Addr.mk.injEq] at he4
            obtain ⟨rfl, rfl, _⟩ := he4
            obtain ⟨u1, u2⟩ := u
            dsimp only at hlt2 g0
            have g0' := ((bcell hbn).1 b3 (o3 + j * 2) hb3).trans g0
            have f2 := Ext.cells g0' (Nat.lt_of_lt_of_le hb3 hbn.size)
            have hjI : (j : Int) < ll := by omega
            have hj0 : (0 : Int) ≤ j := by omega
            have hge : ¬ z1 ≤ u1 := by omega
            clear hprev hz hbelk hbw m1 m2 m3 m4 hfz hgz hbn hatz hwz hbz hG hb3 hu hb4
            go_upto_region 26 with (fail)
            rw [HWZ.out]
            clear d0 d1 g0 g0'
            refine wp_region_ext (by kernel_rfl) (by kernel_rfl) ?_
            repeat (go_big_quiet_step ((go_at_call 11; with_reducible exact HG.out _)))
            refine wpQuiet_nil ?_
            intro xw
            have HBX := Lib.hid (HBZ.out.trans (xw.below.mono HBZ.out.size))
            go_wp2_with fail
            exact ⟨⟨j + 1 + 1, by omega, by go_num, by go_num, HBX.out⟩, by simp [intOf]; omega⟩
        · obtain rfl : ll = k := by omega
          obtain ⟨w6, rfl⟩ : ∃ w6 : World, w6 = wr := ⟨_, rfl⟩
          have hbw := HBEL.out.trans (hbelk.mono HBEL.out.size)
          have hnew := Pg.new_any A6 ll c6 LL w6 HLL.out HLO.out (HS6.out.below hbw hbw.size) (by simp only [maxLen]; omega)
          have HNEW2 := Lib.hid hnew
          have HOF6 : Hid (Pg.Of w6 (.pointer (some ⟨gp, 0, none⟩)) f) := Lib.hid (Pg.Is.below HOF4.out hbw)
          have HBW := Lib.hid hbw
          clear hbelk hbw hnew hltk
          go_wp2_with fail
          refine HNEW2.out.mono ?_
          rintro e w7 ⟨v7, rfl, hof7, hb7⟩
          have hof7 := Pg.of_congr HLAST.out hof7
          have hv7 := hof7
          obtain ⟨gq, Aq, cq, rfl, _, _⟩ := hv7
          have HQ7 := Lib.hid hof7
          have HP7 : Hid (Pg.Of w7 (.pointer (some ⟨gp, 0, none⟩)) f) := Lib.hid (Pg.Is.below HOF6.out hb7)
          have HB7 := Lib.hid (HBW.out.trans (hb7.mono HBW.out.size))
          have HBP : Hid (∀ W, Below w7.heap.size w7 W → Calls Try.prog 13 #[.pointer (some ⟨gp, 0, none⟩)] W fun e w' => e = .returned (.int .i64 (Pg.bls f 4352).length) ∧ W = w') := Lib.hid fun W hW => Pg.blocks_any _ _ W (Pg.Is.below HP7.out hW)
          have HBQ := Lib.hid (Pg.blocks_any _ _ w7 HQ7.out)
          have HCQ := Lib.hid (HCELLS.out _ w7 HQ7.out)
          have HRB : Hid (∀ W, Below w4.heap.size w4 W → Calls Try.prog 14 #[.slice A1 m c1] W fun e w' => e = .returned (.int .i64 (Pg.bls f 4352).length) ∧ Below W.heap.size W w') := Lib.hid fun W hW => by
            rw [← HF.out]
            exact Pg.rblocks_any A1 m c1 X W HM.out (by omega) (HS4.out.below hW hW.size)
          obtain ⟨bn, hbn⟩ : ∃ bn, (Pg.bls f 4352).length = bn := ⟨_, rfl⟩
          rw [hbn] at HBP HBQ HRB
          clear hof7 hb7 hbn
          go_wp2_with fail
          refine HBQ.out.mono ?_
          rintro e w8 ⟨rfl, rfl⟩
          go_wp2_with fail
          refine (HBP.out w7 (Below.refl _ _)).mono ?_
          rintro e w8 ⟨rfl, rfl⟩
          go_wp2_with fail
          refine HCQ.out.mono ?_
          rintro e w8 ⟨A8, c8, rfl, _, hb8⟩
          have HB8 := Lib.hid hb8
          clear hb8
          go_wp2_with fail
          refine (HBP.out w8 HB8.out).mono ?_
          rintro e w9 ⟨rfl, rfl⟩
          go_wp2_with fail
          refine (HRB.out w8 (HB7.out.trans (HB8.out.mono HB7.out.size))).mono ?_
          rintro e w9 ⟨rfl, hb9⟩
          have HB9 := Lib.hid (HB4.out.trans (((HB7.out.trans (HB8.out.mono HB7.out.size)).trans (hb9.mono (HB7.out.trans (HB8.out.mono HB7.out.size)).size)).mono HB4.out.size))
          clear hb9
          go_wp2_with fail
          go_ret
          exact ⟨rfl, HB9.out⟩
theorem Pg.cellsL_any (w : World) (a : Option Addr) (len cap : Nat) (rs : List (Int × Int)) (h : IsPairs w a len cap rs) :
    Calls Try.prog 4 #[.slice a len cap] w fun e w' => e = .returned (.bool true) ∧ Below w.heap.size w w' := by
  obtain ⟨h1, h2, h3, h4, h5⟩ := h
  refine Pg.cells_row a len cap rs w h1 (by omega) (fun x hx => ?_) h4
  obtain ⟨g1, g2⟩ := h5 x hx
  simp only [Lit.wf, Bool.and_eq_true, decide_eq_true_eq] at g1 g2
  exact ⟨⟨Int.le_trans (by decide) g1.1, Int.le_trans g1.2 (by decide)⟩, Int.le_trans (by decide) g2.1, Int.le_trans g2.2 (by decide)⟩
end Go.Proofs.Ytamcpdggpdaioaa
