/- The laws' own table of a document's table, by walking its text. -/
import Derived.Test.YtkmfegamblmpeaaGreatDoorMdCheck
import Derived.Test.YtkmfegamblmpeaaGreatDoorCpChars
import Derived.Test.YtkmfegamblmpeaaGreatDoorStepCall2
namespace Go.Proofs.YtkmfegamblmpeaaGreatDoor
open Go.RowKit
set_option linter.unusedSimpArgs false
set_option linter.unusedVariables false

theorem infoRow : (Tryz.prog.info? 99).map (fun i => (i.zero, i.size, i.bytes)) = some (some (.agg #[.int .i32 0, .int .i64 0, .slice none 0 0]), 3, 40) := by kernel_rfl
set_option maxRecDepth 100000 in
set_option maxHeartbeats 4000000 in
theorem Md.own_any (v : Value) (T : List Rw.Row) (E : List Int) (w : World) (hTn : T.length ≤ 1000) (hEn : E.length ≤ 1000) (hbd : Md.bd T) (hml : ∀ r ∈ T, r.2.2.length ≤ 1000) (hEb : ∀ c ∈ E, -2147483648 ≤ c ∧ c ≤ 2147483647) (h : Md.Doc w v T E) :
    Calls Tryz.prog 23 #[v] w fun e w' => ∃ v', e = .returned v' ∧ Md.Is w' v' T (C.chars E) ∧ Below w.heap.size w w' := by
  obtain ⟨A, c, XA, xc, rfl, h2, hX⟩ := id h
  obtain ⟨n, hn⟩ : ∃ k, T.length = k := ⟨_, rfl⟩
  obtain ⟨xn, hxn⟩ : ∃ k, E.length = k := ⟨_, rfl⟩
  rw [hn] at hTn ⊢
  rw [hxn] at hEn ⊢
  obtain ⟨j0, hj0, hy0, hy1, hy2⟩ := info_parts infoRow
  obtain ⟨i0, hi0, hz0, hz1, hz2⟩ := info_parts infoRune
  obtain ⟨wa, hwa⟩ : ∃ wa, ((w.alloc (.cells #[.slice A n c, .slice XA xn xc] 25)).alloc (.cells #[.slice none 0 0, .slice none 0 0] 50)).alloc (.cells #[.slice none 0 0, .slice none 0 0] 50) = wa := ⟨_, rfl⟩
  have hbA : Below w.heap.size w wa := by rw [← hwa]; exact (((Below.refl _ _).alloc (Nat.le_refl _) _).alloc (by simp) _).alloc (by simp; omega) _
  have hat0 : Rw.At wa w.heap.size 25 [.slice A n c, .slice XA xn xc] := by
    rw [← hwa]; exact ((Rw.At.new w 25 [.slice A n c, .slice XA xn xc]).alloc _).alloc _
  have hat1 : Rw.At wa (w.heap.size + 1) 50 [.slice none 0 0, .slice none 0 0] := by
    have h := Rw.At.new (w.alloc (.cells #[.slice A n c, .slice XA xn xc] 25)) 50 [.slice none 0 0, .slice none 0 0]
    rw [World.size_alloc] at h
    rw [← hwa]
    exact h.alloc _
  have hat2 : Rw.At wa (w.heap.size + 2) 50 [.slice none 0 0, .slice none 0 0] := by
    have h := Rw.At.new ((w.alloc (.cells #[.slice A n c, .slice XA xn xc] 25)).alloc (.cells #[.slice none 0 0, .slice none 0 0] 50)) 50 [.slice none 0 0, .slice none 0 0]
    rw [World.size_alloc, World.size_alloc] at h
    rw [← hwa]
    exact h
  have hz : w.heap.size + 2 < wa.heap.size := hat2.lt
  have HWA := Lib.hid hwa
  have HBA := Lib.hid hbA
  have HN := Lib.hid hn
  have HXN := Lib.hid hxn
  have HBD := Lib.hid hbd
  have HML := Lib.hid hml
  have HEB := Lib.hid hEb
  have HSEE := Lib.hid h2
  have HX := Lib.hid hX
  have HAT0 := Lib.hid hat0
  have z0 := hat0.cell 0 rfl
  have z1 := hat0.cell 1 rfl
  clear hwa hbA hn hxn hbd hml hEb h h2 hX hat0
  unfold Md.tv
  go_enter Tryz.func23, Tryz.ntmps23
  go_upto_region 2 with (fail)
  rw [HWA.out]
  go_wp2_with fail
  go_loopw [12] (fun i wr => ∃ (j : Nat) (v : Value) (ads : List (Option Addr × Nat)), j ≤ n ∧ i = .int .i64 j ∧ Rw.At wr (w.heap.size + 1) 50 [.slice none 0 0, .slice none 0 0] ∧ Rw.At wr (w.heap.size + 2) 50 [v, .slice none 0 0] ∧
      ads.length = (T.take j).length ∧ wr.ownsRow (w.heap.size + 3) 99 3 v j (Rw.fl (T.take j) ads) ∧ Rw.Maps wr (T.take j) ads ∧ Below (w.heap.size + 1) wa wr) (fun i _ => n - (intOf i).toNat)
  case atStart => exact ⟨0, .slice none 0 0, [], Nat.zero_le _, rfl, hat1, hat2, rfl, World.ownsRow_nil _ _ _ _, fun i r a h => by simp at h, Below.refl _ _⟩
  case round =>
    obtain ⟨j, v, ads, hj, rfl, ha1, ha2, hads, hown, hmaps, hbel⟩ := hrel
    have hzr : w.heap.size + 3 ≤ wr.heap.size := Nat.le_trans hz hbel.size
    have ha0 := HAT0.out.below' hbel (Nat.lt_succ_self _)
    have HA1 := Lib.hid ha1
    have HA2 := Lib.hid ha2
    have HADS := Lib.hid hads
    have HOWN := Lib.hid hown
    have HMAPS := Lib.hid hmaps
    have HBEL := Lib.hid hbel
    have HA0 := Lib.hid ha0
    by_cases hlt : j < n
    · obtain ⟨r, hr⟩ : ∃ r, T[j]? = some r := ⟨_, List.getElem?_eq_getElem (by rw [HN.out]; exact hlt)⟩
      have hrm := List.mem_of_getElem? hr
      have hrb := HBD.out r hrm
      have hmlr := HML.out r hrm
      obtain ⟨b, o, a, hA1, hb, c0', c1', c2', hsl⟩ := HSEE.out.row hr
      have hbw : Below w.heap.size w wr := HBA.out.trans (hbel.mono (Nat.le_succ _))
      have c0 := ((bcell hbw).1 b (o + j * 3) hb).trans c0'
      have c1 := ((bcell hbw).1 b (o + j * 3 + 1) hb).trans c1'
      have c2 := ((bcell hbw).1 b (o + j * 3 + 2) hb).trans c2'
      have hbr : b < wr.heap.size := Nat.lt_of_lt_of_le hb hbw.size
      obtain ⟨ml, hmle⟩ : ∃ k, r.2.2.length = k := ⟨_, rfl⟩
      rw [hmle] at c2 hmlr
      have hbd0 : Below wr.heap.size wr (wr.alloc (.cells #[.int .i64 r.1, .int .i64 r.2.1, .slice a.1 ml a.2] 59)).drew := ((Below.refl _ _).alloc (Nat.le_refl _) _).drew
      have HBD0 := Lib.hid hbd0
      have hbwd := hbw.trans (hbd0.mono hbw.size)
      have HO := Lib.hid (Rw.own_any r.1 r.2.1 a.1 r.2.2 ml a.2 w.heap.size (wr.alloc (.cells #[.int .i64 r.1, .int .i64 r.2.1, .slice a.1 ml a.2] 59)).drew hrb.1.1 hrb.1.2 hmle (by omega) hrb.2 hbwd.size (hsl.below hbwd (Nat.le_refl _)))
      have HA2D := Lib.hid (ha2.below hbd0)
      have HA1D := Lib.hid (ha1.below hbd0)
      have HOWND := Lib.hid (own_below hown hbd0 (Nat.le_refl _))
      have HMAPSD := Lib.hid (hmaps.below hbd0)
      have hat3 : Rw.At (wr.alloc (.cells #[.int .i64 r.1, .int .i64 r.2.1, .slice a.1 ml a.2] 59)) wr.heap.size 59 [.int .i64 r.1, .int .i64 r.2.1, .slice a.1 ml a.2] := Rw.At.new wr 59 [.int .i64 r.1, .int .i64 r.2.1, .slice a.1 ml a.2]
      have ha2d : Rw.At (wr.alloc (.cells #[.int .i64 r.1, .int .i64 r.2.1, .slice a.1 ml a.2] 59)) (w.heap.size + 2) 50 [v, .slice none 0 0] := ha2.alloc _
      have p0 := ha2d.cell 0 rfl
      obtain ⟨x0, x1, x2, _, _, _⟩ := hat3.three
      have jI : (j : Int) < n := by omega
      have j0' : (0 : Int) ≤ j := by omega
      have HR := Lib.hid hr
      have HMLE := Lib.hid hmle
      have HNE1 := Lib.hid (Rw.own_ne hown (w.heap.size + 1) (by omega))
      have HNE2 := Lib.hid (Rw.own_ne hown (w.heap.size + 2) (by omega))
      have hzd : w.heap.size + 3 ≤ (wr.alloc (.cells #[.int .i64 r.1, .int .i64 r.2.1, .slice a.1 ml a.2] 59)).drew.heap.size := Nat.le_trans hzr hbd0.size
      subst hA1
      clear c0' c1' c2' hsl hbw hbd0 hbwd ha1 ha2 hads hown hmaps hbel ha0 hr hrm hrb hmle hat3 ha2d hat1 hat2
      go_wp2_with fail
      go_region_law
        (first
          | (refine step_call _ (by rfl) 58 _ _ (by rfl) (C.enter Tryz.func58 (by kernel_rfl) rfl) [.agg #[.int .i64 r.1, .int .i64 r.2.1, .slice a.1 ml a.2]] (by rfl) _ HO.out ?_; rintro e w5 ⟨A5, n5, c5, rfl, hl5, hs5, hb5⟩; refine ⟨_, rfl, ?_⟩; have hat5 := HA2D.out.below hb5; have q0 := hat5.cell 0 rfl; have q2 := hat5.lt; have h15 := HA1D.out.below hb5; have hown5 := own_below HOWND.out hb5 (Nat.le_refl _); have hm5 := HMAPSD.out.below hb5; have hsz5 := Nat.le_trans hzd hb5.size; have hnew5 := Lib.hid (Sl.lit (w := w5.alloc (.cells #[.int .i32 r.1, .int .i64 r.2.1, .slice A5 n5 c5] 99)) (A := some ⟨w5.heap.size, 0, none⟩) (xs := [.int .i32 r.1, .int .i64 r.2.1, .slice A5 n5 c5]) rfl 99 (0, 0) (heap_alloc_new w5 _)); have HAT5 := Lib.hid hat5; have H15 := Lib.hid h15; have HOWN5 := Lib.hid (hown5.alloc (.cells #[.int .i32 r.1, .int .i64 r.2.1, .slice A5 n5 c5] 99)); have HM5 := Lib.hid hm5; have HS5 := Lib.hid hs5; have HB5 := Lib.hid hb5; have HL5 := Lib.hid hl5; have hsz6 : w.heap.size + 3 ≤ (w5.alloc (.cells #[.int .i32 r.1, .int .i64 r.2.1, .slice A5 n5 c5] 99)).heap.size := (by simp; omega); clear hat5 h15 hown5 hm5 hs5 hb5 hl5)
          | (refine step_appendSl _ (by rfl) _ _ _ (by rfl) (w.heap.size + 3) 99 j0 _ 3 40 Tryz.underlying48 hj0 hy0 hy1 hy2 rfl (by omega) v j _ (by rfl) HOWN5.out _ (some ⟨w5.heap.size, 0, none⟩) 1 1 [.int .i32 r.1, .int .i64 r.2.1, .slice A5 n5 c5] (by rfl) (by rfl) hnew5.out (by simp [Value.oneCell']) (by simp only [maxLen]; omega) (by omega) hsz6 ?_; intro v1 w6 hown6 hb6 hgrow; have hat6 := (HAT5.out.alloc _).grown hgrow HNE2.out; have y0 := hat6.cell 0 rfl; have y0f := hat6.frozen 0; have y2f := hat6.lt; obtain ⟨A6, c6, rfl⟩ := own_form hown6)
          | fail)
      all_goals
        go_wp2_with fail
        have bz : Below w5.heap.size w5 (w5.alloc (.cells #[.int .i32 r.1, .int .i64 r.2.1, .slice A5 n5 c5] 99)) := (Below.refl _ _).alloc (Nat.le_refl _) _
        have e1 := ((HM5.out.below bz).grown hgrow (Rw.own_not HOWN5.out (by decide))).grown (Rw.grown_set (w.heap.size + 2) 0 (.slice A6 (j + 1) c6)) (by intro q hq; cases hq; exact hat6.not (by decide))
        have e2 := ((HS5.out.below bz).grown hgrow (Rw.own_not HOWN5.out (by decide))).grown (Rw.grown_set (w.heap.size + 2) 0 (.slice A6 (j + 1) c6)) (by intro q hq; cases hq; exact hat6.not (by decide))
        have e3 := Rw.own_grown hown6 (Nat.lt_succ_self (w.heap.size + 2)) (Rw.grown_set (w.heap.size + 2) 0 (.slice A6 (j + 1) c6))
        have htk : T.take (j + 1) = T.take j ++ [r] := by rw [List.take_add_one, HR.out]; rfl
        refine ⟨⟨j + 1, _, ads ++ [(A5, c5)], by omega, by go_num, (((H15.out.alloc _).grown hgrow HNE1.out).other (by omega) _), hat6.set 0 _, by rw [htk]; simp [HADS.out], ?_, ?_, ?_⟩, by simp [intOf]; omega⟩
        · rw [htk, Rw.fl_app _ _ r (A5, c5) HADS.out, show r.2.2.length = n5 by rw [HL5.out]]
          exact e3
        · rw [htk]
          exact e1.app HADS.out e2
        · have b1 := HBEL.out.trans (HBD0.out.mono (Nat.le_trans (by omega) hzr))
          have b2 := b1.trans (HB5.out.mono (Nat.le_trans (by omega) hzd))
          have b3 := b2.trans (bz.mono (Nat.le_trans (by omega) hsz5))
          exact (b3.trans (hb6.mono (by omega))).setCell (p := ⟨w.heap.size + 2, 0, none⟩) (by show w.heap.size + 1 ≤ w.heap.size + 2; omega) _
    · obtain rfl : n = j := by omega
      obtain ⟨wz, rfl⟩ : ∃ wz : World, wz = wr := ⟨_, rfl⟩
      have hbw : Below w.heap.size w wz := HBA.out.trans (hbel.mono (Nat.le_succ _))
      have q0 := ha0.cell 0 rfl
      have q1 := ha0.cell 1 rfl
      have q2 := ha0.lt
      have HBW := Lib.hid hbw
      have HXZ := Lib.hid (HX.out.below hbw (Nat.le_refl _))
      have HNN : Hid ((T.take n) = T) := Lib.hid (List.take_of_length_le (by rw [HN.out]; exact Nat.le_refl _))
      rw [HNN.out] at HADS HOWN HMAPS
      clear hads hown hmaps hbel ha0 hbw hlt ha1 ha2 hat1 hat2 HX HBEL z0 z1
      go_wp2_with fail
      go_loopw [6, 27] (fun v6 i wr => ∃ (k : Nat) (v6' : Value), k ≤ xn ∧ i = .int .i64 k ∧ v6 = v6' ∧ wr.ownsRow wz.heap.size 21 1 v6' k ((E.take k).map (Value.int .i32)) ∧ Below wz.heap.size wz wr) (fun _ i _ => xn - (intOf i).toNat)
      case atStart => exact ⟨0, _, Nat.zero_le _, rfl, rfl, World.ownsRow_nil _ _ _ _, Below.refl _ _⟩
      case round =>
        obtain ⟨k, v6', hk, rfl, rfl, hownk, hbelk⟩ := hrel
        have hzk := hbelk.size
        have HBELK := Lib.hid hbelk
        have HOWNK := Lib.hid hownk
        by_cases hlt : k < xn
        · obtain ⟨x, hx⟩ : ∃ x, E[k]? = some x := ⟨_, List.getElem?_eq_getElem (by rw [HXN.out]; exact hlt)⟩
          have hxb := HEB.out x (List.mem_of_getElem? hx)
          obtain ⟨ab, ao, hA2, hab, hac⟩ := HXZ.out (by rw [List.length_map, HXN.out]; omega)
          have hc := hac k (by rw [List.length_map, HXN.out]; exact hlt)
          have habz : ab < wz.heap.size := Nat.lt_of_lt_of_le hab HBW.out.size
          rw [List.getElem?_map, hx, Option.map_some, ← (bcell hbelk).1 _ _ habz] at hc
          have ex : IntKind.i32.wrap x = x := by rw [IntKind.wrap_i32]; omega
          have hnext : (E.take (k + 1)).map (Value.int .i32) = (E.take k).map (Value.int .i32) ++ [.int .i32 x] := by
            rw [List.take_add_one, hx]; simp
          have kI : (k : Int) < xn := by omega
          have k0 : (0 : Int) ≤ k := by omega
          have HNX := Lib.hid hnext
          subst hA2
          clear hx hac hnext hbelk hownk
          go_wp2_with (first | (at_builtin; refine wpList_push1 _ rfl _ _ _ rfl wz.heap.size 21 i0 _ 4 Tryz.underlying36 hi0 hz0 hz1 hz2 rfl _ k _ rfl HOWNK.out _ rfl rfl (by simp only [maxLen]; omega) (by omega) hzk ?_; intro v1 w4 hown4 hb4) | fail)
          exact ⟨⟨k + 1, v1, by omega, by go_num, rfl, by rw [HNX.out]; exact hown4, HBELK.out.trans hb4⟩, by simp [intOf]; omega⟩
        · obtain rfl : xn = k := by omega
          rw [List.take_of_length_le (by rw [HXN.out]; exact Nat.le_refl _)] at HOWNK
          obtain ⟨A6, c6, rfl⟩ := own_form HOWNK.out
          have hsl := Sl.of_own HOWNK.out
          have hC := C.chars_any A6 xn c6 wr.heap.size E wr HXN.out (by omega) (Nat.le_refl _) hsl
          clear hownk hbelk hlt
          go_wp2_with fail
          refine hC.mono ?_
          rintro e w5 ⟨A7, c7, rfl, hown7, hb7⟩
          have hbz5 := HBELK.out.trans (hb7.mono HBELK.out.size)
          have hat1 := HA1.out.below hbz5
          have hat2 := HA2.out.below hbz5
          have HOWNV := HOWN.out
          obtain ⟨A8, c8, rfl⟩ := own_form HOWNV
          have p0 := hat2.cell 0 rfl
          have p1 := hat2.cell 1 rfl
          have pf0 := hat2.frozen 0
          have pf1 := hat2.frozen 1
          have pl := hat2.lt
          have r0 := hat1.cell 0 rfl
          have r1 := hat1.cell 1 rfl
          have rf0 := hat1.frozen 0
          have rf1 := hat1.frozen 1
          have HO7 := Lib.hid hown7
          have HBZ5 := Lib.hid hbz5
          have HAT1 := Lib.hid hat1
          have HAT2 := Lib.hid hat2
          clear hown7 hb7 hbz5 hat1 hat2 hC hsl HOWNV
          go_wp2_with fail
          obtain ⟨S, hS⟩ : ∃ S, C.chars E = S := ⟨_, rfl⟩
          rw [hS] at HO7 ⊢
          have g2 := HAT2.out.set 1 (.slice A7 S.length c7)
          have g1 := HAT1.out.other (show w.heap.size + 1 ≠ w.heap.size + 2 by omega) (i := 1) (.slice A7 S.length c7)
          have k1 := g1.set 0 (.slice A8 n c8)
          have k2 := k1.set 1 (.slice A7 S.length c7)
          refine bodyPost_ret (Rw.results1 rfl _ _ (w.heap.size + 1) _ _ _ _ rfl k2 Tryz.underlying50 rfl (by kernel_rfl)) rfl ⟨_, rfl, ⟨A8, c8, A7, c7, ?_, ?_, ?_⟩, ?_⟩
          · rw [HN.out]; rfl
          · refine Rw.Tab.sees ⟨ads, HADS.out, ?_, ?_⟩
            · exact ((((Slt.of_own HOWN.out).below HBZ5.out).setAt HAT2.out (by decide) 1 _).setAt g1 (by decide) 0 _).setAt k1 (by decide) 1 _
            · exact (((HMAPS.out.below HBZ5.out).grown (Rw.grown_set (w.heap.size + 2) 1 _) (by intro q hq; cases hq; exact HAT2.out.not (by decide))).grown (Rw.grown_set (w.heap.size + 1) 0 _) (by intro q hq; cases hq; exact g1.not (by decide))).grown (Rw.grown_set (w.heap.size + 1) 1 _) (by intro q hq; cases hq; exact k1.not (by decide))
          · exact ((((Slt.of_own HO7.out).setAt HAT2.out (by decide) 1 _).setAt g1 (by decide) 0 _).setAt k1 (by decide) 1 _).sl
          · have b1 := HBW.out.trans (HBZ5.out.mono HBW.out.size)
            exact ((b1.setCell (p := ⟨w.heap.size + 2, 1, none⟩) (by show w.heap.size ≤ w.heap.size + 2; omega) _).setCell (p := ⟨w.heap.size + 1, 0, none⟩) (Nat.le_succ _) _).setCell (p := ⟨w.heap.size + 1, 1, none⟩) (Nat.le_succ _) _
end Go.Proofs.YtkmfegamblmpeaaGreatDoor
