/- The law PagesOrder, by walking its text. -/
import Derived.Test.YtamcpdggpdaioaaPgAwake
import Derived.Test.YtamcpdggpdaioaaPgCells
import Derived.Test.YtamcpdggpdaioaaPgPlain4
import Derived.Test.YtamcpdggpdaioaaPgFew
import Derived.Test.YtamcpdggpdaioaaPairs
import Derived.Test.YtamcpdggpdaioaaCpRight
import Derived.Test.YtamcpdggpdaioaaExt
namespace Go.Proofs.Ytamcpdggpdaioaa
open Go.RowKit
set_option linter.unusedSimpArgs false
set_option linter.unusedVariables false

theorem Pg.fl_set : ∀ (rs : List (Int × Int)) (i : Nat) (r : Int × Int), i < rs.length → ((Pg.fl rs).set (i * 2) (.int .i32 r.1)).set (i * 2 + 1) (.int .u16 r.2) = Pg.fl (rs.set i r)
  | [], i, r, h => by simp at h
  | q :: a, 0, r, h => rfl
  | q :: a, i + 1, r, h => by
    rw [show (i + 1) * 2 = i * 2 + 2 by omega, show i * 2 + 2 + 1 = i * 2 + 1 + 2 by omega]
    simp only [Pg.fl, List.set_cons_succ]
    rw [Pg.fl_set a i r (by simpa using h)]
theorem Sl.cellP {w : World} {B : Nat} {A : Option Addr} {rs : List (Int × Int)} (h : Sl w B A (Pg.fl rs)) {i : Nat} {r : Int × Int} (hr : rs[i]? = some r) :
    ∃ b o, A = some ⟨b, o, none⟩ ∧ b < B ∧ w.cell? ⟨b, o + i * 2, none⟩ = some (.int .i32 r.1) ∧ w.cell? ⟨b, o + i * 2 + 1, none⟩ = some (.int .u16 r.2) := by
  have hi : i < rs.length := (List.getElem?_eq_some_iff.1 hr).1
  obtain ⟨b, o, hA, hb, hc⟩ := h (by rw [Pg.fl_len]; omega)
  obtain ⟨h0, h1⟩ := Pg.fl_get rs i r hr
  exact ⟨b, o, hA, hb, by rw [hc _ (by rw [Pg.fl_len]; omega), h0], by rw [Nat.add_assoc, hc _ (by rw [Pg.fl_len]; omega), h1]⟩

set_option maxRecDepth 100000 in
set_option maxHeartbeats 4000000 in
theorem Pg.order_row (A : Option Addr) (n c : Nat) (L : List (Int × Int)) (w : World) (hn : L.length = n) (hnb : n ≤ maxLen) (h64 : Pg.in64 L) (h : Sl w w.heap.size A (C.fl .i64 L)) :
    Calls Try.prog 5 #[.slice A n c] w fun e w' => e = .returned (.bool true) ∧ Below w.heap.size w w' := by
  obtain ⟨j0, hj0, hy0, hy1, hy2⟩ := info_parts infoCell
  have HFEW : Hid (∀ W, Below w.heap.size w W → Calls Try.prog 8 #[.slice A n c] W (Pg.RetFew (Pg.fewL L) W)) := Lib.hid fun W hW => Pg.few_any A n c L W hn hnb h64 (h.below hW hW.size)
  have hok := Pg.fewL_ok L
  have hl30 := Pg.fewL_len L
  obtain ⟨X, hX⟩ : ∃ X, Pg.fewL L = X := ⟨_, rfl⟩
  rw [hX] at HFEW hok hl30
  obtain ⟨m, hm⟩ : ∃ m, X.length = m := ⟨_, rfl⟩
  rw [hm] at hl30
  have HM := Lib.hid hm
  have HOK := Lib.hid hok
  clear hn h64 h hok hX hm
  go_enter Try.func5, Try.ntmps5
  go_wp2_with fail
  refine (Pg.awake_any w).mono ?_
  rintro e w1 ⟨rfl, hb1⟩
  have HB1 := Lib.hid hb1
  clear hb1
  go_wp2_with fail
  refine (HFEW.out w1 HB1.out).mono ?_
  rintro e w2 ⟨A1, c1, A2, c2, rfl, hown1, hown2, hb2⟩
  rw [HM.out] at hown1 hown2 ⊢
  have hc1 : m ≤ c1 := by
    rcases hown1.2 with ⟨e, _⟩ | ⟨g1, cap1, cur1, e, _, _, hc, _⟩
    · simp only [Value.slice.injEq] at e; omega
    · simp only [Value.slice.injEq] at e; omega
  have hb12 := HB1.out.trans (hb2.mono HB1.out.size)
  have HB2 := Lib.hid hb12
  have HS1 := Lib.hid (Sl.of_own hown1)
  have HS2 := Lib.hid (Sl.of_own hown2)
  clear hown1 hown2 hb2 hb12
  go_wp2_with fail
  go_loopw [5, 27] (fun v5 i wr => ∃ k : Nat, k ≤ m ∧ i = .int .i64 k ∧ wr.ownsRow w2.heap.size 38 2 v5 (Pg.fs X k).length (Pg.fl (Pg.fs X k)) ∧ Below w2.heap.size w2 wr) (fun _ i _ => m - (intOf i).toNat)
  case atStart => exact ⟨0, Nat.zero_le _, rfl, World.ownsRow_nil _ _ _ _, Below.refl _ _⟩
  case round =>
    obtain ⟨k, hk, rfl, hown, hbel⟩ := hrel
    have HOWN := Lib.hid hown
    have HBEL := Lib.hid hbel
    by_cases hlt : k < m
    · obtain ⟨x, hx⟩ : ∃ x, X[k]? = some x := ⟨_, List.getElem?_eq_getElem (by rw [HM.out]; exact hlt)⟩
      obtain ⟨b1, o1, rfl, hb1, c0', c1'⟩ := (HS1.out.below hbel hbel.size).pair hx
      obtain ⟨b2, o2, rfl, hb2, d0', d1'⟩ := (HS2.out.below hbel hbel.size).cellP hx
      have hfs : Pg.fs X (k + 1) = Pg.fs X k ++ if (X.take k).any (fun y => y.1 == x.1) = true then [] else [x] := by rw [Pg.fs, hx]
      have HFS := Lib.hid hfs
      have hfl := Pg.fs_len X k
      obtain ⟨x1, x2⟩ := x
      dsimp only at c0' c1' d0' d1' HFS
      have hkI : (k : Int) < m := by omega
      have hk0 : (0 : Int) ≤ k := by omega
      have hbn : Below wr.heap.size wr (wr.alloc (.cells #[.int .i64 x1, .int .i64 x2] 31)) := (Below.refl _ _).alloc (Nat.le_refl _) _
      have hatn := Rw.At.new wr 31 [.int .i64 x1, .int .i64 x2]
      obtain ⟨wa, hwa⟩ : ∃ wa, wr.alloc (.cells #[.int .i64 x1, .int .i64 x2] 31) = wa := ⟨_, rfl⟩
      have hatn : Rw.At wa wr.heap.size 31 [.int .i64 x1, .int .i64 x2] := by rw [← hwa]; exact hatn
      rw [hwa] at hbn
      have HWA := Lib.hid hwa
      have HATN := Lib.hid hatn
      have HBN := Lib.hid hbn
      have HBELA := Lib.hid (hbel.trans (hbn.mono hbel.size))
      have hbw1 : b1 < wa.heap.size := Nat.lt_of_lt_of_le hb1 hbn.size
      clear hown hbel hfs hbn hatn hwa
      have HX := Lib.hid hx
      clear hx
      go_upto_region 8 with (fail)
      rw [HWA.out]
      clear c0' c1'
      have e0 : (0 : Int) ≤ (k : Int) ∧ (k : Int) ≤ (c1 : Int) := by omega
      go_wp2_with fail
      clear e0
      have HB1L := Lib.hid hb1
      have HB2L := Lib.hid hb2
      go_loopw [8, 36] (fun v8 i wq => ∃ q : Nat, q ≤ k ∧ i = .int .i64 q ∧ v8 = .bool ((X.take q).any fun y => y.1 == x1) ∧ Below wa.heap.size wa wq) (fun _ i _ => k - (intOf i).toNat)
      case atStart => exact ⟨0, Nat.zero_le _, rfl, rfl, Below.refl _ _⟩
      case round =>
        obtain ⟨q, hq, rfl, rfl, hbelq⟩ := hrel
        obtain ⟨wq, rfl⟩ : ∃ wq : World, wq = wr := ⟨_, rfl⟩
        have HBELQ := Lib.hid hbelq
        by_cases hltq : q < k
        · obtain ⟨z, hz⟩ : ∃ z, X[q]? = some z := ⟨_, List.getElem?_eq_getElem (by rw [HM.out]; omega)⟩
          have hbwq := HBELA.out.trans (hbelq.mono HBELA.out.size)
          obtain ⟨b3, o3, he3, hb3, c0', c1'⟩ := (HS1.out.below hbwq hbwq.size).pair hz
          simp only [Option.some.injEq, Addr.mk.injEq] at he3
          obtain ⟨rfl, rfl, _⟩ := he3
          have hany : (X.take (q + 1)).any (fun y => y.1 == x1) = ((X.take q).any (fun y => y.1 == x1) || (z.1 == x1)) := by rw [List.take_add_one, hz]; simp
          have HANY := Lib.hid hany
          obtain ⟨z1, z2⟩ := z
          dsimp only at c0' c1' HANY
          obtain ⟨tb, htb⟩ : ∃ tb, (X.take q).any (fun y => y.1 == x1) = tb := ⟨_, rfl⟩
          rw [htb] at HANY ⊢
          have hqI : (q : Int) < k := by omega
          have hq0 : (0 : Int) ≤ q := by omega
          have hbn : Below wq.heap.size wq (wq.alloc (.cells #[.int .i64 z1, .int .i64 z2] 31)) := (Below.refl _ _).alloc (Nat.le_refl _) _
          have HBN3 := Lib.hid (hbelq.trans (hbn.mono hbelq.size))
          have hatx := (HATN.out.below hbelq).alloc (.cells #[.int .i64 z1, .int .i64 z2] 31)
          have hatz := Rw.At.new wq 31 [.int .i64 z1, .int .i64 z2]
          have p0 := hatx.cell 0 rfl
          have p1 := hatx.lt
          have q0 := hatz.cell 0 rfl
          have q1 := hatz.lt
          have HP0 := Lib.hid p0
          clear hz hany htb hbn hatx hatz hbelq hbwq
          obtain ⟨wz, hwz⟩ : ∃ wz, wq.alloc (.cells #[.int .i64 z1, .int .i64 z2] 31) = wz := ⟨_, rfl⟩
          rw [hwz] at HBN3 p0 p1 q0 q1
          have HWZ := Lib.hid hwz
          clear hwz HP0
          cases tb
          · have hany2 : (X.take (q + 1)).any (fun y => y.1 == x1) = (z1 == x1) := by rw [HANY.out]; rfl
            have HANY2 := Lib.hid hany2
            clear hany2
            go_upto_region 12 with (fail)
            rw [HWZ.out]
            go_wp2_with fail
            exact ⟨⟨q + 1, by omega, by go_num, by rw [HANY2.out], HBN3.out⟩, by simp [intOf]; omega⟩
          · have hany2 : (X.take (q + 1)).any (fun y => y.1 == x1) = true := by rw [HANY.out]; rfl
            have HANY2 := Lib.hid hany2
            clear hany2
            go_upto_region 12 with (fail)
            rw [HWZ.out]
            go_wp2_with fail
            exact ⟨⟨q + 1, by omega, by go_num, by rw [HANY2.out], HBN3.out⟩, by simp [intOf]; omega⟩
        · obtain rfl : k = q := by omega
          have hbz := HBELA.out.trans (hbelq.mono HBELA.out.size)
          have HBZ := Lib.hid hbz
          have hdd := HBN.out.trans (hbelq.mono HBN.out.size)
          have HDD := Lib.hid hdd
          obtain ⟨tb, htb⟩ : ∃ tb, (X.take k).any (fun y => y.1 == x1) = tb := ⟨_, rfl⟩
          rw [htb] at HFS ⊢
          have HOWNQ := Lib.hid (own_below HOWN.out hdd (Nat.le_refl _))
          clear hbz hdd htb hbelq
          cases tb
          · have hfs : Pg.fs X (k + 1) = Pg.fs X k ++ [(x1, x2)] := by rw [HFS.out]; rfl
            have HFS2 := Lib.hid hfs
            obtain ⟨ln, hln⟩ : ∃ ln, (Pg.fs X k).length = ln := ⟨_, rfl⟩
            rw [hln] at HOWNQ hfl
            have HLN := Lib.hid hln
            have e0 := ((bcell HDD.out).1 b2 (o2 + k * 2) hb2).trans d0'
            have e1 := ((bcell HDD.out).1 b2 (o2 + k * 2 + 1) hb2).trans d1'
            have hb2q : b2 < wq.heap.size := Nat.lt_of_lt_of_le hb2 HDD.out.size
            have hnew := Lib.hid (Sl.lit (w := wq.alloc (.cells #[.int .i32 x1, .int .u16 x2] 38)) (A := some ⟨wq.heap.size, 0, none⟩) (xs := [.int .i32 x1, .int .u16 x2]) rfl 38 (0, 0) (heap_alloc_new wq _))
            have HOWNR := Lib.hid (HOWNQ.out.alloc (.cells #[.int .i32 x1, .int .u16 x2] 38))
            have hbzz := HBZ.out.alloc HBZ.out.size (.cells #[.int .i32 x1, .int .u16 x2] 38)
            have hszz := hbzz.size
            have HBZZ := Lib.hid hbzz
            clear hfs hln d0' d1' hbzz
            go_wp2_with (first | (at_builtin; refine wpList_appendSl _ rfl _ _ _ rfl w2.heap.size 38 j0 _ 2 8 Try.underlying24 hj0 hy0 hy1 hy2 rfl (by omega) u5 ln _ rfl HOWNR.out _ (some ⟨wq.heap.size, 0, none⟩) 1 1 [.int .i32 x1, .int .u16 x2] rfl rfl hnew.out (by simp [Value.oneCell']) (by simp only [maxLen]; omega) (by omega) hszz ?_; intro v8 w8 hown8 hb8 hgrow8) | fail)
            exact ⟨⟨k + 1, by omega, by go_num, by rw [HFS2.out, List.length_append, HLN.out, Pg.fl_app]; exact hown8, HBZZ.out.trans hb8⟩, by simp [intOf]; omega⟩
          · have hfs : Pg.fs X (k + 1) = Pg.fs X k := by rw [HFS.out]; simp
            have HFS2 := Lib.hid hfs
            clear hfs
            go_wp2_with fail
            exact ⟨⟨k + 1, by omega, by go_num, by rw [HFS2.out]; exact HOWNQ.out, HBZ.out⟩, by simp [intOf]; omega⟩
    · obtain rfl : m = k := by omega
      obtain ⟨w4, rfl⟩ : ∃ w4 : World, w4 = wr := ⟨_, rfl⟩
      have hso := Pg.fs_one X m
      have hsl := Pg.fs_len X m
      have hsok : Pg.cellsOk (Pg.fs X m) := fun x hx => HOK.out x (List.mem_of_mem_take (Pg.fs_sub X m x hx))
      obtain ⟨S, hS⟩ : ∃ S, Pg.fs X m = S := ⟨_, rfl⟩
      rw [hS] at hso hsl hsok hown
      obtain ⟨ln, hln⟩ : ∃ ln, S.length = ln := ⟨_, rfl⟩
      rw [hln] at hsl hown
      obtain ⟨A5, c5, rfl⟩ := own_form hown
      have HSO := Lib.hid hso
      have HSOK := Lib.hid hsok
      have HLN := Lib.hid hln
      have HOWN4 := Lib.hid hown
      have HB4 := Lib.hid (HB2.out.trans (hbel.mono HB2.out.size))
      have hz24 := hbel.size
      have HNEW := Lib.hid (Pg.new_lo A5 ln c5 S w4 hln hsok (Sl.of_own hown) (by simp only [maxLen]; omega))
      clear hso hsok hS hln hown hbel hlt HOWN HBEL HS1 HS2 HFEW
      go_wp2_with fail
      refine HNEW.out.mono ?_
      rintro e w5 ⟨v, rfl, hof, hb5⟩
      obtain ⟨f, hf⟩ : ∃ f, Pg.last S = f := ⟨_, rfl⟩
      rw [hf] at hof
      have hv := hof
      obtain ⟨gp, Ap, cp, rfl, _⟩ := hv
      have HOF := Lib.hid hof
      have HF := Lib.hid hf
      have HB5 := Lib.hid (HB4.out.trans (hb5.mono HB4.out.size))
      have HOWN5 := Lib.hid (own_below HOWN4.out hb5 (Nat.le_refl _))
      clear hof hb5 hf
      have elen : (ln : Int) - 1 = ((ln : Int) - 1) := rfl
      clear elen
      go_wp2_with fail
      go_loopw [12, 13] (fun i k wr => ∃ (t : Nat) (S' : List (Int × Int)), (t : Int) ≤ ln ∧ i = .int .i64 t ∧ k = .int .i64 ((ln : Int) - 1 - t) ∧ S'.Perm S ∧ Pg.OfL w4.heap.size wr (.pointer (some ⟨gp, 0, none⟩)) f ∧ wr.ownsRow w2.heap.size 38 2 (.slice A5 ln c5) ln (Pg.fl S') ∧ Below w.heap.size w wr) (fun i _ _ => ln - (intOf i).toNat)
      case atStart => exact ⟨0, S, by omega, rfl, by simp, List.Perm.refl _, HOF.out, HOWN5.out, HB5.out⟩
      case round =>
        obtain ⟨t, S', ht, rfl, rfl, hperm, hof, hown, hbel⟩ := hrel
        have HPERM := Lib.hid hperm
        have HOFR := Lib.hid hof
        have HOWN := Lib.hid hown
        have HBEL := Lib.hid hbel
        have hl' : S'.length = ln := hperm.length_eq.trans HLN.out
        have HL' := Lib.hid hl'
        by_cases hlt : (t : Int) < (ln : Int) - 1 - t
        · obtain ⟨j, hj⟩ : ∃ j : Nat, (ln : Int) - 1 - t = j := ⟨ln - 1 - t, by omega⟩
          have hjl : j < ln := by omega
          have htl : t < ln := by omega
          have htj : t < j := by omega
          obtain ⟨x, hx⟩ : ∃ x, S'[t]? = some x := ⟨_, List.getElem?_eq_getElem (by rw [hl']; omega)⟩
          obtain ⟨y, hy⟩ : ∃ y, S'[j]? = some y := ⟨_, List.getElem?_eq_getElem (by rw [hl']; omega)⟩
          have hpm := (Pg.swap_perm S' t j x y hx hy).trans hperm
          have HPM := Lib.hid hpm
          obtain ⟨b, o, rfl, hb, cx0, cx1⟩ := (Sl.of_own hown).cellP hx
          obtain ⟨b', o', he', _, cy0, cy1⟩ := (Sl.of_own hown).cellP hy
          simp only [Option.some.injEq, Addr.mk.injEq] at he'
          obtain ⟨rfl, rfl, _⟩ := he'
          obtain ⟨rfl, hlo, hbs, hfz⟩ := own_zero hown
          have ft0 := hfz (0 + t * 2)
          have ft1 := hfz (0 + t * 2 + 1)
          have fj0 := hfz (0 + j * 2)
          have fj1 := hfz (0 + j * 2 + 1)
          have hjI : (j : Int) < ln := by omega
          have hj0 : (0 : Int) ≤ j := by omega
          have htI : (t : Int) < ln := by omega
          have ht0 : (0 : Int) ≤ t := by omega
          have htjI : (t : Int) < j := by omega
          have HJ := Lib.hid hj
          rw [hj] at hlt ⊢
          clear hperm hof hown hbel hl' hj hx hy hpm hfz hlt
          obtain ⟨x1, x2⟩ := x
          obtain ⟨y1, y2⟩ := y
          dsimp only at cx0 cx1 cy0 cy1
          simp only [Nat.zero_add] at cx0 cx1 cy0 cy1 ft0 ft1 fj0 fj1
          go_upto_region 21 with (fail)
          go_region
          go_wp2_with fail
          have hbr : b < w4.heap.size := (HOWN4.out.lt b rfl).2
          have hbw : w.heap.size ≤ b := Nat.le_trans HB2.out.size hlo
          have hl' := HL'.out
          have g1 : wr.grownBy ((((wr.setCell ⟨b, t * 2, none⟩ (.int .i32 y1)).setCell ⟨b, t * 2 + 1, none⟩ (.int .u16 y2)).setCell ⟨b, j * 2, none⟩ (.int .i32 x1)).setCell ⟨b, j * 2 + 1, none⟩ (.int .u16 x2)) (some b) :=
            Rw.grown_trans (Rw.grown_trans (Rw.grown_trans (Rw.grown_set b (t * 2) _) (Rw.grown_set b (t * 2 + 1) _)) (Rw.grown_set b (j * 2) _)) (Rw.grown_set b (j * 2 + 1) _)
          have o1 := own_set HOWN.out (j := t * 2) (by rw [Pg.fl_len]; omega) (.int .i32 y1)
          have o2 := own_set o1 (j := t * 2 + 1) (by rw [List.length_set, Pg.fl_len]; omega) (.int .u16 y2)
          rw [Pg.fl_set S' t (y1, y2) (by omega)] at o2
          have o3 := own_set o2 (j := j * 2) (by rw [Pg.fl_len, List.length_set]; omega) (.int .i32 x1)
          have o4 := own_set o3 (j := j * 2 + 1) (by rw [List.length_set, Pg.fl_len, List.length_set]; omega) (.int .u16 x2)
          rw [Pg.fl_set (S'.set t (y1, y2)) j (x1, x2) (by rw [List.length_set]; omega)] at o4
          have g2 := Pg.IsL.grown HOFR.out g1 hbr
          refine ⟨⟨t + 1, _, by omega, by go_num, congrArg (Value.int .i64) (by have := HJ.out; omega), HPM.out, g2, o4, ?_⟩, by simp [intOf]; omega⟩
          exact ((((HBEL.out.setCell (p := ⟨b, t * 2, none⟩) hbw _).setCell (p := ⟨b, t * 2 + 1, none⟩) hbw _).setCell (p := ⟨b, j * 2, none⟩) hbw _).setCell (p := ⟨b, j * 2 + 1, none⟩) hbw _).drew
        · obtain ⟨w6, rfl⟩ : ∃ w6 : World, w6 = wr := ⟨_, rfl⟩
          have hnew2 := Pg.new_any A5 ln c5 S' w6 hl' (fun x hx => HSOK.out x (hperm.mem_iff.1 hx)) (Sl.of_own hown) (by simp only [maxLen]; omega)
          rw [Pg.last_perm HSO.out hperm, HF.out] at hnew2
          have HNEW2 := Lib.hid hnew2
          have HP6 := Lib.hid hof.is
          clear hnew2 hperm hof hown hbel hl'
          go_wp2_with fail
          refine HNEW2.out.mono ?_
          rintro e w7 ⟨v7, rfl, hof7, hb7⟩
          have hv7 := hof7
          obtain ⟨gq, Aq, cq, rfl, _⟩ := hv7
          have HQ7 : Hid (Pg.Of w7 (.pointer (some ⟨gq, 0, none⟩)) f) := Lib.hid hof7
          have HP7 : Hid (Pg.Of w7 (.pointer (some ⟨gp, 0, none⟩)) f) := Lib.hid (HP6.out.below hb7)
          have HB7 := Lib.hid (HBEL.out.trans (hb7.mono HBEL.out.size))
          have HBP := Lib.hid (Pg.blocks_any _ _ w7 HP7.out)
          have HBQ := Lib.hid (Pg.blocks_any _ _ w7 HQ7.out)
          obtain ⟨bn, hbn⟩ : ∃ bn, (Pg.bls f 4352).length = bn := ⟨_, rfl⟩
          rw [hbn] at HBP HBQ
          have HCP := Lib.hid (Pg.cells_any _ f w7 HP7.out)
          have HCQ : Hid (∀ W, Below w7.heap.size w7 W → Calls Try.prog 12 #[.pointer (some ⟨gq, 0, none⟩)] W fun e w' => ∃ A c, e = .returned (.slice A (Pg.cellsN f 1114112).length c) ∧ w'.ownsRow W.heap.size 38 2 (.slice A (Pg.cellsN f 1114112).length c) (Pg.cellsN f 1114112).length (Pg.fl (Pg.cellsN f 1114112)) ∧ Below W.heap.size W w') := Lib.hid fun W hW => Pg.cells_any _ f W (Pg.Is.below HQ7.out hW)
          have hmem := Pg.cellsN_mem f 1114112
          have hcl := Pg.cellsN_len f 1114112
          obtain ⟨LL, hLL⟩ : ∃ LL, Pg.cellsN f 1114112 = LL := ⟨_, rfl⟩
          rw [hLL] at HCP HCQ hmem hcl
          obtain ⟨ll, hll⟩ : ∃ ll, LL.length = ll := ⟨_, rfl⟩
          rw [hll] at HCP HCQ hcl
          have HMEM := Lib.hid hmem
          have HLL := Lib.hid hll
          clear hof7 hb7 hbn hmem hLL hll
          go_wp2_with fail
          refine HBP.out.mono ?_
          rintro e w8 ⟨rfl, rfl⟩
          go_wp2_with fail
          refine HBQ.out.mono ?_
          rintro e w8 ⟨rfl, rfl⟩
          go_wp2_with fail
          refine HCP.out.mono ?_
          rintro e w8 ⟨Aa, ca, rfl, howna, hb8⟩
          have HA8 := Lib.hid (Sl.of_own howna)
          have HB8 := Lib.hid hb8
          clear howna hb8
          go_wp2_with fail
          refine (HCQ.out w8 HB8.out).mono ?_
          rintro e w9 ⟨Ab, cb, rfl, hownb, hb9⟩
          have HA9 := Lib.hid (HA8.out.below hb9 hb9.size)
          have HB9' := Lib.hid (Sl.of_own hownb)
          have HB9 := Lib.hid (HB8.out.trans (hb9.mono HB8.out.size))
          have HP9 := Lib.hid (Pg.Is.below HP7.out HB9.out)
          clear hownb hb9
          go_wp2_with fail
          go_loopw [111] (fun i wr => ∃ k : Nat, k ≤ ll ∧ i = .int .i64 k ∧ Below w9.heap.size w9 wr) (fun i _ => ll - (intOf i).toNat)
          case atStart => exact ⟨0, Nat.zero_le _, rfl, Below.refl _ _⟩
          case round =>
            obtain ⟨k, hk, rfl, hbel⟩ := hrel
            have HBELK := Lib.hid hbel
            by_cases hltk : k < ll
            · obtain ⟨x, hx⟩ : ∃ x, LL[k]? = some x := ⟨_, List.getElem?_eq_getElem (by rw [HLL.out]; exact hltk)⟩
              obtain ⟨ba, oa, rfl, hba, ca0, ca1⟩ := (HA9.out.below hbel hbel.size).cellP hx
              obtain ⟨bb, ob, rfl, hbb, cb0, cb1⟩ := (HB9'.out.below hbel hbel.size).cellP hx
              obtain ⟨m1, m2, m3, m4⟩ := HMEM.out x (List.mem_of_getElem? hx)
              obtain ⟨x1, x2⟩ := x
              dsimp only at ca0 ca1 cb0 cb1 m1 m2 m3 m4
              have hget : Pg.get f x1 = x2 := by unfold Pg.get; rw [if_pos (by omega)]; exact m3.symm
              have hG := Ext.call fun W hW => Pg.get_any (.pointer (some ⟨gp, 0, none⟩)) f x1 W (Pg.Is.below HP9.out (hbel.trans (hW.mono hbel.size)))
              rw [hget] at hG
              have HG := Lib.hid hG
              have f0 := Ext.cells ca0 hba
              have f1 := Ext.cells ca1 hba
              have f2 := Ext.cells cb0 hbb
              have f3 := Ext.cells cb1 hbb
              have hkI : (k : Int) < ll := by omega
              have hk0 : (0 : Int) ≤ k := by omega
              clear hx m1 m2 m3 m4 hget hG hbel
              go_wp2_with fail
              refine wp_region_ext (by kernel_rfl) (by kernel_rfl) ?_
              repeat (go_big_quiet_step ((go_at_call 10; with_reducible exact HG.out _)))
              refine wpQuiet_nil ?_
              intro xw
              have HBZ := Lib.hid (HBELK.out.trans (xw.below.mono HBELK.out.size))
              go_wp2_with fail
              exact ⟨⟨k + 1, by omega, by go_num, HBZ.out⟩, by simp [intOf]; omega⟩
            · obtain rfl : ll = k := by omega
              clear hbel
              go_wp2_with fail
              go_ret
              exact ⟨rfl, HB7.out.trans ((HB9.out.trans (HBELK.out.mono HB9.out.size)).mono HB7.out.size)⟩
theorem Pg.order_any (w : World) (a : Option Addr) (len cap : Nat) (rs : List (Int × Int)) (h : IsPairs w a len cap rs) :
    Calls Try.prog 5 #[.slice a len cap] w fun e w' => e = .returned (.bool true) ∧ Below w.heap.size w w' := by
  obtain ⟨h1, h2, h3, h4, h5⟩ := h
  refine Pg.order_row a len cap rs w h1 (by omega) (fun x hx => ?_) h4
  obtain ⟨g1, g2⟩ := h5 x hx
  simp only [Lit.wf, Bool.and_eq_true, decide_eq_true_eq] at g1 g2
  exact ⟨⟨Int.le_trans (by decide) g1.1, Int.le_trans g1.2 (by decide)⟩, Int.le_trans (by decide) g2.1, Int.le_trans g2.2 (by decide)⟩
end Go.Proofs.Ytamcpdggpdaioaa
