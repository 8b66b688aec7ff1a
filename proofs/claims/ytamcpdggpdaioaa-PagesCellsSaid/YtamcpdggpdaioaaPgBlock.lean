/- Pages: the document's Block and alike, by walking their texts. -/
import Derived.Test.YtamcpdggpdaioaaPgFew
import Derived.Test.YtamcpdggpdaioaaPgPlain5
import Derived.Test.YtamcpdggpdaioaaSlt
import Derived.BigRegion
namespace Go.Proofs.Ytamcpdggpdaioaa
open Go.RowKit
set_option linter.unusedSimpArgs false
set_option linter.unusedVariables false

set_option maxRecDepth 100000 in
set_option maxHeartbeats 4000000 in
theorem Pg.rblock_any (A : Option Addr) (n c : Nat) (L : List (Int × Int)) (N : Nat) (w : World) (hn : L.length = n) (hnb : n ≤ 1000000) (h : Sl w w.heap.size A (C.fl .i64 L)) (hN : N < 4352) :
    Calls Try.prog 31 #[.slice A n c, .int .i64 N] w fun e w' => ∃ A1 c1, e = .returned (.slice A1 (Pg.nz (Pg.blk (Pg.last L) N)).length c1) ∧ w'.ownsRow w.heap.size 31 2 (.slice A1 (Pg.nz (Pg.blk (Pg.last L) N)).length c1) (Pg.nz (Pg.blk (Pg.last L) N)).length (C.fl .i64 (Pg.nz (Pg.blk (Pg.last L) N))) ∧ Below w.heap.size w w' := by
  obtain ⟨i0, hi0, hz0, hz1, hz2⟩ := info_parts Pg.infoRef
  rw [Pg.nz_blk]
  obtain ⟨g, hg⟩ : ∃ g : Int → Int, (fun i => Pg.last L (256 * (N : Int) + i)) = g := ⟨_, rfl⟩
  rw [hg]
  have HG : Hid (∀ i, Pg.last L (256 * (N : Int) + i) = g i) := Lib.hid fun i => by rw [← hg]
  obtain ⟨res, hres⟩ : ∃ r, Pg.cellsN g 256 = r := ⟨_, rfl⟩
  rw [hres]
  have HRES := Lib.hid hres
  have HS := Lib.hid h
  have HN := Lib.hid hn
  have hown0 : (w.alloc (.cells #[] 31)).ownsRow w.heap.size 31 2 (.slice (some ⟨w.heap.size, 0, none⟩) 0 0) 0 [] := ⟨rfl, .inr ⟨_, 0, #[], rfl, Nat.le_refl _, heap_alloc_new w _, Nat.le_refl _, by decide, rfl, rfl⟩⟩
  have hb0 : Below w.heap.size w (w.alloc (.cells #[] 31)) := (Below.refl _ _).alloc (Nat.le_refl _) _
  have HOWN0 := Lib.hid hown0
  have HB0 := Lib.hid hb0
  have eN : IntKind.i64.wrap (256 * (N : Int)) = 256 * (N : Int) := by rw [IntKind.wrap_i64]; omega
  clear hg hres h hn hown0 hb0
  go_enter Try.func31, Try.ntmps31
  go_wp2_with fail
  go_loopw [5, 6] (fun v5 i wr => ∃ k : Nat, k ≤ 256 ∧ i = .int .i64 k ∧ wr.ownsRow w.heap.size 31 2 v5 (Pg.cellsN g k).length (C.fl .i64 (Pg.cellsN g k)) ∧ Below w.heap.size w wr) (fun _ i _ => 256 - (intOf i).toNat)
  case atStart => exact ⟨0, Nat.zero_le _, rfl, HOWN0.out, HB0.out⟩
  case round =>
    obtain ⟨k, hk, rfl, hown, hbel⟩ := hrel
    have HOWN := Lib.hid hown
    have HBEL := Lib.hid hbel
    clear hown
    by_cases hlt : k < 256
    · obtain ⟨wa, rfl⟩ : ∃ wa : World, wa = wr := ⟨_, rfl⟩
      have hkI : (k : Int) < 256 := by omega
      have hk0 : (0 : Int) ≤ k := by omega
      have eK : IntKind.i64.wrap (256 * (N : Int) + (k : Int)) = 256 * (N : Int) + (k : Int) := by rw [IntKind.wrap_i64]; omega
      obtain ⟨cc, hcc⟩ : ∃ cc, 256 * (N : Int) + (k : Int) = cc := ⟨_, rfl⟩
      rw [hcc] at eK
      have HCC := Lib.hid hcc
      have hg2 := HG.out k
      rw [hcc] at hg2
      have HG2 := Lib.hid hg2
      clear hbel hg2
      go_wp2_with fail
      go_loopw [7, 17] (fun v i wr => ∃ q : Nat, q ≤ n ∧ i = .int .i64 q ∧ v = .int .i64 (Pg.last (L.take q) cc) ∧ Below wa.heap.size wa wr) (fun _ i _ => n - (intOf i).toNat)
      case atStart => exact ⟨0, Nat.zero_le _, rfl, rfl, Below.refl _ _⟩
      case round =>
        obtain ⟨q, hq, rfl, rfl, hbelq⟩ := hrel
        by_cases hltq : q < n
        · obtain ⟨x, hx⟩ : ∃ x, L[q]? = some x := ⟨_, List.getElem?_eq_getElem (by rw [HN.out]; exact hltq)⟩
          have hbw := HBEL.out.trans (hbelq.mono HBEL.out.size)
          obtain ⟨b, o, rfl, hb, c0, c1⟩ := (HS.out.below hbw hbw.size).pair hx
          have htk : Pg.last (L.take (q + 1)) cc = if x.1 = cc then x.2 else Pg.last (L.take q) cc := by rw [List.take_add_one, hx]; exact Pg.last_snoc _ _ _
          have HTK := Lib.hid htk
          have hqI : (q : Int) < n := by omega
          have hq0 : (0 : Int) ≤ q := by omega
          have HBN := Lib.hid (hbelq.trans (((Below.refl wr.heap.size wr).alloc (Nat.le_refl _) (.cells #[.int .i64 x.1, .int .i64 x.2] 31)).mono hbelq.size))
          obtain ⟨x1, x2⟩ := x
          obtain ⟨y, hy⟩ : ∃ y, Pg.last (L.take q) cc = y := ⟨_, rfl⟩
          rw [hy] at HTK ⊢
          clear hx htk hbelq hbw hy
          dsimp only at *
          rcases he : (x1 == cc) with _ | _
          · have hne : ¬ x1 = cc := by simpa using he
            have htk := HTK.out
            rw [if_neg hne] at htk
            have HT := Lib.hid htk
            clear hne htk
            rw [← HCC.out] at he eK
            go_wp2_with fail
            exact ⟨⟨q + 1, by omega, by go_num, by rw [HT.out], HBN.out⟩, by simp [intOf]; omega⟩
          · have hne : x1 = cc := by simpa using he
            have htk := HTK.out
            rw [if_pos hne] at htk
            have HT := Lib.hid htk
            clear hne htk
            rw [← HCC.out] at he eK
            go_wp2_with fail
            exact ⟨⟨q + 1, by omega, by go_num, by rw [HT.out], HBN.out⟩, by simp [intOf]; omega⟩
        · obtain rfl : n = q := by omega
          obtain ⟨wq, rfl⟩ : ∃ wq : World, wq = wr := ⟨_, rfl⟩
          rw [List.take_of_length_le (by rw [HN.out]; exact Nat.le_refl _), HG2.out]
          have hsn := Pg.cellsN_succ g k
          have hln := Pg.cellsN_len g k
          obtain ⟨x, hx⟩ : ∃ x, g k = x := ⟨_, rfl⟩
          rw [hx] at hsn ⊢
          have HSN := Lib.hid hsn
          have HOWNQ := Lib.hid (own_below HOWN.out hbelq (Nat.le_refl _))
          have HBQ := Lib.hid (HBEL.out.trans (hbelq.mono HBEL.out.size))
          clear hsn hx hbelq eK
          rcases hd : (x != 0) with _ | _
          · have hx0 : x = 0 := by simpa using hd
            have hs2 := HSN.out
            rw [if_pos hx0, List.append_nil] at hs2
            have HS2 := Lib.hid hs2
            clear hx0 hs2
            go_wp2_with fail
            exact ⟨⟨k + 1, by omega, by go_num, by rw [HS2.out]; exact HOWNQ.out, HBQ.out⟩, by simp [intOf]; omega⟩
          · have hx0 : ¬ x = 0 := by simpa using hd
            have hs2 := HSN.out
            rw [if_neg hx0] at hs2
            have HS2 := Lib.hid hs2
            obtain ⟨ln, hlne⟩ : ∃ ln, (Pg.cellsN g k).length = ln := ⟨_, rfl⟩
            rw [hlne] at HOWNQ hln
            have HLN := Lib.hid hlne
            have hnew := Lib.hid (Sl.lit (w := wq.alloc (.cells #[.int .i64 k, .int .i64 x] 31)) (A := some ⟨wq.heap.size, 0, none⟩) (xs := [.int .i64 k, .int .i64 x]) rfl 31 (0, 0) (heap_alloc_new wq _))
            have HOWNA := Lib.hid (HOWNQ.out.alloc (.cells #[.int .i64 k, .int .i64 x] 31))
            have hbz := HBQ.out.alloc HBQ.out.size (.cells #[.int .i64 k, .int .i64 x] 31)
            have hsz := hbz.size
            have HBZ := Lib.hid hbz
            clear hx0 hs2 hlne hbz
            go_wp2_with (first | (at_builtin; refine wpList_appendSl _ rfl _ _ _ rfl w.heap.size 31 i0 _ 2 16 Try.underlying22 hi0 hz0 hz1 hz2 rfl (by omega) u5 ln _ rfl HOWNA.out _ (some ⟨wq.heap.size, 0, none⟩) 1 1 [.int .i64 k, .int .i64 x] rfl rfl hnew.out (by simp [Value.oneCell']) (by simp only [maxLen]; omega) (by omega) hsz ?_; intro v8 w8 hown8 hb8 hgrow8) | fail)
            exact ⟨⟨k + 1, by omega, by go_num, by rw [HS2.out, List.length_append, HLN.out, C.fl_app]; exact hown8, HBZ.out.trans hb8⟩, by simp [intOf]; omega⟩
    · obtain rfl : k = 256 := by omega
      have hown := HOWN.out
      rw [HRES.out] at hown
      obtain ⟨A1, c1, rfl⟩ := own_form hown
      have HOWN2 := Lib.hid hown
      clear hown hbel hlt
      go_wp2_with fail
      go_ret
      exact ⟨A1, c1, rfl, HOWN2.out, HBEL.out⟩

set_option maxRecDepth 100000 in
set_option maxHeartbeats 4000000 in
theorem Pg.alike_any (A B : Option Addr) (na ca nb cb : Nat) (LA LB : List (Int × Int)) (w : World) (hna : LA.length = na) (hnb : LB.length = nb) (hal : na ≤ 1000000) (hbl : nb ≤ 1000000) (hA : Sl w w.heap.size A (C.fl .i64 LA)) (hB : Sl w w.heap.size B (C.fl .i64 LB)) :
    Calls Try.prog 32 #[.slice A na ca, .slice B nb cb] w fun e w' => e = .returned (.bool (decide (LA = LB))) ∧ Below w.heap.size w w' := by
  have HA := Lib.hid hA
  have HB := Lib.hid hB
  have HNA := Lib.hid hna
  have HNB := Lib.hid hnb
  obtain ⟨r, hr⟩ : ∃ r, decide (LA = LB) = r := ⟨_, rfl⟩
  rw [hr]
  have HR := Lib.hid hr
  clear hA hB hna hnb hr
  go_enter Try.func32, Try.ntmps32
  rcases hd : ((na : Int) != (nb : Int)) with _ | _
  · have hnn : na = nb := by have : (na : Int) = nb := by simpa using hd
                             omega
    subst hnn
    go_wp2_with fail
    go_loopw [5] (fun i wr => ∃ k : Nat, k ≤ na ∧ i = .int .i64 k ∧ LA.take k = LB.take k ∧ Below w.heap.size w wr) (fun i _ => na - (intOf i).toNat)
    case atStart => exact ⟨0, Nat.zero_le _, rfl, rfl, Below.refl _ _⟩
    case round =>
      obtain ⟨k, hk, rfl, htake, hbel⟩ := hrel
      have HTAKE := Lib.hid htake
      have HBEL := Lib.hid hbel
      by_cases hlt : k < na
      · obtain ⟨x, hx⟩ : ∃ x, LA[k]? = some x := ⟨_, List.getElem?_eq_getElem (by rw [HNA.out]; exact hlt)⟩
        obtain ⟨y, hy⟩ : ∃ y, LB[k]? = some y := ⟨_, List.getElem?_eq_getElem (by rw [HNB.out]; exact hlt)⟩
        obtain ⟨ba, oa, rfl, hba, ca0, ca1⟩ := (HA.out.below hbel hbel.size).pair hx
        obtain ⟨bb, ob, rfl, hbb, cb0, cb1⟩ := (HB.out.below hbel hbel.size).pair hy
        have hkI : (k : Int) < na := by omega
        have hk0 : (0 : Int) ≤ k := by omega
        have HX := Lib.hid hx
        have HY := Lib.hid hy
        obtain ⟨x1, x2⟩ := x
        obtain ⟨y1, y2⟩ := y
        dsimp only at ca0 ca1 cb0 cb1
        clear htake hbel hx hy hd
        by_cases hxy : x1 = y1 ∧ x2 = y2
        · obtain ⟨rfl, rfl⟩ := hxy
          have htk : LA.take (k + 1) = LB.take (k + 1) := by rw [List.take_add_one, List.take_add_one, HX.out, HY.out, HTAKE.out]
          have HTK := Lib.hid htk
          clear htk
          go_upto_region 6 with (fail)
          go_region
          all_goals go_wp2_with fail
          all_goals exact ⟨⟨k + 1, by omega, by go_num, HTK.out, HBEL.out.drew⟩, by simp [intOf]; omega⟩
        · have hne : LA ≠ LB := by
            rintro rfl
            have := HX.out.symm.trans HY.out
            simp only [Option.some.injEq, Prod.mk.injEq] at this
            exact hxy this
          have hr : r = false := by rw [← HR.out]; exact decide_eq_false hne
          have HRF := Lib.hid hr
          clear hne hr
          by_cases h1 : x1 = y1
          · have h2 : ¬ x2 = y2 := fun e => hxy ⟨h1, e⟩
            clear hxy
            go_upto_region 6 with (fail)
            go_region
            all_goals go_wp2_with fail
            all_goals go_ret
            all_goals exact ⟨by rw [HRF.out]; rfl, HBEL.out.drew⟩
          · clear hxy
            go_upto_region 6 with (fail)
            go_region
            all_goals go_wp2_with fail
            all_goals go_ret
            all_goals exact ⟨by rw [HRF.out]; rfl, HBEL.out.drew⟩
      · obtain rfl : na = k := by omega
        have he : LA = LB := by
          have h := HTAKE.out
          rw [List.take_of_length_le (Nat.le_of_eq HNA.out), List.take_of_length_le (Nat.le_of_eq HNB.out)] at h
          exact h
        have hr : r = true := by rw [← HR.out]; exact decide_eq_true he
        have HRF := Lib.hid hr
        clear he hr htake hbel hlt hd
        go_wp2_with fail
        go_ret
        exact ⟨by rw [HRF.out]; rfl, HBEL.out⟩
  · have hr : r = false := by
      rw [← HR.out]
      refine decide_eq_false fun e => ?_
      have h1 := HNA.out
      rw [e, HNB.out] at h1
      subst h1
      simp at hd
    have HRF := Lib.hid hr
    clear hr
    go_wp2_with fail
    go_ret
    exact ⟨by rw [HRF.out]; rfl, Below.refl _ _⟩
end Go.Proofs.Ytamcpdggpdaioaa
