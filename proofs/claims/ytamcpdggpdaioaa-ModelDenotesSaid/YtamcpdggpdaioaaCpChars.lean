/- The layer cpset: Chars, by walking its text. -/
import Derived.Test.YtamcpdggpdaioaaSoWalkB12
import Derived.Test.YtamcpdggpdaioaaCpSet
import Derived.Test.YtamcpdggpdaioaaFaCh
namespace Go.Proofs.Ytamcpdggpdaioaa
open Go.RowKit
set_option linter.unusedSimpArgs false
set_option linter.unusedVariables false

theorem C.chF_succ {cs : List Int} {i : Nat} {c : Int} (h : cs[i]? = some c) : C.chF (cs.take (i + 1)) [] = C.step C.isC (C.chF (cs.take i) []) c (c + 1) := by
  unfold C.chF
  rw [List.take_add_one, h, List.foldl_append]
  rfl

theorem C.step_last {acc : List Int} {k : Nat} {c b : Int} (hp : C.isC c = true) (hl : acc.length = k + 1) (h : acc[k]? = some c) : C.step C.isC acc c b = acc.set k b := by
  unfold C.step
  rw [if_pos hp, if_pos (by rw [List.getLast?_eq_getElem?, hl]; exact h)]
  rcases List.eq_nil_or_concat acc with rfl | ⟨l2, e, rfl⟩
  · simp at hl
  · rw [List.concat_eq_append] at *
    have : l2.length = k := by simpa using hl
    subst this
    simp

set_option maxRecDepth 100000 in
set_option maxHeartbeats 4000000 in
theorem C.chars_any (A : Option Addr) (n c B : Nat) (l : List Int) (w : World) (hn : l.length = n) (hn' : n ≤ 400000) (hB : B ≤ w.heap.size) (hA : Sl w B A (l.map (Value.int .i32))) :
    Calls Try.prog 36 #[.slice A n c] w (RetSet (C.chars l) w) := by
  have HN := Lib.hid hn
  obtain ⟨hsr, hme⟩ := C.once_spec l
  obtain ⟨cs, hcs⟩ : ∃ cs, C.once l = cs := ⟨_, rfl⟩
  have hcl : (l.mergeSort fun x y => decide (x ≤ y)).length = n := by simp [hn]
  have hco : Lib.compact (l.mergeSort fun x y => decide (x ≤ y)) = cs := by
    rw [← hcs]; unfold Lib.compact C.once; rw [hcl, hn]
  have hch : C.chars l = C.chF cs [] := by unfold C.chars; rw [hcs]
  rw [hch]
  obtain ⟨m, hm⟩ : ∃ m, cs.length = m := ⟨_, rfl⟩
  have hmn : m ≤ 400000 := by
    have h := R.compact_len (l.mergeSort fun x y => decide (x ≤ y))
    rw [hco, hcl, hm] at h; omega
  have HM := Lib.hid hm
  have HCL := Lib.hid hcl
  have HCO := Lib.hid hco
  have hal : Below w.heap.size w (w.alloc (.cells #[.slice none 0 0] 49)) := (Below.refl _ _).alloc (Nat.le_refl _) _
  have hA0 := Lib.hid (hA.belowN hal hB (Nat.le_refl _))
  have hz0 : w.heap.size + 1 ≤ (w.alloc (.cells #[.slice none 0 0] 49)).heap.size := by simp
  obtain ⟨j0, hj0, hy0, hy1, hy2⟩ := info_parts infoRune
  clear hn hcs hcl hco hch hm hsr hme
  go_enter Try.func36, Try.ntmps36
  go_wp2_with fail
  refine (R.clone_any A n c B l _ HN.out (by omega) (by omega) hA0.out).mono ?_
  rintro e w1 ⟨A1, c1, rfl, hown1, hb1⟩
  have hown1' := Lib.hid hown1
  clear hown1
  go_wp2_with fail
  refine (R.sort_any _ _ _ n l _ HN.out (by omega) hown1'.out hb1.size).mono ?_
  rintro e w2 ⟨rfl, hown2, hb2⟩
  have hown2' := Lib.hid hown2
  clear hown2
  go_wp2_with fail
  refine (R.compact_any A1 n c1 _ _ (l.mergeSort fun x y => decide (x ≤ y)) _ HCL.out (by omega) hown2'.out (Nat.le_trans hb1.size hb2.size)).mono ?_
  rw [HCO.out]
  rintro e w3 ⟨A3, c3, rfl, hS3, hb3⟩
  rw [HM.out]
  have HS3 := Lib.hid hS3
  have hb03 := (hb1.trans hb2).trans hb3
  clear hS3
  go_wp2
  go_loopw [4, 15] (fun vo vi wr => ∃ (i : Nat) (acc : List Int), i ≤ m ∧ vi = .int .i64 i ∧ acc = C.chF (cs.take i) [] ∧ acc.length ≤ 2 * i ∧ wr.ownsRow w3.heap.size 21 1 vo acc.length (acc.map (Value.int .i32)) ∧ Below w3.heap.size w3 wr) (fun _ vi _ => m - (intOf vi).toNat)
  case atStart => exact ⟨0, [], by omega, rfl, rfl, Nat.zero_le _, World.ownsRow_nil _ _ _ _, Below.refl _ _⟩
  case round =>
    obtain ⟨i, acc, hi, rfl, hacc, hal2, hown, hbz⟩ := hrel
    obtain ⟨uu, rfl⟩ : ∃ uu : World, uu = wr := ⟨_, rfl⟩
    obtain ⟨q, hq⟩ : ∃ q, acc.length = q := ⟨_, rfl⟩
    rw [hq] at hown hal2
    have HQ := Lib.hid hq
    have HACC := Lib.hid hacc
    have hsu : w3.heap.size ≤ uu.heap.size := hbz.size
    obtain ⟨A4, c4, rfl⟩ := own_form hown
    by_cases hlt : i < m
    · obtain ⟨ch, hch⟩ : ∃ ch, cs[i]? = some ch := ⟨_, List.getElem?_eq_getElem (by rw [HM.out]; omega)⟩
      have hst := C.chF_succ hch
      rw [← hacc] at hst
      have HST := Lib.hid hst
      obtain ⟨g, o, rfl, hlg, hcc, _⟩ := HS3.out.ints hch
      rw [← (bcell hbz).1 _ _ hlg] at hcc
      have n0 : (0 : Int) ≤ (i : Int) := by omega
      have n1 : (i : Int) < m := by omega
      clear hst hch hacc hq
      rcases hic : C.isC ch with _ | _
      · have HNO := Lib.hid (C.step_no (acc := acc) (b := ch + 1) hic)
        have HIC := Lib.hid hic
        clear hic
        go_wp2_with (go_at_call 50; refine (C.utfis_any _ _).mono ?_; rw [HIC.out]; rintro e w' ⟨rfl, rfl⟩)
        refine ⟨⟨i + 1, acc, by omega, by go_num, by rw [HST.out, HNO.out], by rw [HQ.out]; omega, by rw [HQ.out]; exact hown, hbz⟩, by simp [intOf]; omega⟩
      · have hb0 : 0 ≤ ch ∧ ch ≤ 1114111 := by simp [C.isC] at hic; omega
        obtain ⟨ch1, ch2⟩ := hb0
        have HIC := Lib.hid hic
        rcases Nat.eq_zero_or_pos q with hz | hz
        · subst hz
          have HNEW := Lib.hid (C.step_new (p := C.isC) (acc := acc) (b := ch + 1) hic (by rw [List.eq_nil_of_length_eq_zero HQ.out]; simp))
          clear hic
          have hZ := Lib.hid (Sl.lit (w := uu.alloc (.cells #[.int .i32 ch, .int .i32 (ch + 1)] 21)) (A := some ⟨uu.heap.size, 0, none⟩) (xs := [.int .i32 ch, .int .i32 (ch + 1)]) rfl 21 (0, 0) (heap_alloc_new uu _))
          have hown2 := Lib.hid (own_below hown ((Below.refl _ _).alloc (Nat.le_refl _) (.cells #[.int .i32 ch, .int .i32 (ch + 1)] 21)) (Nat.le_refl _))
          have hs2 : w3.heap.size ≤ (uu.alloc (.cells #[.int .i32 ch, .int .i32 (ch + 1)] 21)).heap.size := by simp; omega
          have hsu2 : w3.heap.size ≤ uu.heap.size := hsu
          go_wp2_with (first | (go_at_call 50; refine (C.utfis_any _ _).mono ?_; rw [HIC.out]; rintro e w' ⟨rfl, rfl⟩) | (at_builtin; refine wpList_appendSl _ rfl _ _ _ rfl w3.heap.size 21 j0 _ 1 4 Try.underlying47 hj0 hy0 hy1 hy2 rfl (by omega) _ 0 _ rfl hown2.out _ (some ⟨uu.heap.size, 0, none⟩) 2 2 [.int .i32 ch, .int .i32 (ch + 1)] rfl rfl hZ.out (by simp [Value.oneCell']) (by simp only [maxLen]; omega) (by omega) hs2 ?_; intro v1 w5 hown3 hb2 hgrow))
          refine ⟨⟨i + 1, acc ++ [ch, ch + 1], by omega, by go_num, by rw [HST.out, HNEW.out], by rw [List.length_append, HQ.out]; simp; omega, ?_, (hbz.alloc hsu2 _).trans hb2⟩, by simp [intOf]; omega⟩
          rw [List.length_append, HQ.out, List.map_append]
          exact hown3
        · obtain ⟨k, rfl⟩ : ∃ k, q = k + 1 := ⟨q - 1, by omega⟩
          obtain ⟨e0, he0⟩ : ∃ e0, acc[k]? = some e0 := ⟨_, List.getElem?_eq_getElem (by rw [HQ.out]; omega)⟩
          have hlast : acc.getLast? = some e0 := by rw [List.getLast?_eq_getElem?, HQ.out]; exact he0
          obtain ⟨g7, o7, rfl, hlb, hc0, _⟩ := (Sl.of_own hown).ints he0
          obtain ⟨rfl, hgb, hgl, hfz⟩ := own_zero hown
          simp only [Nat.zero_add] at hc0
          have hz1 := hfz k
          have q0 : (0 : Int) ≤ (k : Int) := by omega
          have qb : (k : Int) ≤ 1000000 := by omega
          have HE0 := Lib.hid he0
          have HLAST := Lib.hid hlast
          clear hfz he0 hlast
          by_cases hea : e0 = ch
          · subst hea
            have HSL := Lib.hid (C.step_last (b := e0 + 1) hic HQ.out HE0.out)
            have hset := own_set hown (j := k) (by rw [List.length_map, HQ.out]; omega) (.int .i32 (e0 + 1))
            have HSET := Lib.hid hset
            clear hic hset
            go_wp2_with (go_at_call 50; refine (C.utfis_any _ _).mono ?_; rw [HIC.out]; rintro e w' ⟨rfl, rfl⟩)
            refine ⟨⟨i + 1, acc.set k (e0 + 1), by omega, by go_num, by rw [HST.out, HSL.out], by rw [List.length_set, HQ.out]; omega, ?_, hbz.setCell (by show w3.heap.size ≤ g7; omega) _⟩, by simp [intOf]; omega⟩
            rw [List.length_set, HQ.out, List.map_set]
            exact HSET.out
          · have hd : (e0 == ch) = false := by simp; exact hea
            have HNEW := Lib.hid (C.step_new (p := C.isC) (acc := acc) (b := ch + 1) hic (by rw [HLAST.out]; intro h; exact hea (by simpa using h)))
            clear hic
            have hZ := Lib.hid (Sl.lit (w := uu.alloc (.cells #[.int .i32 ch, .int .i32 (ch + 1)] 21)) (A := some ⟨uu.heap.size, 0, none⟩) (xs := [.int .i32 ch, .int .i32 (ch + 1)]) rfl 21 (0, 0) (heap_alloc_new uu _))
            have hown2 := Lib.hid (own_below hown ((Below.refl _ _).alloc (Nat.le_refl _) (.cells #[.int .i32 ch, .int .i32 (ch + 1)] 21)) (Nat.le_refl _))
            have hs2 : w3.heap.size ≤ (uu.alloc (.cells #[.int .i32 ch, .int .i32 (ch + 1)] 21)).heap.size := by simp; omega
            have hsu2 : w3.heap.size ≤ uu.heap.size := hsu
            go_wp2_with (first | (go_at_call 50; refine (C.utfis_any _ _).mono ?_; rw [HIC.out]; rintro e w' ⟨rfl, rfl⟩) | (at_builtin; refine wpList_appendSl _ rfl _ _ _ rfl w3.heap.size 21 j0 _ 1 4 Try.underlying47 hj0 hy0 hy1 hy2 rfl (by omega) _ (k + 1) _ rfl hown2.out _ (some ⟨uu.heap.size, 0, none⟩) 2 2 [.int .i32 ch, .int .i32 (ch + 1)] rfl rfl hZ.out (by simp [Value.oneCell']) (by simp only [maxLen]; omega) (by omega) hs2 ?_; intro v1 w5 hown3 hb2 hgrow))
            refine ⟨⟨i + 1, acc ++ [ch, ch + 1], by omega, by go_num, by rw [HST.out, HNEW.out], by rw [List.length_append, HQ.out]; simp; omega, ?_, (hbz.alloc hsu2 _).trans hb2⟩, by simp [intOf]; omega⟩
            rw [List.length_append, HQ.out, List.map_append]
            exact hown3
    · obtain rfl : i = m := by omega
      have hfin : acc = C.chF cs [] := by rw [hacc, List.take_of_length_le (by rw [HM.out]; exact Nat.le_refl _)]
      have hbu := hb03.trans (hbz.mono (Nat.le_trans hb1.size (Nat.le_trans hb2.size hb3.size)))
      have hblk := (hbu.block w.heap.size (by omega)).trans (heap_alloc_new w _)
      obtain ⟨hrc, hrf⟩ := blk_cell hblk 0
      simp only [List.getElem?_toArray, List.getElem?_cons_zero] at hrc
      have HBLK := Lib.hid hblk
      have hsz3 : w.heap.size < w3.heap.size := by have := hb03.size; omega
      have HFIN := Lib.hid hfin
      clear hblk hacc hfin hq
      go_wp2
      have hb2' := set_cell (v := .slice A4 q c4) HBLK.out
      refine bodyPost_ret (results_cell_row rfl _ _ w.heap.size _ _ _ _ rfl hb2' Try.underlying49 rfl (by kernel_rfl)) rfl ?_
      refine ⟨A4, c4, by rw [← HFIN.out, HQ.out], ?_, (hal.trans (hbu.mono (by omega))).setCell (by simp) _⟩
      rw [← HFIN.out, HQ.out]
      exact own_base (ownsRow_setCell_below hown (by omega) _) (by omega)
end Go.Proofs.Ytamcpdggpdaioaa
