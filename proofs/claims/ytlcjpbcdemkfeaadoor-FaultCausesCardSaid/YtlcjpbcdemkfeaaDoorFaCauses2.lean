/- The layer fault: Causes, and the law FaultCauses, by walking their texts. -/
import Derived.Test.YtlcjpbcdemkfeaaDoorFaCauses
import Derived.RegionTactic
import Derived.BigRegion
namespace Go.Proofs.YtlcjpbcdemkfeaaDoor
open Go.RowKit Go.Stop
set_option linter.unusedSimpArgs false
set_option linter.unusedVariables false

theorem infoCause : (Tryd.prog.info? 57).map (fun i => (i.zero, i.size, i.bytes)) = some (some (.int .i64 0), 1, 8) := by kernel_rfl

def F.RetNums (el : TypeId) (l : List Int) (w : World) (e : Ending) (w' : World) : Prop :=
  ∃ A c, e = .returned (.slice A l.length c) ∧ Sl w' w'.heap.size A (l.map (Value.int .i64)) ∧ Below w.heap.size w w'

set_option maxRecDepth 100000 in
set_option maxHeartbeats 2000000 in
theorem F.causes_any (c : Int) (w : World) : Calls Tryd.prog 26 #[.int .i64 c] w (F.RetNums 57 (F.cz (F.mark c) 4) w) := by
  obtain ⟨j0, hj0, hy0, hy1, hy2⟩ := info_parts infoCause
  have HM := Lib.hid (F.marks_any c)
  have hin := F.mark_in c
  obtain ⟨m, hm⟩ : ∃ m, F.mark c = m := ⟨_, rfl⟩
  rw [hm] at HM hin ⊢
  have HIN := Lib.hid hin
  clear hm hin
  go_enter Tryd.func26, Tryd.ntmps26
  go_wp2_with fail
  refine (HM.out _).mono ?_
  rintro e w' ⟨rfl, rfl⟩
  go_wp2
  go_loopw [5, 3] (fun vx vo wr => ∃ (k n : Nat) (acc : List Int), k ≤ 4 ∧ vx = .int .i64 ((k + 1 : Nat) : Int) ∧ acc = F.cz m k ∧ acc.length = n ∧ wr.ownsRow w.heap.size 57 1 vo n (acc.map (Value.int .i64)) ∧ Below w.heap.size w wr) (fun vx _ _ => 5 - (intOf vx).toNat)
  case atStart => exact ⟨0, 0, [], by omega, rfl, rfl, rfl, World.ownsRow_nil _ _ _ _, Below.refl _ _⟩
  case round =>
    obtain ⟨k, n, acc, hk, rfl, hacc, hn, hown, hbr⟩ := hrel
    obtain ⟨w1, rfl⟩ : ∃ w1 : World, w1 = wr := ⟨_, rfl⟩
    obtain ⟨A1, c1, rfl⟩ := own_form hown
    have hs1 := hbr.size
    have hn4 : n ≤ 4 := by have := F.cz_len m k; rw [← hacc, hn] at this; omega
    have HACC := Lib.hid hacc
    have HN := Lib.hid hn
    clear hacc hn
    by_cases hlt : k < 4
    · have g1 : ((k + 1 : Nat) : Int) ≤ 4 := by omega
      have HH := Lib.hid (F.has_any m k w1 HIN.out hlt)
      rcases hh : F.has m (k + 1) with _ | _
      · have hs : F.cz m (k + 1) = acc := by
          show F.cz m k ++ (if F.has m (k + 1) = true then [((k + 1 : Nat) : Int)] else []) = acc
          rw [hh, ← HACC.out]; simp
        have HS := Lib.hid hs
        rw [hh] at HH
        clear hs hh
        obtain ⟨x, hx⟩ : ∃ x : Int, ((k + 1 : Nat) : Int) = x := ⟨_, rfl⟩
        rw [hx] at HH g1 ⊢
        have x1 : 1 ≤ x := by omega
        have HX := Lib.hid hx
        clear hx
        go_wp2_with (go_at_call 40; refine HH.out.mono ?_; rintro e w' ⟨rfl, rfl⟩)
        have hx := HX.out
        exact ⟨⟨k + 1, n, acc, by omega, by (first | (congr 1; omega) | (simp; omega)), HS.out.symm, HN.out, hown, hbr⟩, by simp [intOf]; omega⟩
      · have hs : F.cz m (k + 1) = acc ++ [((k + 1 : Nat) : Int)] := by
          show F.cz m k ++ (if F.has m (k + 1) = true then [((k + 1 : Nat) : Int)] else []) = _
          rw [hh, ← HACC.out]; simp
        have HS := Lib.hid hs
        rw [hh] at HH
        clear hs hh
        obtain ⟨x, hx⟩ : ∃ x : Int, ((k + 1 : Nat) : Int) = x := ⟨_, rfl⟩
        rw [hx] at HH HS g1 ⊢
        have x1 : 1 ≤ x := by omega
        have HX := Lib.hid hx
        clear hx
        have hZ := Lib.hid (Sl.lit (w := w1.alloc (.cells #[.int .i64 x] 57)) (A := some ⟨w1.heap.size, 0, none⟩) (xs := [.int .i64 x]) rfl 57 (0, 0) (heap_alloc_new w1 _))
        have hba : Below w1.heap.size w1 (w1.alloc (.cells #[.int .i64 x] 57)) := (Below.refl _ _).alloc (Nat.le_refl _) _
        have hown2 := Lib.hid (own_below hown hba (Nat.le_refl _))
        have hs3 : w.heap.size ≤ (w1.alloc (.cells #[.int .i64 x] 57)).heap.size := by simp; omega
        have HBA : Hid (Below w.heap.size w (w1.alloc (.cells #[.int .i64 x] 57))) := Lib.hid (hbr.trans (hba.mono hs1))
        clear hown hba hbr
        go_wp2_with (first
          | (go_at_call 40; refine HH.out.mono ?_; rintro e w' ⟨rfl, rfl⟩)
          | (at_builtin; refine wpList_appendSl _ rfl _ _ _ rfl w.heap.size 57 j0 _ 1 8 Tryd.underlying53 hj0 hy0 hy1 hy2 rfl (by omega) _ n _ rfl hown2.out _ (some ⟨w1.heap.size, 0, none⟩) 1 1 [.int .i64 x] rfl rfl hZ.out (by simp [Value.oneCell']) (by simp only [maxLen]; omega) (by omega) hs3 ?_; intro v1 w5 hown3 hb2 _; have HBZ := Lib.hid (HBA.out.trans hb2); have HO3 := Lib.hid hown3; clear hown3 hb2))
        have hx := HX.out
        exact ⟨⟨k + 1, n + 1, acc ++ [x], by omega, by (first | (congr 1; omega) | (simp; omega)), HS.out.symm, by rw [List.length_append, HN.out]; rfl, by rw [List.map_append]; exact HO3.out, HBZ.out⟩, by simp [intOf]; omega⟩
    · obtain rfl : k = 4 := by omega
      have HO := Lib.hid (Sl.of_own hown)
      clear hown
      go_wp2
      go_ret
      exact ⟨A1, c1, by rw [← HACC.out, HN.out]; rfl, by rw [← HACC.out]; exact HO.out, hbr⟩

set_option maxRecDepth 100000 in
set_option maxHeartbeats 8000000 in
theorem F.rcauses_any (c : Int) (w : World) : Calls Tryd.prog 27 #[.int .i64 c] w (F.RetNums 3 (F.cz (F.mark c) 4) w) := by
  rcases F.cases c with rfl | rfl | rfl | rfl | rfl | rfl | rfl | rfl | rfl | rfl | rfl | rfl | rfl | rfl | rfl | rfl | ⟨h1, h2, h3, h4, h5, h6, h7, h8, h9, h10, h11, h12, h13, h14, h15, h16⟩
  · have hl : F.cz (F.mark 1) 4 = [1] := by decide
    rw [hl]
    clear hl
    go_enter Tryd.func27, Tryd.ntmps27
    go_wp2
    go_ret
    exact ⟨some ⟨w.heap.size, 0, none⟩, 1, rfl, Sl.lit rfl 3 (0, 0) (heap_alloc_new w _), (Below.refl _ _).alloc (Nat.le_refl _) _⟩
  · have hl : F.cz (F.mark 2) 4 = [1, 2] := by decide
    rw [hl]
    clear hl
    go_enter Tryd.func27, Tryd.ntmps27
    go_wp2
    go_ret
    exact ⟨some ⟨w.heap.size, 0, none⟩, 2, rfl, Sl.lit rfl 3 (0, 0) (heap_alloc_new w _), (Below.refl _ _).alloc (Nat.le_refl _) _⟩
  · have hl : F.cz (F.mark 3) 4 = [1, 2] := by decide
    rw [hl]
    clear hl
    go_enter Tryd.func27, Tryd.ntmps27
    go_wp2
    go_ret
    exact ⟨some ⟨w.heap.size, 0, none⟩, 2, rfl, Sl.lit rfl 3 (0, 0) (heap_alloc_new w _), (Below.refl _ _).alloc (Nat.le_refl _) _⟩
  · have hl : F.cz (F.mark 4) 4 = [1, 3] := by decide
    rw [hl]
    clear hl
    go_enter Tryd.func27, Tryd.ntmps27
    go_wp2
    go_ret
    exact ⟨some ⟨w.heap.size, 0, none⟩, 2, rfl, Sl.lit rfl 3 (0, 0) (heap_alloc_new w _), (Below.refl _ _).alloc (Nat.le_refl _) _⟩
  · have hl : F.cz (F.mark 5) 4 = [1] := by decide
    rw [hl]
    clear hl
    go_enter Tryd.func27, Tryd.ntmps27
    go_wp2
    go_ret
    exact ⟨some ⟨w.heap.size, 0, none⟩, 1, rfl, Sl.lit rfl 3 (0, 0) (heap_alloc_new w _), (Below.refl _ _).alloc (Nat.le_refl _) _⟩
  · have hl : F.cz (F.mark 6) 4 = [1] := by decide
    rw [hl]
    clear hl
    go_enter Tryd.func27, Tryd.ntmps27
    go_wp2
    go_ret
    exact ⟨some ⟨w.heap.size, 0, none⟩, 1, rfl, Sl.lit rfl 3 (0, 0) (heap_alloc_new w _), (Below.refl _ _).alloc (Nat.le_refl _) _⟩
  · have hl : F.cz (F.mark 7) 4 = [1, 3] := by decide
    rw [hl]
    clear hl
    go_enter Tryd.func27, Tryd.ntmps27
    go_wp2
    go_ret
    exact ⟨some ⟨w.heap.size, 0, none⟩, 2, rfl, Sl.lit rfl 3 (0, 0) (heap_alloc_new w _), (Below.refl _ _).alloc (Nat.le_refl _) _⟩
  · have hl : F.cz (F.mark 8) 4 = [2] := by decide
    rw [hl]
    clear hl
    go_enter Tryd.func27, Tryd.ntmps27
    go_wp2
    go_ret
    exact ⟨some ⟨w.heap.size, 0, none⟩, 1, rfl, Sl.lit rfl 3 (0, 0) (heap_alloc_new w _), (Below.refl _ _).alloc (Nat.le_refl _) _⟩
  · have hl : F.cz (F.mark 9) 4 = [1, 3] := by decide
    rw [hl]
    clear hl
    go_enter Tryd.func27, Tryd.ntmps27
    go_wp2
    go_ret
    exact ⟨some ⟨w.heap.size, 0, none⟩, 2, rfl, Sl.lit rfl 3 (0, 0) (heap_alloc_new w _), (Below.refl _ _).alloc (Nat.le_refl _) _⟩
  · have hl : F.cz (F.mark 10) 4 = [1] := by decide
    rw [hl]
    clear hl
    go_enter Tryd.func27, Tryd.ntmps27
    go_wp2
    go_ret
    exact ⟨some ⟨w.heap.size, 0, none⟩, 1, rfl, Sl.lit rfl 3 (0, 0) (heap_alloc_new w _), (Below.refl _ _).alloc (Nat.le_refl _) _⟩
  · have hl : F.cz (F.mark 11) 4 = [1] := by decide
    rw [hl]
    clear hl
    go_enter Tryd.func27, Tryd.ntmps27
    go_wp2
    go_ret
    exact ⟨some ⟨w.heap.size, 0, none⟩, 1, rfl, Sl.lit rfl 3 (0, 0) (heap_alloc_new w _), (Below.refl _ _).alloc (Nat.le_refl _) _⟩
  · have hl : F.cz (F.mark 12) 4 = [1, 4] := by decide
    rw [hl]
    clear hl
    go_enter Tryd.func27, Tryd.ntmps27
    go_wp2
    go_ret
    exact ⟨some ⟨w.heap.size, 0, none⟩, 2, rfl, Sl.lit rfl 3 (0, 0) (heap_alloc_new w _), (Below.refl _ _).alloc (Nat.le_refl _) _⟩
  · have hl : F.cz (F.mark 13) 4 = [1, 4] := by decide
    rw [hl]
    clear hl
    go_enter Tryd.func27, Tryd.ntmps27
    go_wp2
    go_ret
    exact ⟨some ⟨w.heap.size, 0, none⟩, 2, rfl, Sl.lit rfl 3 (0, 0) (heap_alloc_new w _), (Below.refl _ _).alloc (Nat.le_refl _) _⟩
  · have hl : F.cz (F.mark 14) 4 = [1, 3] := by decide
    rw [hl]
    clear hl
    go_enter Tryd.func27, Tryd.ntmps27
    go_wp2
    go_ret
    exact ⟨some ⟨w.heap.size, 0, none⟩, 2, rfl, Sl.lit rfl 3 (0, 0) (heap_alloc_new w _), (Below.refl _ _).alloc (Nat.le_refl _) _⟩
  · have hl : F.cz (F.mark 15) 4 = [1] := by decide
    rw [hl]
    clear hl
    go_enter Tryd.func27, Tryd.ntmps27
    go_wp2
    go_ret
    exact ⟨some ⟨w.heap.size, 0, none⟩, 1, rfl, Sl.lit rfl 3 (0, 0) (heap_alloc_new w _), (Below.refl _ _).alloc (Nat.le_refl _) _⟩
  · have hl : F.cz (F.mark 16) 4 = [1, 2] := by decide
    rw [hl]
    clear hl
    go_enter Tryd.func27, Tryd.ntmps27
    go_wp2
    go_ret
    exact ⟨some ⟨w.heap.size, 0, none⟩, 2, rfl, Sl.lit rfl 3 (0, 0) (heap_alloc_new w _), (Below.refl _ _).alloc (Nat.le_refl _) _⟩
  · have hl : F.cz (F.mark c) 4 = [] := by
      have hm : F.mark c = 0 := by simp [F.mark, h1, h2, h3, h4, h5, h6, h7, h8, h9, h10, h11, h12, h13, h14, h15, h16]
      rw [hm]; decide
    rw [hl]
    clear hl
    go_enter Tryd.func27, Tryd.ntmps27
    go_wp2
    go_ret
    exact ⟨none, 0, rfl, Sl.nil _ _ _, Below.refl _ _⟩

set_option maxRecDepth 100000 in
set_option maxHeartbeats 4000000 in
theorem F.causes_law (c : Int) (w : World) (hL : F.Laid w) : Calls Tryd.prog 6 #[.int .i64 c] w fun e w' => e = .returned (.bool true) ∧ Below w.heap.size w w' := by
  have HA := Lib.hid (F.awake_any w hL)
  have hlen := F.cz_len (F.mark c) 4
  have HG := Lib.hid (F.causes_any c)
  have HR := Lib.hid (F.rcauses_any c)
  obtain ⟨l, hl⟩ : ∃ l, F.cz (F.mark c) 4 = l := ⟨_, rfl⟩
  rw [hl] at hlen HG HR
  obtain ⟨n, hn⟩ : ∃ n, l.length = n := ⟨_, rfl⟩
  rw [hn] at hlen
  have HN := Lib.hid hn
  clear hl hn hL
  go_enter Tryd.func6, Tryd.ntmps6
  go_wp2_with fail
  refine HA.out.mono ?_
  rintro e w1 ⟨rfl, hb1⟩
  go_wp2_with fail
  refine (HG.out _).mono ?_
  rintro e w2 ⟨A2, c2, rfl, hS2, hb2⟩
  rw [HN.out]
  have HS2 := Lib.hid hS2
  clear hS2
  go_wp2_with fail
  refine (HR.out _).mono ?_
  rintro e w3 ⟨A3, c3, rfl, hS3, hb3⟩
  rw [HN.out]
  have HS3 := Lib.hid hS3
  have HS23 := Lib.hid (HS2.out.belowN hb3 (Nat.le_refl _) hb3.size)
  have HB := Lib.hid ((hb1.trans (hb2.mono hb1.size)).trans (hb3.mono (Nat.le_trans hb1.size hb2.size)))
  clear hS3 hb1 hb2 hb3 HS2
  go_wp2
  go_loopw [19] (fun vi wr => ∃ i : Nat, i ≤ n ∧ vi = .int .i64 i ∧ Below w3.heap.size w3 wr) (fun vi _ => n - (intOf vi).toNat)
  case atStart => exact ⟨0, by omega, rfl, Below.refl _ _⟩
  case round =>
    obtain ⟨i, hi, rfl, hbr⟩ := hrel
    obtain ⟨w4, rfl⟩ : ∃ w4 : World, w4 = wr := ⟨_, rfl⟩
    by_cases hlt : (i : Int) < n
    · obtain ⟨x, hx⟩ : ∃ x, l[i]? = some x := ⟨_, List.getElem?_eq_getElem (by rw [HN.out]; omega)⟩
      obtain ⟨b2, o2, rfl, hl2, hc2, _⟩ := HS23.out.ints hx
      obtain ⟨b3, o3, rfl, hl3, hc3, _⟩ := HS3.out.ints hx
      rw [← (bcell hbr).1 _ _ hl2] at hc2
      rw [← (bcell hbr).1 _ _ hl3] at hc3
      have n0 : (0 : Int) ≤ (i : Int) := by omega
      have HBR := Lib.hid hbr
      clear hx hbr
      go_wp2_with fail
      go_region
      all_goals
        go_wp2_with fail
        exact ⟨⟨i + 1, by omega, by go_num, HBR.out.drew⟩, by simp [intOf]; omega⟩
    · obtain rfl : i = n := by omega
      go_wp2
      go_ret
      exact ⟨rfl, HB.out.trans (hbr.mono HB.out.size)⟩
theorem F.causes_row (w : World) (c : Int) (_ : -9223372036854775808 ≤ c) (_ : c ≤ 9223372036854775807) (hL : F.Laid w) : Calls Tryd.prog 6 #[.int .i64 c] w fun e w' => e = .returned (.bool true) ∧ Below w.heap.size w w' :=
  F.causes_law c w hL
end Go.Proofs.YtlcjpbcdemkfeaaDoor
