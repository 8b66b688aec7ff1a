/- The law CpsetMakes, by walking its text. -/
import Derived.Test.YtfobmgfmepoamaaCpIsOf
import Derived.Test.YtfobmgfmepoamaaSlR
import Derived.Test.YtfobmgfmepoamaaPairs
import Derived.Deep.RegionHeld3
namespace Go.Proofs.Ytfobmgfmepoamaa
open Go.RowKit
set_option linter.unusedSimpArgs false
set_option linter.unusedVariables false

/-- The function value of CpsetMakes: is a number a character of the ranges? -/
theorem C.makes1_any (g : Nat) (A : Option Addr) (c m B : Nat) (l : List (Int × Int)) (d : Int) (w : World) (hl : l.length = m) (hm : m ≤ 1000000) (hg : w.cell? ⟨g, 0, none⟩ = some (.slice A m c)) (hB : B ≤ w.heap.size) (hA : Sl w B A (C.fl .i64 l)) :
    Calls Try.prog 24 #[.int .i64 d, .pointer (some ⟨g, 0, none⟩)] w fun e w' => e = .returned (.bool (C.inR l d && C.isC d)) ∧ Below w.heap.size w w' := by
  have HA := Lib.hid hA
  clear hA
  have HL := Lib.hid hl
  clear hl
  obtain ⟨q, hq⟩ : ∃ q, (C.inR l d && C.isC d) = q := ⟨_, rfl⟩
  rw [hq]
  have HQ := Lib.hid hq
  clear hq
  go_enter Try.func24, Try.ntmps24
  go_wp2_with fail
  refine (C.rhas_any A c m B l d _ HL.out hm hB HA.out).mono ?_
  rw [HQ.out]
  rintro e w1 ⟨rfl, hb⟩
  go_wp2
  go_ret
  exact ⟨rfl, hb⟩

theorem C.keepP {W w' : World} {B b1 b2 : Nat} {v1 v2 : Value} (d1 : W.cell? ⟨b1, 0, none⟩ = some v1) (d2 : W.cell? ⟨b2, 0, none⟩ = some v2) (h1 : b1 < B) (h2 : b2 < B) (h : Below B W w') :
    w'.cell? ⟨b1, 0, none⟩ = some v1 ∧ w'.cell? ⟨b2, 0, none⟩ = some v2 ∧ Below B W w' :=
  ⟨((bcell h).1 _ _ h1).trans d1, ((bcell h).1 _ _ h2).trans d2, h⟩
theorem C.thirdP {P Q : Prop} {W w' : World} {B : Nat} (h : P ∧ Q ∧ Below B W w') : Below B W w' := h.2.2

set_option maxRecDepth 100000 in
set_option maxHeartbeats 4000000 in
theorem C.makes_law (A : Option Addr) (len cap B : Nat) (rs : List (Int × Int)) (w : World) (hl : rs.length = len) (hc : len ≤ cap) (hcap : cap ≤ maxLen) (hB : B ≤ w.heap.size) (hA : Sl w B A (C.fl .i64 rs)) :
    Calls Try.prog 4 #[.slice A len cap] w fun e w' => e = .returned (.bool true) ∧ Below w.heap.size w w' := by
  have HL := Lib.hid hl
  have hbx : Below w.heap.size w (w.alloc (.cells #[.slice A len cap] 22)) := (Below.refl _ _).alloc (Nat.le_refl _) _
  have hblk0 := heap_alloc_new w (.cells #[.slice A len cap] 22)
  obtain ⟨W0, hW0⟩ : ∃ W0, w.alloc (.cells #[.slice A len cap] 22) = W0 := ⟨_, rfl⟩
  have hs0 : W0.heap.size = w.heap.size + 1 := by rw [← hW0]; simp
  rw [hW0] at hbx hblk0
  have HW0 := Lib.hid hW0
  have hA0 := Lib.hid (hA.belowN hbx hB (Nat.le_refl _))
  have hsz0 : w.heap.size < W0.heap.size := by omega
  have HBLK := Lib.hid hblk0
  clear hl hW0 hblk0 hA hs0
  go_enter Try.func4, Try.ntmps4
  go_wp2_with fail
  rw [HW0.out]
  refine (C.awake_any _).mono ?_
  rintro e w1 ⟨rfl, hb1⟩
  have hblk1 := (hb1.block w.heap.size hsz0).trans HBLK.out
  obtain ⟨c1, f1⟩ := blk_cell hblk1 0
  simp only [List.getElem?_toArray, List.getElem?_cons_zero] at c1
  have hbw1 := hbx.trans (hb1.mono (Nat.le_of_lt hsz0))
  have hsz1 : w.heap.size < w1.heap.size := by have := hb1.size; omega
  have HBLK1 := Lib.hid hblk1
  clear hblk1
  go_wp2_with fail
  refine (C.few_any A len cap B rs _ HL.out hc hcap (by omega) (hA0.out.belowN hb1 (by omega) (Nat.le_refl _))).mono ?_
  obtain ⟨l, hl⟩ : ∃ l, rs.take 12 = l := ⟨_, rfl⟩
  have hll : l.length ≤ 12 := by rw [← hl, List.length_take]; omega
  rw [hl]
  obtain ⟨m, hm⟩ : ∃ m, l.length = m := ⟨_, rfl⟩
  rw [hm] at hll
  have HM := Lib.hid hm
  clear hl hm
  rintro e w2 ⟨A2, c2, rfl, hown2, hb2⟩
  rw [HM.out] at hown2 ⊢
  have hR2 := SlR.own hown2 (Nat.le_of_lt hsz1)
  have hR2' : SlR w2 (w.heap.size + 1) w2.heap.size A2 (C.fl .i64 l) := SlR.own hown2 hsz1
  have hblk2 := (hb2.block w.heap.size hsz1).trans HBLK1.out
  obtain ⟨c2', f2⟩ := blk_cell hblk2 0
  simp only [List.getElem?_toArray, List.getElem?_cons_zero] at c2'
  have hbw2 := hbw1.trans (hb2.mono (Nat.le_of_lt hsz1))
  have hsz2 : w.heap.size < w2.heap.size := by have := hb2.size; omega
  have hcW := World.cell?_setCell_same w2 ⟨w.heap.size, 0, none⟩ (.slice A2 m c2) c2'
  have hbW : Below w.heap.size w (w2.setCell ⟨w.heap.size, 0, none⟩ (.slice A2 m c2)) := hbw2.setCell (Nat.le_refl _) _
  have hRW := SlR.set hR2' (p := ⟨w.heap.size, 0, none⟩) (.inl (Nat.lt_succ_self _)) (.slice A2 m c2)
  have hzW : (w2.setCell ⟨w.heap.size, 0, none⟩ (.slice A2 m c2)).heap.size = w2.heap.size := by simp [World.setCell]
  clear hR2 hR2' hown2 hblk2 c1 f1
  have HRW := Lib.hid hRW
  have HCW := Lib.hid hcW
  have HBW := Lib.hid hbW
  have HZW := Lib.hid hzW
  clear hRW hcW hbW hzW
  go_wp2_with fail
  obtain ⟨W, hW⟩ : ∃ W, w2.setCell ⟨w.heap.size, 0, none⟩ (.slice A2 m c2) = W := ⟨_, rfl⟩
  have hRW := HRW.out
  have cW := HCW.out
  have hbW := HBW.out
  have hzW := HZW.out
  rw [hW] at hRW cW hbW hzW ⊢
  have hSW := Lib.hid ((hRW.sl (Nat.le_refl _)).more (Nat.le_of_eq hzW.symm))
  have hsW : w.heap.size < W.heap.size := by omega
  have hWW : Below W.heap.size W W := Below.refl _ _
  clear hRW HRW HCW HBW HZW hW c2' f2 hb2 hbw2 hzW hsz2
  go_loopw [13] (fun vi wr => ∃ i : Nat, i ≤ m ∧ vi = .int .i64 i ∧ (∀ j, j < i → ∀ r, l[j]? = some r → (-2147483648 ≤ r.1 ∧ r.1 ≤ 2147483647) ∧ -2147483648 ≤ r.2 ∧ r.2 ≤ 2147483647) ∧ Below W.heap.size W wr) (fun vi _ => m - (intOf vi).toNat)
  case atStart => exact ⟨0, by omega, rfl, by intro j hj; omega, hWW⟩
  case round =>
    obtain ⟨i, hi, rfl, hin, hb3⟩ := hrel
    have HIN := Lib.hid hin
    clear hin
    obtain ⟨w3, rfl⟩ : ∃ w3 : World, w3 = wr := ⟨_, rfl⟩
    have hs3 : W.heap.size ≤ w3.heap.size := hb3.size
    have hbw3 := hbW.trans (hb3.mono (Nat.le_of_lt hsW))
    by_cases hlt : i < m
    · obtain ⟨⟨x, y⟩, hr0⟩ : ∃ r0, l[i]? = some r0 := ⟨_, List.getElem?_eq_getElem (by rw [HM.out]; exact hlt)⟩
      obtain ⟨g, o, rfl, hlg, cg0, cg1⟩ := hSW.out.pair hr0
      rw [← (bcell hb3).1 _ _ hlg] at cg0 cg1
      simp only at cg0 cg1
      have n0 : (0 : Int) ≤ (i : Int) := by omega
      have n1 : (i : Int) < m := by omega
      have HR0 := Lib.hid hr0
      have hend := hbw3.alloc (Nat.le_of_lt (Nat.lt_of_lt_of_le hsW hs3)) (.cells #[.int .i64 x, .int .i64 y] 42)
      clear hr0
      by_cases h1 : x < -2147483648
      · go_wp2
        go_ret
        exact ⟨rfl, hend⟩
      · by_cases h2 : x ≥ 2147483648
        · go_wp2
          go_ret
          exact ⟨rfl, hend⟩
        · by_cases h3 : y < -2147483648
          · go_wp2
            go_ret
            exact ⟨rfl, hend⟩
          · by_cases h4 : y ≥ 2147483648
            · go_wp2
              go_ret
              exact ⟨rfl, hend⟩
            · go_wp2
              refine ⟨⟨i + 1, by omega, by go_num, ?_, hb3.alloc hs3 _⟩, by simp [intOf]; omega⟩
              intro j hj r hr
              rcases Nat.lt_or_ge j i with h | h
              · exact HIN.out j h r hr
              · obtain rfl : j = i := by omega
                have e := HR0.out.symm.trans hr
                cases e
                simp only
                omega
    · obtain rfl : i = m := by omega
      have hbd : ∀ r ∈ l, (-2147483648 ≤ r.1 ∧ r.1 ≤ 2147483647) ∧ -2147483648 ≤ r.2 ∧ r.2 ≤ 2147483647 := by
        intro r hr
        obtain ⟨j, hj, rfl⟩ := List.getElem_of_mem hr
        exact HIN.out j (by rw [HM.out] at hj; exact hj) _ (List.getElem?_eq_getElem hj)
      have HBD := Lib.hid hbd
      have c3 := ((bcell hb3).1 w.heap.size 0 hsW).trans cW
      have hS3 := Lib.hid (hSW.out.belowN hb3 (Nat.le_refl _) hs3)
      have hsw3 : w.heap.size < w3.heap.size := by omega
      clear hbd hb3 hWW
      go_wp2_with fail
      refine (C.own_any A2 c2 i w3.heap.size l _ HM.out (by omega) HBD.out (Nat.le_refl _) hS3.out).mono ?_
      rintro e w4 ⟨A4, c4, rfl, hown4, hb4⟩
      rw [HM.out] at hown4 ⊢
      have hS4 := Lib.hid (Sl.of_own hown4)
      have hS4l := Lib.hid (hS3.out.belowN hb4 (Nat.le_refl _) hb4.size)
      have hbw4 := hbw3.trans (hb4.mono (Nat.le_of_lt hsw3))
      have e4 := ((bcell hb4).1 w.heap.size 0 hsw3).trans c3
      have hsw4 : w.heap.size < w4.heap.size := by have := hb4.size; omega
      clear hown4
      go_wp2_with fail
      refine (C.of_any A4 c4 i w4.heap.size l _ HM.out (by omega) HBD.out (Nat.le_refl _) hS4.out).mono ?_
      rintro e w5 ⟨hr1, hr0⟩
      rcases hg : C.good l with _ | _
      · obtain ⟨rfl, hb5⟩ := hr0 hg
        have HG := Lib.hid hg
        have hbw5 := hbw4.trans (hb5.mono (Nat.le_of_lt hsw4))
        have hsw5 : w.heap.size < w5.heap.size := by have := hb5.size; omega
        have hbV : Below w5.heap.size w5 (w5.alloc (.cells #[.slice none 0 0] 26)) := (Below.refl _ _).alloc (Nat.le_refl _) _
        have e5 := ((bcell hbV).1 w.heap.size 0 hsw5).trans (((bcell hb5).1 w.heap.size 0 hsw4).trans e4)
        have hS5 := Lib.hid ((hS4l.out.belowN hb5 (Nat.le_refl _) hb5.size).belowN hbV (Nat.le_refl _) hbV.size)
        have hbw6 := hbw5.trans (hbV.mono (Nat.le_of_lt hsw5))
        have v0 := (blk_cell (heap_alloc_new w5 (.cells #[.slice none 0 0] 26)) 0).1
        simp only [List.getElem?_toArray, List.getElem?_cons_zero] at v0
        have hz6 : (w5.alloc (.cells #[.slice none 0 0] 26)).heap.size = w5.heap.size + 1 := by simp
        have HZ6 := Lib.hid hz6
        clear hr1 hr0 hg hz6
        go_wp2_with fail
        refine (C.good_any A2 c2 i _ l _ HM.out (by omega) (Nat.le_refl _) hS5.out).mono ?_
        rw [HG.out]
        rintro e w6 ⟨rfl, hb6⟩
        have v6 := ((bcell hb6).1 w5.heap.size 0 (by rw [HZ6.out]; omega)).trans v0
        have hsw6 : w.heap.size ≤ (w5.alloc (.cells #[.slice none 0 0] 26)).heap.size := by rw [HZ6.out]; omega
        have hbw7 := hbw6.trans (hb6.mono hsw6)
        go_wp2_with fail
        refine (C.count_any none 0 0 0 [] _ rfl (by decide) C.nil_ok (Nat.zero_le _) (Sl.nil _ _ _)).mono ?_
        rw [show C.count [] = 0 from rfl]
        rintro e w7 ⟨rfl, hb7⟩
        go_wp2
        go_ret
        exact ⟨rfl, hbw7.trans (hb7.mono hbw7.size)⟩
      · obtain ⟨hok, hsl⟩ := C.ofS_ok hg
        have hmem := C.ofS_mem l hg
        have hmb := C.marks_bd hg
        obtain ⟨hms, hmall, hmends⟩ := C.marks_spec l
        have hmlen := C.marks_len l
        have hr := hr1 hg
        have hblind : C.blind (C.marks l) (fun d => C.inR l d && C.isC d) := C.blind_op (fun a b => a && b) (C.blind_inR l hmends) (C.blind_isC hmall)
        obtain ⟨S, hS⟩ : ∃ S, C.ofS l = S := ⟨_, rfl⟩
        obtain ⟨M, hMk⟩ : ∃ M, C.marks l = M := ⟨_, rfl⟩
        rw [hS] at hok hsl hmem hr
        rw [hMk] at hmb hms hmall hmlen hblind
        obtain ⟨n, hn⟩ : ∃ n, S.length = n := ⟨_, rfl⟩
        obtain ⟨mm, hmm⟩ : ∃ mm, M.length = mm := ⟨_, rfl⟩
        rw [hn] at hsl hr
        rw [hmm, HM.out] at hmlen
        rw [HM.out] at hsl
        obtain ⟨A5, c5, rfl, hown5, hb5⟩ := hr
        have hn' : n ≤ 1000000 := by omega
        have hmm' : mm ≤ 1000000 := by omega
        have HG := Lib.hid hg
        have HN := Lib.hid hn
        have HMM := Lib.hid hmm
        have HOK := Lib.hid hok
        have HMEM := Lib.hid hmem
        have HMB := Lib.hid hmb
        have HMS := Lib.hid hms
        have HMALL := Lib.hid hmall
        have HBL := Lib.hid hblind
        have HMK := Lib.hid hMk
        have hS5o := Lib.hid (Sl.of_own hown5)
        have hbw5 := hbw4.trans (hb5.mono (Nat.le_of_lt hsw4))
        have hsw5 : w.heap.size < w5.heap.size := by have := hb5.size; omega
        have hbV : Below w5.heap.size w5 (w5.alloc (.cells #[.slice A5 n c5] 26)) := (Below.refl _ _).alloc (Nat.le_refl _) _
        have e5 := ((bcell hbV).1 w.heap.size 0 hsw5).trans (((bcell hb5).1 w.heap.size 0 hsw4).trans e4)
        have hS5 := Lib.hid ((hS4l.out.belowN hb5 (Nat.le_refl _) hb5.size).belowN hbV (Nat.le_refl _) hbV.size)
        have hT5 := Lib.hid (hS5o.out.belowN hbV (Nat.le_refl _) hbV.size)
        have hbw6 := hbw5.trans (hbV.mono (Nat.le_of_lt hsw5))
        have v0 := (blk_cell (heap_alloc_new w5 (.cells #[.slice A5 n c5] 26)) 0).1
        simp only [List.getElem?_toArray, List.getElem?_cons_zero] at v0
        have hz6 : (w5.alloc (.cells #[.slice A5 n c5] 26)).heap.size = w5.heap.size + 1 := by simp
        have HZ6 := Lib.hid hz6
        clear hr1 hr0 hg hz6 hS hMk hn hmm hok hmem hmb hms hmall hblind hown5 hmends
        go_wp2_with fail
        refine (C.good_any A2 c2 i _ l _ HM.out (by omega) (Nat.le_refl _) hS5.out).mono ?_
        rw [HG.out]
        rintro e w6 ⟨rfl, hb6⟩
        have q5 := ((bcell hb6).1 w5.heap.size 0 (by rw [HZ6.out]; omega)).trans v0
        have q1 := ((bcell hb6).1 w.heap.size 0 (by rw [HZ6.out]; omega)).trans e5
        have hsw6 : w.heap.size ≤ (w5.alloc (.cells #[.slice A5 n c5] 26)).heap.size := by rw [HZ6.out]; omega
        have hbw7 := hbw6.trans (hb6.mono hsw6)
        have l5 : w5.heap.size < w6.heap.size := by have := hb6.size; rw [HZ6.out] at this; omega
        have l1 : w.heap.size < w6.heap.size := by omega
        have hS6 := Lib.hid (hS5.out.belowN hb6 (Nat.le_refl _) hb6.size)
        have hT6 := Lib.hid (hT5.out.belowN hb6 (Nat.le_refl _) hb6.size)
        have hxx : Below w6.heap.size w6 w6 := Below.refl _ _
        have hl12 : i ≤ 100000 := by omega
        have hlM : i ≤ 1000000 := by omega
        have HBD2 : Hid (∀ r ∈ l, -9223372036854775808 ≤ r.2 ∧ r.2 < 9223372036854775807) := Lib.hid (fun r hr => by have := HBD.out r hr; omega)
        have HF : Hid (∀ (w' : World), w'.cell? ⟨w.heap.size, 0, none⟩ = some (.slice A2 i c2) → Below w6.heap.size w6 w' → ∀ (d : Int) (w'' : World), Below w'.heap.size w' w'' → Calls Try.prog 24 (#[.int .i64 d] ++ #[.pointer (some ⟨w.heap.size, 0, none⟩)]) w'' fun e w3' => e = .returned (.bool ((fun d => C.inR l d && C.isC d) d)) ∧ Below w''.heap.size w'' w3') :=
          Lib.hid (fun w' hc' hb' d w'' hb'' => C.makes1_any w.heap.size A2 c2 i w6.heap.size l d w'' HM.out hlM (((bcell hb'').1 w.heap.size 0 (Nat.lt_of_lt_of_le l1 hb'.size)).trans hc') (Nat.le_trans hb'.size hb''.size) ((hS6.out.belowN hb' (Nat.le_refl _) (Nat.le_refl _)).belowN hb'' hb'.size (Nat.le_refl _)))
        have HEN : Hid (∀ (args : Array Value) (w : World), (callFunc 24 args).run Try.prog w = .ok (.enter 24 args) w) := Lib.hid (fun args w => C.enter' Try.func24 (by kernel_rfl) (by kernel_rfl) args w)
        have HC : Hid (∀ c, (fun d => C.inR l d && C.isC d) c = true → C.isC c = true) := Lib.hid (fun c hc => by simp at hc; exact hc.2)
        go_wp2_with fail
        go_region_held3 (fun w' => w'.cell? ⟨w.heap.size, 0, none⟩ = some (.slice A2 i c2) ∧ w'.cell? ⟨w5.heap.size, 0, none⟩ = some (.slice A5 n c5) ∧ Below w6.heap.size w6 w')
          (first
            | exact C.keepP q1 q5 l1 l5 hxx
            | exact C.keepP q1 q5 l1 l5 hxx.drew
            | exact C.keepP q1 q5 l1 l5 hbz9
            | fail)
          (first
            | (go_at_call 23; refine (C.marks_any A2 c2 i w6.heap.size l _ HM.out hl12 HBD2.out (C.thirdP (W := w6) (by assumption)).size (hS6.out.belowN (C.thirdP (W := w6) (by assumption)) (Nat.le_refl _) (Nat.le_refl _))).mono ?_; rw [HMK.out]; rintro e w7 ⟨A7, c7, rfl, hM7, hbc⟩; rw [HMM.out]; have HM7 := Lib.hid hM7; clear hM7; have hbz9 := (C.thirdP (W := w6) (by assumption)).trans (hbc.mono (C.thirdP (W := w6) (by assumption)).size))
            | (go_at_call 22; refine (C.is_of 24 #[.pointer (some ⟨w.heap.size, 0, none⟩)] (fun d => C.inR l d && C.isC d) A5 A7 c5 n c7 mm w7.heap.size S M _ HEN.out (HF.out _ (And.left (by assumption)) (C.thirdP (by assumption))) HN.out hn' HOK.out HMM.out hmm' HMS.out HMALL.out HMB.out HBL.out HC.out HMEM.out (Nat.le_refl _) ((hT6.out.belowN hbz9 (Nat.le_refl _) (Nat.le_refl _)).more hbz9.size) HM7.out).mono ?_; rintro e w8 ⟨rfl, hbc⟩; have hbz9 := (C.thirdP (W := w6) (by assumption)).trans (hbc.mono (C.thirdP (W := w6) (by assumption)).size))
            | fail)
        all_goals
          go_wp2_with fail
          go_ret
          exact ⟨rfl, hbw7.trans (hbz9.mono (Nat.le_of_lt l1))⟩

theorem C.makes_row (w : World) (a : Option Addr) (len cap : Nat) (rs : List (Int × Int)) (h : IsPairs w a len cap rs) :
    Calls Try.prog 4 #[.slice a len cap] w fun e w' => e = .returned (.bool true) ∧ Below w.heap.size w w' :=
  C.makes_law a len cap w.heap.size rs w h.1 h.2.1 h.2.2.1 (Nat.le_refl _) h.2.2.2.1
end Go.Proofs.Ytfobmgfmepoamaa
