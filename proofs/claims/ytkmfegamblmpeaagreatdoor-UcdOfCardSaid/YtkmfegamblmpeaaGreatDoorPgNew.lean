/- Pages: New, by walking its text. -/
import Derived.Test.YtkmfegamblmpeaaGreatDoorPgReg
namespace Go.Proofs.YtkmfegamblmpeaaGreatDoor
open Go.RowKit
set_option linter.unusedSimpArgs false
set_option linter.unusedVariables false


set_option maxRecDepth 100000 in
set_option maxHeartbeats 4000000 in
theorem Pg.new_lo (A : Option Addr) (n c : Nat) (L : List (Int × Int)) (w : World) (hn : L.length = n) (hok : Pg.cellsOk L) (hs : Sl w w.heap.size A (Pg.fl L)) (hnm : n ≤ maxLen) :
    Calls Tryz.prog 56 #[.slice A n c] w fun e w' => ∃ v, e = .returned v ∧ Pg.OfL w.heap.size w' v (Pg.last L) ∧ Below w.heap.size w w' := by
  have hmm := @run_makeMap Tryz.prog
  have hst := Pg.St.made w w.heap.size (w.alloc (.map #[] 0)).heap.size
  have hbm : Below w.heap.size w (w.alloc (.map #[] 0)) := (Below.refl _ _).alloc (Nat.le_refl _) _
  obtain ⟨w1, hw1⟩ : ∃ w1, w.alloc (.map #[] 0) = w1 := ⟨_, rfl⟩
  rw [hw1] at hst hbm
  have hsz : w1.heap.size = w.heap.size + 1 := by rw [← hw1]; simp
  have HW1 := Lib.hid hw1
  have HST := Lib.hid hst
  have HBM := Lib.hid hbm
  have HS := Lib.hid hs
  have HN := Lib.hid hn
  have HOKL := Lib.hid hok
  have HSZ := Lib.hid hsz
  simp only [maxLen] at hnm
  clear hw1 hst hbm hs hn hok hsz
  go_enter Tryz.func56, Tryz.ntmps56
  go_upto_region 2 with (fail)
  rw [HW1.out]
  clear hmm
  go_wp2_with fail
  go_loopw [16] (fun i wr => ∃ (k : Nat) (G : Nat → Option Nat), k ≤ n ∧ i = .int .i64 k ∧ Pg.St w.heap.size wr.heap.size wr w.heap.size (Pg.last (L.take k)) G ∧ Below w.heap.size w wr) (fun i _ => n - (intOf i).toNat)
  case atStart => exact ⟨0, _, Nat.zero_le _, rfl, HST.out, HBM.out⟩
  case round =>
    obtain ⟨k, G, hk, rfl, hst, hbel⟩ := hrel
    by_cases hlt : k < n
    · obtain ⟨x, hx⟩ : ∃ x, L[k]? = some x := ⟨_, List.getElem?_eq_getElem (by rw [HN.out]; exact hlt)⟩
      have hxm := HOKL.out x (List.mem_of_getElem? hx)
      obtain ⟨b, o, rfl, hb, hcc⟩ := (HS.out.below hbel hbel.size) (by rw [Pg.fl_len, HN.out]; omega)
      have c0 := hcc (k * 2) (by rw [Pg.fl_len, HN.out]; omega)
      have c1 := hcc (k * 2 + 1) (by rw [Pg.fl_len, HN.out]; omega)
      rw [(Pg.fl_get L k x hx).1] at c0
      rw [(Pg.fl_get L k x hx).2, ← Nat.add_assoc] at c1
      have htk : L.take (k + 1) = L.take k ++ [x] := by rw [List.take_add_one, hx]; rfl
      have HTK := Lib.hid htk
      have hkI : (k : Int) < n := by omega
      have hk0 : (0 : Int) ≤ k := by omega
      have hbn : Below wr.heap.size wr (wr.alloc (.cells #[.int .i32 x.1, .int .u16 x.2] 102)) := (Below.refl _ _).alloc (Nat.le_refl _) _
      have hatn := Rw.At.new wr 102 [.int .i32 x.1, .int .u16 x.2]
      have hsta := hst.below hbn hst.lt (Nat.le_refl _)
      have hbela := hbel.trans (hbn.mono hbel.size)
      have HST2 := Lib.hid hsta
      have HBEL2 := Lib.hid hbela
      have HAT2 := Lib.hid hatn
      have hmb := hst.lt
      have hszA : (wr.alloc (.cells #[.int .i32 x.1, .int .u16 x.2] 102)).heap.size = wr.heap.size + 1 := by simp
      have HSZA := Lib.hid hszA
      have hI := Pg.in_any x.1 (wr.alloc (.cells #[.int .i32 x.1, .int .u16 x.2] 102))
      have HXM := Lib.hid hxm
      clear hx hcc htk hst hbel hbn hatn hsta hbela hszA hxm
      obtain ⟨x1, x2⟩ := x
      dsimp only at *
      by_cases hc : 0 ≤ x1 ∧ x1 ≤ 1114111
      · rw [decide_eq_true hc] at hI
        have HI := Lib.hid hI
        obtain ⟨N, hN⟩ : ∃ N : Nat, x1 / 256 = N := ⟨(x1 / 256).toNat, by omega⟩
        obtain ⟨M, hM⟩ : ∃ M : Nat, x1 % 256 = M := ⟨(x1 % 256).toNat, by omega⟩
        have hN' : N < 4352 := by omega
        have hM' : M < 256 := by omega
        have hand := Pg.and_8 x1 hc.1 hc.2
        rw [hM] at hand
        have HSETS : Hid (Pg.blk (Pg.last (L.take (k + 1))) N = (Pg.blk (Pg.last (L.take k)) N).set M x2) := Lib.hid (by rw [HTK.out]; exact Pg.blk_set _ _ hN hM)
        have HOTHER : Hid (∀ m, m ≠ N → Pg.blk (Pg.last (L.take (k + 1))) m = Pg.blk (Pg.last (L.take k)) m) := Lib.hid (fun m hm => by rw [HTK.out]; exact Pg.blk_other _ _ hN hm)
        have hMI : (M : Int) < 256 := by omega
        have hM0 : (0 : Int) ≤ M := by omega
        have HM := Lib.hid hM
        clear hI hM
        obtain ⟨wa, hwa⟩ : ∃ wa, wr.alloc (.cells #[.int .i32 x1, .int .u16 x2] 102) = wa := ⟨_, rfl⟩
        rw [hwa] at HST2 HBEL2 HAT2 HSZA HI
        have HWA := Lib.hid hwa
        clear hwa
        go_upto_region 5 with (fail)
        rw [HWA.out]
        clear c0 c1
        have c0 := HAT2.out.cell 0 rfl
        have c1 := HAT2.out.cell 1 rfl
        have hq := HAT2.out.lt
        go_wp2_with fail
        refine HI.out.mono ?_
        rintro e w5 ⟨rfl, rfl⟩
        have hlk := HST2.out.look hN'
        rcases hG : G N with _ | g
        · rw [hG] at hlk
          replace hlk : (Instr.lookup 150 (.map (some w.heap.size)) (.int .i32 N) false).run Tryz.prog wa = .ok (.pointer none) wa := hlk
          obtain ⟨wb, G', hput, hstb, hGb, hgr⟩ := HST2.out.put hN' hG (by rw [HSZA.out]; exact Nat.le_trans (HBEL2.out.size) (by rw [HSZA.out]; exact Nat.le_refl _)) (by rw [HSZA.out]; omega)
          have hqb := (HAT2.out.alloc (.cells (Pg.vs Pg.zeros).toArray 125)).grown hgr (by
            intro e
            have e := Option.some.inj e
            omega)
          have HGR := Lib.hid hgr
          have HSTB := Lib.hid hstb
          have HGB := Lib.hid hGb
          have HQB := Lib.hid hqb
          clear hstb hgr hqb hGb hG
          go_upto_region 9 with (first | (refine Pg.wpList_exec rfl _ (Pg.exec_build 125 rfl _ (Pg.runZ _)) ?_) | fail)
          have HST3 := HSTB
          have HG3 := HGB
          have HQ3 := HQB
          have HBEL3 : Hid (Below w.heap.size w wb) := Lib.hid ((HBEL2.out.alloc (HBEL2.out.size) (.cells (Pg.vs Pg.zeros).toArray 125)).trans (Rw.below_grown HGR.out (by simp; have := HBEL2.out.size; omega) fun q hq => by cases hq; exact Nat.le_refl _))
          clear hput hmb
          have hlk2 : (Instr.lookup 150 (.map (some w.heap.size)) (.int .i32 N) false).run Tryz.prog wb.drew = .ok (.pointer (some ⟨wa.heap.size, 0, none⟩)) wb.drew := by
            have := Pg.St.look (W := wb.drew) HST3.out hN'
            rw [HG3.out] at this
            exact this
          obtain ⟨hg1, hg2, hatg⟩ := HST3.out.at hN' HG3.out
          have hgl := hatg.lt
          obtain ⟨y, hy⟩ : ∃ y, (Pg.vs (Pg.blk (Pg.last (L.take k)) N))[M]? = some y := ⟨_, List.getElem?_eq_getElem (by unfold Pg.vs; rw [List.length_map, Pg.blk_len]; exact hM')⟩
          have e0 := hatg.cell M hy
          have e1 := hatg.frozen M
          have d0 := HQ3.out.cell 0 rfl
          have d1 := HQ3.out.cell 1 rfl
          have hql := HQ3.out.lt
          have HATG := Lib.hid hatg
          clear hlk hatg hy c0 c1
          go_region
          go_wp2_with fail
          exact ⟨⟨k + 1, _, by omega, by go_num, (HST3.out.store (hi := _) hN' HG3.out x2 HSETS.out HOTHER.out).more (by simp [World.size_setCell]), (HBEL3.out.setCell (p := ⟨wa.heap.size, M, none⟩) hg1 _).drew⟩, by simp [intOf]; omega⟩
        · rw [hG] at hlk
          replace hlk : (Instr.lookup 150 (.map (some w.heap.size)) (.int .i32 N) false).run Tryz.prog wa = .ok (.pointer (some ⟨g, 0, none⟩)) wa := hlk
          have HST3 := HST2
          have HG3 := Lib.hid hG
          have HQ3 := HAT2
          have HBEL3 := HBEL2
          clear hG
          go_upto_region 9 with (fail)
          have hlk2 : (Instr.lookup 150 (.map (some w.heap.size)) (.int .i32 N) false).run Tryz.prog wa.drew = .ok (.pointer (some ⟨g, 0, none⟩)) wa.drew := by
            have := Pg.St.look (W := wa.drew) HST3.out hN'
            rw [HG3.out] at this
            exact this
          obtain ⟨hg1, hg2, hatg⟩ := HST3.out.at hN' HG3.out
          have hgl := hatg.lt
          obtain ⟨y, hy⟩ : ∃ y, (Pg.vs (Pg.blk (Pg.last (L.take k)) N))[M]? = some y := ⟨_, List.getElem?_eq_getElem (by unfold Pg.vs; rw [List.length_map, Pg.blk_len]; exact hM')⟩
          have e0 := hatg.cell M hy
          have e1 := hatg.frozen M
          have d0 := HQ3.out.cell 0 rfl
          have d1 := HQ3.out.cell 1 rfl
          have hql := HQ3.out.lt
          have HATG := Lib.hid hatg
          clear hlk hatg hy c0 c1 hq
          go_region
          go_wp2_with fail
          exact ⟨⟨k + 1, _, by omega, by go_num, (HST3.out.store (hi := _) hN' HG3.out x2 HSETS.out HOTHER.out).more (by have := HSZA.out; simp [World.size_setCell]; omega), (HBEL3.out.setCell (p := ⟨g, M, none⟩) hg1 _).drew⟩, by simp [intOf]; omega⟩
      · rw [decide_eq_false hc] at hI
        have HI := Lib.hid hI
        have hturn : ∀ m, m < 4352 → Pg.blk (Pg.last (L.take (k + 1))) m = Pg.blk (Pg.last (L.take k)) m := fun m hm => by rw [HTK.out]; exact Pg.blk_skip _ _ (decide_eq_false hc) hm
        have HTURN := Lib.hid hturn
        clear hI hturn
        go_wp2_with fail
        refine HI.out.mono ?_
        rintro e w5 ⟨rfl, rfl⟩
        go_wp2_with fail
        exact ⟨⟨k + 1, G, by omega, by go_num, (HST2.out.more (by rw [HSZA.out]; omega)).turn HTURN.out, HBEL2.out⟩, by simp [intOf]; omega⟩
    · obtain rfl : n = k := by omega
      rw [List.take_of_length_le (by rw [HN.out]; exact Nat.le_refl _)] at hst
      obtain ⟨w2, rfl⟩ : ∃ w2 : World, w2 = wr := ⟨_, rfl⟩
      obtain ⟨f, hf⟩ : ∃ f, Pg.last L = f := ⟨_, rfl⟩
      rw [hf] at hst
      have hu16 : ∀ m, Pg.u16 (Pg.blk f m) := fun m => by rw [← hf]; exact Pg.blk_u16 (fun x hx => (HOKL.out x hx).2.2) m
      have HF := Lib.hid hf
      have HU := Lib.hid hu16
      have HST2 := Lib.hid hst
      have HBEL2 := Lib.hid hbel
      have hmb := hst.lt
      have hrs := Pg.runS w2 Pg.zeros List.length_replicate
      obtain ⟨w3, hw3⟩ : ∃ w3, w2.alloc (.cells (Pg.vs Pg.zeros).toArray 125) = w3 := ⟨_, rfl⟩
      have hown3 : w3.ownsRow w2.heap.size 125 256 (.slice (some ⟨w2.heap.size, 0, none⟩) 1 1) 1 (Pg.vs Pg.zeros) := by
        rw [← hw3]
        exact ⟨by unfold Pg.vs Pg.zeros; simp, .inr ⟨_, 1, (Pg.vs Pg.zeros).toArray, rfl, Nat.le_refl _, heap_alloc_new w2 _, Nat.le_refl _, by decide, by unfold Pg.vs Pg.zeros; simp, by unfold Pg.vs Pg.zeros; simp⟩⟩
      have hb3 : Below w2.heap.size w2 w3 := by rw [← hw3]; exact (Below.refl _ _).alloc (Nat.le_refl _) _
      have hz3 : w3.heap.size = w2.heap.size + 1 := by rw [← hw3]; simp
      rw [hw3] at hrs
      obtain ⟨arr, harr⟩ : ∃ arr, (Pg.vs (List.replicate 4352 0) ++ [Value.slice (some ⟨w2.heap.size, 0, none⟩) 1 1]).toArray = arr := ⟨_, rfl⟩
      have hrp := Pg.runP w3 ⟨w2.heap.size, 0, none⟩
      rw [harr] at hrp
      obtain ⟨w4, hw4⟩ : ∃ w4, w3.alloc (.cells arr 129) = w4 := ⟨_, rfl⟩
      have hat4 : Rw.At w4 w3.heap.size 129 (Pg.vs (Pg.idxZ f 0) ++ [.slice (some ⟨w2.heap.size, 0, none⟩) 1 1]) := by
        rw [← hw4, ← harr]
        exact Rw.At.new w3 129 _
      have hb4 : Below w3.heap.size w3 w4 := by rw [← hw4]; exact (Below.refl _ _).alloc (Nat.le_refl _) _
      have hz4 : w4.heap.size = w3.heap.size + 1 := by rw [← hw4]; simp
      obtain ⟨w6, hput, hpl6, hgr6⟩ := Pg.Pl.made w4 0
      have hb6 : Below w4.heap.size w4 w6 := ((Below.refl _ _).alloc (Nat.le_refl _) _).trans (Rw.below_grown hgr6 (by simp) fun q hq => by cases hq; exact Nat.le_refl _)
      have hb36 : Below w3.heap.size w3 w6 := hb4.trans (hb6.mono hb4.size)
      have hb26 : Below w2.heap.size w2 w6 := hb3.trans (hb36.mono hb3.size)
      have HST6 := Lib.hid (hst.below hb26 hmb (Nat.le_refl _))
      have HAT6 := Lib.hid (hat4.below hb6)
      have HOWN6 := Lib.hid (own_below hown3 hb36 (Nat.le_refl _))
      have HPL6 := Lib.hid hpl6
      have HB6 := Lib.hid (HBEL2.out.trans (hb26.mono HBEL2.out.size))
      have HW3 := Lib.hid hw3
      have HW4 := Lib.hid hw4
      have HPG : Hid (w2.heap.size < w3.heap.size ∧ w3.heap.size < w4.heap.size ∧ w.heap.size < w2.heap.size) := Lib.hid ⟨by omega, by omega, hmb⟩
      have hmm := @run_makeMap Tryz.prog
      clear hst hbel hf hu16 hown3 hb3 harr hat4 hb4 hpl6 hgr6 hb6 hb36 hb26 hw3 hw4 hlt hz3 hz4 hmb
      go_upto_region 11 with (fail)
      go_step
      refine Pg.wpList_exec rfl _ (Pg.exec_build 125 rfl _ (Pg.runZ _)) ?_
      refine Pg.wpList_exec rfl _ (Pg.exec_slice1 127 1 0 _ rfl (.agg (Pg.vs Pg.zeros).toArray) rfl _ hrs) ?_
      refine Pg.wpList_exec rfl _ (Pg.exec_build1 129 1 _ rfl (.slice (some ⟨w2.heap.size, 0, none⟩) 1 1) rfl _ hrp) ?_
      clear hrs hrp
      go_upto_region 12 with (fail)
      rw [HW4.out]
      go_upto_region 13 with (first | (refine Pg.wpList_exec rfl _ (Pg.exec_build 125 rfl _ (Pg.runZ _)) ?_) | fail)
      clear hmm hput HW3 HW4
      have HAP : Hid (Pg.bls f 0 = [Pg.zeros]) := Lib.hid rfl
      go_wp2_with fail
      go_loopw [53] (fun i wr => ∃ (m : Nat) (v : Value), m ≤ 4352 ∧ i = .int .i64 m ∧ Pg.St w.heap.size w2.heap.size wr w.heap.size f G ∧ Pg.Pl wr w4.heap.size (Pg.bls f m) ∧ Rw.At wr w3.heap.size 129 (Pg.vs (Pg.idxZ f m) ++ [v]) ∧ wr.ownsRow w2.heap.size 125 256 v (Pg.bls f m).length (Pg.vs (Pg.bls f m).flatten) ∧ Below w.heap.size w wr) (fun i _ => 4352 - (intOf i).toNat)
      case atStart => exact ⟨0, _, Nat.zero_le _, rfl, HST6.out, HPL6.out, HAT6.out, by rw [HAP.out]; simpa using HOWN6.out, HB6.out⟩
      case round =>
        obtain ⟨m, v, hm, rfl, hst, hpl, hat, hown, hbel⟩ := hrel
        clear HST HBM HS HST2 HBEL2 HST6 HPL6 HAT6 HOWN6 HB6
        by_cases hlt : m < 4352
        · have mI : (m : Int) < 4352 := by omega
          have m0 : (0 : Int) ≤ m := by omega
          have hw32 : IntKind.i32.wrap (m : Int) = m := by rw [IntKind.wrap_i32]; omega
          have hlk := hst.look hlt
          have HSTR := Lib.hid hst
          have HPL := Lib.hid hpl
          have HAT := Lib.hid hat
          have HOWN := Lib.hid hown
          have HBEL := Lib.hid hbel
          have hpgl := hat.lt
          have hbll := Pg.bls_len f m
          clear hst hpl hat hown hbel
          rcases hG : G m with _ | g
          · rw [hG] at hlk
            replace hlk : (Instr.lookup 150 (.map (some w.heap.size)) (.int .i32 m) false).run Tryz.prog wr = .ok (.pointer none) wr := hlk
            obtain ⟨s1, s2⟩ := Pg.idxZ_skip f hlt (HSTR.out.none hlt hG)
            have S1 := Lib.hid s1
            have S2 := Lib.hid s2
            clear s1 s2 hG
            go_wp2_with fail
            exact ⟨⟨m + 1, v, by omega, by go_num, HSTR.out, by rw [S1.out]; exact HPL.out, by rw [S2.out]; exact HAT.out, by rw [S1.out]; exact HOWN.out, HBEL.out⟩, by simp [intOf]; omega⟩
          · rw [hG] at hlk
            replace hlk : (Instr.lookup 150 (.map (some w.heap.size)) (.int .i32 m) false).run Tryz.prog wr = .ok (.pointer (some ⟨g, 0, none⟩)) wr := hlk
            have hatg := (HSTR.out.at hlt hG).2.2
            have hgl := hatg.lt
            have hgB := (HSTR.out.at hlt hG).2.1
            have HLD := Lib.hid (Pg.At.load hatg (Pg.blk_len f m))
            have HATG := Lib.hid hatg
            have hlk2 := HPL.out.look (HU.out m)
            have HBLS : Hid (Pg.bls f (m + 1) = Pg.add (Pg.bls f m) (Pg.blk f m)) := Lib.hid rfl
            have HSET := Lib.hid (Pg.idxZ_set f hlt)
            obtain ⟨old, hold⟩ : ∃ old, (Pg.vs (Pg.idxZ f m))[m]? = some old := ⟨_, List.getElem?_eq_getElem (by unfold Pg.vs; rw [List.length_map, Pg.idxZ_len f (by omega)]; exact hlt)⟩
            have HOLD := Lib.hid hold
            clear hG hatg hold
            by_cases hmem : Pg.blk f m ∈ Pg.bls f m
            · have HADD := Lib.hid (Pg.add_there hmem)
              have hpl2 : Pg.place (Pg.bls f m) (Pg.blk f m) = some (Pg.at (Pg.bls f m) (Pg.blk f m)) := if_pos hmem
              have hql := Pg.at_lt hmem
              have HATQ : Hid (Pg.at (Pg.bls f (m + 1)) (Pg.blk f m) = Pg.at (Pg.bls f m) (Pg.blk f m)) := Lib.hid (by rw [HBLS.out, HADD.out])
              obtain ⟨q, hq⟩ : ∃ q, Pg.at (Pg.bls f m) (Pg.blk f m) = q := ⟨_, rfl⟩
              rw [hpl2, hq] at hlk2
              rw [hq] at hql HATQ
              replace hlk2 : (Instr.lookup 152 (.map (some w4.heap.size)) (.agg (Pg.vs (Pg.blk f m)).toArray) true).run Tryz.prog wr = .ok (.tuple #[.int .i64 q, .bool true]) wr := hlk2
              have e16 : IntKind.u16.wrap (q : Int) = q := by rw [IntKind.wrap_u16]; omega
              have z0 := Pg.cell_at HAT.out HOLD.out
              have z1 := HAT.out.frozen m
              have HQL := Lib.hid hql
              clear hmem hpl2 hq hql
              go_wp2_with (first | (refine Pg.wpList_load rfl 125 _ rfl _ _ rfl HLD.out ?_) | fail)
              have hb : Below w2.heap.size wr (wr.setCell ⟨w3.heap.size, m, none⟩ (.int .u16 q)) := (Below.refl _ _).setCell (p := ⟨w3.heap.size, m, none⟩) (Nat.le_of_lt HPG.out.1) _
              refine ⟨⟨m + 1, v, by omega, by go_num, HSTR.out.below hb HPG.out.2.2 (Nat.le_refl _), ?_, ?_, ?_, HBEL.out.trans (hb.mono (Nat.le_of_lt HPG.out.2.2))⟩, by simp [intOf]; omega⟩
              · rw [HBLS.out, HADD.out]
                exact HPL.out.grown (Rw.grown_set w3.heap.size m _) (by have := HPG.out.2.1; simp; omega)
              · rw [HSET.out, HATQ.out]
                have := HAT.out.set m (.int .u16 q)
                rw [List.set_append_left _ _ (by unfold Pg.vs; rw [List.length_map, Pg.idxZ_len f (by omega)]; exact hlt)] at this
                rw [show Pg.vs ((Pg.idxZ f m).set m (q : Int)) = (Pg.vs (Pg.idxZ f m)).set m (.int .u16 q) by unfold Pg.vs; rw [List.map_set]]
                exact this
              · rw [HBLS.out, HADD.out]
                refine HOWN.out.kept (Rw.grown_set w3.heap.size m _) (.inr fun e => ?_)
                exact Rw.own_not HOWN.out (by decide) _ e _ _ HAT.out
            · have HADD := Lib.hid (Pg.add_new hmem)
              have hpl2 : Pg.place (Pg.bls f m) (Pg.blk f m) = none := if_neg hmem
              have HATQ : Hid (Pg.at (Pg.bls f (m + 1)) (Pg.blk f m) = (Pg.bls f m).length) := Lib.hid (by rw [HBLS.out, HADD.out]; unfold Pg.at; rw [List.idxOf_append, if_neg hmem]; simp)
              have HNMEM := Lib.hid hmem
              rw [hpl2] at hlk2
              obtain ⟨A2, c2, rfl⟩ := own_form HOWN.out
              obtain ⟨ln, hln⟩ : ∃ ln, (Pg.bls f m).length = ln := ⟨_, rfl⟩
              rw [hln] at HOWN HATQ hbll HAT
              replace hlk2 : (Instr.lookup 152 (.map (some w4.heap.size)) (.agg (Pg.vs (Pg.blk f m)).toArray) true).run Tryz.prog wr = .ok (.tuple #[.int .i64 0, .bool false]) wr := hlk2
              obtain ⟨w5, hput, hpl5, hgr5⟩ := HPL.out.put (HU.out m) hmem
              rw [hln] at hput
              rw [← HBLS.out] at hpl5
              have z1 := Pg.cell_last HAT.out (n := 4352) (by unfold Pg.vs; rw [List.length_map, Pg.idxZ_len f (by omega)])
              have hb5 : Below w2.heap.size wr w5 := Rw.below_grown hgr5 (by have := HPG.out.1; omega) fun q hq => by cases hq; have := HPG.out; omega
              have hpgpb : some w4.heap.size ≠ some w3.heap.size := by have := HPG.out.2.1; simp; omega
              have hat5 := HAT.out.grown hgr5 hpgpb
              have hown5 := HOWN.out.kept hgr5 (.inr (Pg.own_notmap HOWN.out HPL.out))
              have hatg5 := HATG.out.below' hb5 hgB
              have hld5 := Pg.At.load (w := w5.drew) hatg5 (Pg.blk_len f m)
              have hrs5 := Pg.runS w5.drew (Pg.blk f m) (Pg.blk_len f m)
              have hpg5 := hat5.lt
              obtain ⟨v8, w8, happ, hown8, hgr8⟩ := Pg.run_more w2.heap.size w5.drew _ ln _ (Pg.blk f m) (Pg.blk_len f m) hown5 (by have := HPG.out.1; show w2.heap.size ≤ w5.heap.size; omega) (by omega) 127
              obtain ⟨A8, c8, rfl⟩ := own_form hown8
              have hnp : (Value.slice A2 ln c2).ownBlock ≠ some w3.heap.size := fun e => Rw.own_not hown5 (by decide) _ e _ _ hat5
              have hat8 := Rw.At.grown (w := w5.drew) hat5 hgr8 hnp
              have hb8 : Below w2.heap.size wr w8 := hb5.drew.trans (Rw.below_grown (w := w5.drew) hgr8 (by have := HPG.out.1; show w2.heap.size ≤ w5.heap.size; omega) fun q hq => (hown5.lt q hq).1)
              have d0 := Pg.cell_last hat5 (n := 4352) (by unfold Pg.vs; rw [List.length_map, Pg.idxZ_len f (by omega)])
              have hat7 := hat5.alloc (.cells (Pg.vs (Pg.blk f m)).toArray 125)
              have h4a := Pg.run_load1 w5.drew w3.heap.size 4352 (.slice A2 ln c2) d0
              have h4b := Pg.run_load1 (w5.drew.alloc (.cells (Pg.vs (Pg.blk f m)).toArray 125)) w3.heap.size 4352 (.slice A2 ln c2) (Pg.cell_last (Rw.At.alloc (w := w5.drew) hat5 _) (n := 4352) (by unfold Pg.vs; rw [List.length_map, Pg.idxZ_len f (by omega)]))
              have f0 := Pg.cell_last hat8 (n := 4352) (by unfold Pg.vs; rw [List.length_map, Pg.idxZ_len f (by omega)])
              have f1 := hat8.frozen 4352
              have hpl8 := Pg.Pl.grown (W := w5.drew) hpl5 hgr8 (fun e => Pg.own_notmap hown5 hpl5 e.symm)
              have HAT8 := Lib.hid hat8
              have HOWN8 := Lib.hid hown8
              have HPL8 := Lib.hid hpl8
              have HB8 := Lib.hid hb8
              have HLN := Lib.hid hln
              have e16 : IntKind.u16.wrap (ln : Int) = ln := by rw [IntKind.wrap_u16]; omega
              have hfz := (hat8.set 4352 (.slice A8 (ln + 1) c8))
              clear hmem hpl2 hpl5 hgr5 hb5 hat5 hown5 hatg5 hat7 hown8 hgr8 hb8 hat8 hpl8 hln hnp hpgpb
              go_upto_region 22 with (first | (refine Pg.wpList_load rfl 125 _ rfl _ _ rfl HLD.out ?_) | fail)
              clear hlk hlk2 hput z1
              refine wp_region_any (by kernel_rfl) ?_
              change wpAny _ _ _ _ 13 _ _ (World.drew _)
              with_reducible refine Pg.take 0 (.move (.tmp 7)) (some 82) (71) (.pointer (some ⟨w3.heap.size, 0, none⟩)) (by kernel_rfl) (by kernel_rfl) (by kernel_rfl) (by kernel_rfl) (by intro _ _ _ h; with_unfolding_all exact h) (fun o h w => Pg.exec_move _ h _ (by kernel_rfl)) ?_
              with_reducible refine Pg.take 1 (.move (.tmp 7)) (some 83) (71) (.pointer (some ⟨w3.heap.size, 0, none⟩)) (by kernel_rfl) (by kernel_rfl) (by kernel_rfl) (by kernel_rfl) (by intro _ _ _ h; with_unfolding_all exact h) (fun o h w => Pg.exec_move _ h _ (by kernel_rfl)) ?_
              with_reducible refine Pg.take 2 (.nilCheck (.tmp 83)) (some 84) (0) (.pointer (some ⟨w3.heap.size, 0, none⟩)) (by kernel_rfl) (by kernel_rfl) (by kernel_rfl) (by kernel_rfl) (by intro _ _ _ h; with_unfolding_all exact h) (fun o h w => Pg.exec_nil _ h _ (by kernel_rfl)) ?_
              with_reducible refine Pg.take 3 (.fieldAddr 129 (.tmp 84) 1) (some 85) (0) (.pointer (some ⟨w3.heap.size, 4352, none⟩)) (by kernel_rfl) (by kernel_rfl) (by kernel_rfl) (by kernel_rfl) (by intro _ _ _ h; with_unfolding_all exact h) (fun o h w => Pg.exec_field _ _ _ h (.pointer (some ⟨w3.heap.size, 0, none⟩)) (by kernel_rfl) _ (Pg.run_field _ _)) ?_
              with_reducible refine Pg.take 5 (.move (.tmp 10)) (some 87) (151) (.pointer (some ⟨g, 0, none⟩)) (by kernel_rfl) (by kernel_rfl) (by kernel_rfl) (by kernel_rfl) (by intro _ _ _ h; with_unfolding_all exact h) (fun o h w => Pg.exec_move _ h _ (by kernel_rfl)) ?_
              with_reducible refine Pg.take 6 (.nilCheck (.tmp 87)) (some 88) (0) (.pointer (some ⟨g, 0, none⟩)) (by kernel_rfl) (by kernel_rfl) (by kernel_rfl) (by kernel_rfl) (by intro _ _ _ h; with_unfolding_all exact h) (fun o h w => Pg.exec_nil _ h _ (by kernel_rfl)) ?_
              refine wpAny_ready (rs := [4, 7]) (by kernel_rfl) (by simp) ?_
              with_reducible refine Pg.branch (.load 127 (.tmp 85)) (some 86) (127) (.slice A2 ln c2) w5.drew (by kernel_rfl) (fun o h ht => Pg.exec_load _ _ h (.pointer (some ⟨w3.heap.size, 4352, none⟩)) (by kernel_rfl) _ h4a) ?_ ?_
              · refine wpAny_ready (rs := [7]) (by kernel_rfl) (by simp) ?_
                with_reducible refine Pg.branch (.load 125 (.tmp 88)) (some 89) (125) (.agg (Pg.vs (Pg.blk f m)).toArray) _ (by kernel_rfl) (fun o h ht => Pg.exec_load _ _ h (.pointer (some ⟨g, 0, none⟩)) (by kernel_rfl) _ hld5) ?_ ?_
                · refine wpAny_ready (rs := [8]) (by kernel_rfl) (by simp) ?_
                  with_reducible refine Pg.branch (.buildSlice 127 1 #[(0, .tmp 89)]) (some 90) (127) (.slice (some ⟨w5.drew.heap.size, 0, none⟩) 1 1) _ (by kernel_rfl) (fun o h ht => Pg.exec_slice1 _ _ _ _ h (.agg (Pg.vs (Pg.blk f m)).toArray) (by kernel_rfl) _ hrs5) ?_ ?_
                  · refine wpAny_ready (rs := [9]) (by kernel_rfl) (by simp) ?_
                    with_reducible refine Pg.branch (.call { callee := .builtin .append, args := #[.tmp 86, .tmp 90], argTypes := #[127, 127] }) (some 91) (127) _ _ (by kernel_rfl) (fun o h ht => Pg.exec_append _ _ _ h (.slice A2 ln c2) (.slice (some ⟨w5.drew.heap.size, 0, none⟩) 1 1) (by kernel_rfl) (by kernel_rfl) _ (by rw [ht]; exact happ)) ?_ ?_
                    · with_reducible refine Pg.take 10 (.nilCheck (.tmp 82)) (some 92) (0) (.pointer (some ⟨w3.heap.size, 0, none⟩)) (by kernel_rfl) (by kernel_rfl) (by kernel_rfl) (by kernel_rfl) (by intro _ _ _ h; with_unfolding_all exact h) (fun o h w => Pg.exec_nil _ h _ (by kernel_rfl)) ?_
                      with_reducible refine Pg.take 11 (.fieldAddr 129 (.tmp 92) 1) (some 93) (0) (.pointer (some ⟨w3.heap.size, 4352, none⟩)) (by kernel_rfl) (by kernel_rfl) (by kernel_rfl) (by kernel_rfl) (by intro _ _ _ h; with_unfolding_all exact h) (fun o h w => Pg.exec_field _ _ _ h (.pointer (some ⟨w3.heap.size, 0, none⟩)) (by kernel_rfl) _ (Pg.run_field _ _)) ?_
                      refine wpAny_ready (rs := [12]) (by kernel_rfl) (by simp) ?_
                      with_reducible refine Pg.branchS (.store 127 (.tmp 93) (.tmp 91)) _ (by kernel_rfl) (fun o h => Pg.exec_store _ _ _ h (.pointer (some ⟨w3.heap.size, 4352, none⟩)) (.slice A8 (ln + 1) c8) (by kernel_rfl) (by kernel_rfl) (Pg.run_store1 _ _ _ _ _ _ _ f0 f1)) ?_ ?_
                      · refine wpAny_done (by kernel_rfl) ?_ _
                        have hat9 : Rw.At (w8.setCell ⟨w3.heap.size, 4352, none⟩ (.slice A8 (ln + 1) c8)) w3.heap.size 129 (Pg.vs (Pg.idxZ f m) ++ [.slice A8 (ln + 1) c8]) := by
                          have hl : (Pg.vs (Pg.idxZ f m)).length = 4352 := by unfold Pg.vs; rw [List.length_map, Pg.idxZ_len f (by omega)]
                          have := HAT8.out.set 4352 (.slice A8 (ln + 1) c8)
                          rw [List.set_append_right _ _ (by rw [hl]; exact Nat.le_refl _), hl, Nat.sub_self] at this
                          exact this
                        have z0 := Pg.cell_at hat9 HOLD.out
                        have z1 := hat9.frozen m
                        have hl9 := hat9.lt
                        have HAT9 := Lib.hid hat9
                        clear hat9 f0 f1 hld5 hrs5 h4a h4b happ
                        go_wp2_with fail
                        have hb9 : Below w2.heap.size wr ((w8.setCell ⟨w3.heap.size, 4352, none⟩ (.slice A8 (ln + 1) c8)).setCell ⟨w3.heap.size, m, none⟩ (.int .u16 ln)) := (HB8.out.setCell (p := ⟨w3.heap.size, 4352, none⟩) (Nat.le_of_lt HPG.out.1) _).setCell (p := ⟨w3.heap.size, m, none⟩) (Nat.le_of_lt HPG.out.1) _
                        have hne8 : (Value.slice A8 (ln + 1) c8).ownBlock ≠ some w3.heap.size := fun e => Rw.own_not HOWN8.out (by decide) _ e _ _ HAT8.out
                        refine ⟨⟨m + 1, .slice A8 (ln + 1) c8, by omega, by go_num, HSTR.out.below hb9 HPG.out.2.2 (Nat.le_refl _), ?_, ?_, ?_, HBEL.out.trans (hb9.mono (Nat.le_of_lt HPG.out.2.2))⟩, by simp [intOf]; omega⟩
                        · exact (HPL8.out.grown (Rw.grown_set w3.heap.size 4352 _) (by have := HPG.out.2.1; simp; omega)).grown (Rw.grown_set w3.heap.size m _) (by have := HPG.out.2.1; simp; omega)
                        · rw [HSET.out, HATQ.out]
                          have := HAT9.out.set m (.int .u16 ln)
                          rw [List.set_append_left _ _ (by unfold Pg.vs; rw [List.length_map, Pg.idxZ_len f (by omega)]; exact hlt)] at this
                          rw [show Pg.vs ((Pg.idxZ f m).set m (ln : Int)) = (Pg.vs (Pg.idxZ f m)).set m (.int .u16 ln) by unfold Pg.vs; rw [List.map_set]]
                          exact this
                        · rw [HBLS.out, HADD.out, List.length_append, HLN.out, List.flatten_append, show Pg.vs ((Pg.bls f m).flatten ++ [Pg.blk f m].flatten) = Pg.vs (Pg.bls f m).flatten ++ Pg.vs (Pg.blk f m) by unfold Pg.vs; simp]
                          exact (HOWN8.out.kept (Rw.grown_set w3.heap.size 4352 _) (.inr hne8)).kept (Rw.grown_set w3.heap.size m _) (.inr hne8)
                      exact AllReady.nil
                    exact AllReady.nil
                  exact AllReady.nil
                exact AllReady.nil
              with_reducible refine Pg.branch (.load 125 (.tmp 88)) (some 89) (125) (.agg (Pg.vs (Pg.blk f m)).toArray) _ (by kernel_rfl) (fun o h ht => Pg.exec_load _ _ h (.pointer (some ⟨g, 0, none⟩)) (by kernel_rfl) _ hld5) ?_ ?_
              · refine wpAny_ready (rs := [4, 8]) (by kernel_rfl) (by simp) ?_
                with_reducible refine Pg.branch (.load 127 (.tmp 85)) (some 86) (127) (.slice A2 ln c2) w5.drew (by kernel_rfl) (fun o h ht => Pg.exec_load _ _ h (.pointer (some ⟨w3.heap.size, 4352, none⟩)) (by kernel_rfl) _ h4a) ?_ ?_
                · refine wpAny_ready (rs := [8]) (by kernel_rfl) (by simp) ?_
                  with_reducible refine Pg.branch (.buildSlice 127 1 #[(0, .tmp 89)]) (some 90) (127) (.slice (some ⟨w5.drew.heap.size, 0, none⟩) 1 1) _ (by kernel_rfl) (fun o h ht => Pg.exec_slice1 _ _ _ _ h (.agg (Pg.vs (Pg.blk f m)).toArray) (by kernel_rfl) _ hrs5) ?_ ?_
                  · refine wpAny_ready (rs := [9]) (by kernel_rfl) (by simp) ?_
                    with_reducible refine Pg.branch (.call { callee := .builtin .append, args := #[.tmp 86, .tmp 90], argTypes := #[127, 127] }) (some 91) (127) _ _ (by kernel_rfl) (fun o h ht => Pg.exec_append _ _ _ h (.slice A2 ln c2) (.slice (some ⟨w5.drew.heap.size, 0, none⟩) 1 1) (by kernel_rfl) (by kernel_rfl) _ (by rw [ht]; exact happ)) ?_ ?_
                    · with_reducible refine Pg.take 10 (.nilCheck (.tmp 82)) (some 92) (0) (.pointer (some ⟨w3.heap.size, 0, none⟩)) (by kernel_rfl) (by kernel_rfl) (by kernel_rfl) (by kernel_rfl) (by intro _ _ _ h; with_unfolding_all exact h) (fun o h w => Pg.exec_nil _ h _ (by kernel_rfl)) ?_
                      with_reducible refine Pg.take 11 (.fieldAddr 129 (.tmp 92) 1) (some 93) (0) (.pointer (some ⟨w3.heap.size, 4352, none⟩)) (by kernel_rfl) (by kernel_rfl) (by kernel_rfl) (by kernel_rfl) (by intro _ _ _ h; with_unfolding_all exact h) (fun o h w => Pg.exec_field _ _ _ h (.pointer (some ⟨w3.heap.size, 0, none⟩)) (by kernel_rfl) _ (Pg.run_field _ _)) ?_
                      refine wpAny_ready (rs := [12]) (by kernel_rfl) (by simp) ?_
                      with_reducible refine Pg.branchS (.store 127 (.tmp 93) (.tmp 91)) _ (by kernel_rfl) (fun o h => Pg.exec_store _ _ _ h (.pointer (some ⟨w3.heap.size, 4352, none⟩)) (.slice A8 (ln + 1) c8) (by kernel_rfl) (by kernel_rfl) (Pg.run_store1 _ _ _ _ _ _ _ f0 f1)) ?_ ?_
                      · refine wpAny_done (by kernel_rfl) ?_ _
                        have hat9 : Rw.At (w8.setCell ⟨w3.heap.size, 4352, none⟩ (.slice A8 (ln + 1) c8)) w3.heap.size 129 (Pg.vs (Pg.idxZ f m) ++ [.slice A8 (ln + 1) c8]) := by
                          have hl : (Pg.vs (Pg.idxZ f m)).length = 4352 := by unfold Pg.vs; rw [List.length_map, Pg.idxZ_len f (by omega)]
                          have := HAT8.out.set 4352 (.slice A8 (ln + 1) c8)
                          rw [List.set_append_right _ _ (by rw [hl]; exact Nat.le_refl _), hl, Nat.sub_self] at this
                          exact this
                        have z0 := Pg.cell_at hat9 HOLD.out
                        have z1 := hat9.frozen m
                        have hl9 := hat9.lt
                        have HAT9 := Lib.hid hat9
                        clear hat9 f0 f1 hld5 hrs5 h4a h4b happ
                        go_wp2_with fail
                        have hb9 : Below w2.heap.size wr ((w8.setCell ⟨w3.heap.size, 4352, none⟩ (.slice A8 (ln + 1) c8)).setCell ⟨w3.heap.size, m, none⟩ (.int .u16 ln)) := (HB8.out.setCell (p := ⟨w3.heap.size, 4352, none⟩) (Nat.le_of_lt HPG.out.1) _).setCell (p := ⟨w3.heap.size, m, none⟩) (Nat.le_of_lt HPG.out.1) _
                        have hne8 : (Value.slice A8 (ln + 1) c8).ownBlock ≠ some w3.heap.size := fun e => Rw.own_not HOWN8.out (by decide) _ e _ _ HAT8.out
                        refine ⟨⟨m + 1, .slice A8 (ln + 1) c8, by omega, by go_num, HSTR.out.below hb9 HPG.out.2.2 (Nat.le_refl _), ?_, ?_, ?_, HBEL.out.trans (hb9.mono (Nat.le_of_lt HPG.out.2.2))⟩, by simp [intOf]; omega⟩
                        · exact (HPL8.out.grown (Rw.grown_set w3.heap.size 4352 _) (by have := HPG.out.2.1; simp; omega)).grown (Rw.grown_set w3.heap.size m _) (by have := HPG.out.2.1; simp; omega)
                        · rw [HSET.out, HATQ.out]
                          have := HAT9.out.set m (.int .u16 ln)
                          rw [List.set_append_left _ _ (by unfold Pg.vs; rw [List.length_map, Pg.idxZ_len f (by omega)]; exact hlt)] at this
                          rw [show Pg.vs ((Pg.idxZ f m).set m (ln : Int)) = (Pg.vs (Pg.idxZ f m)).set m (.int .u16 ln) by unfold Pg.vs; rw [List.map_set]]
                          exact this
                        · rw [HBLS.out, HADD.out, List.length_append, HLN.out, List.flatten_append, show Pg.vs ((Pg.bls f m).flatten ++ [Pg.blk f m].flatten) = Pg.vs (Pg.bls f m).flatten ++ Pg.vs (Pg.blk f m) by unfold Pg.vs; simp]
                          exact (HOWN8.out.kept (Rw.grown_set w3.heap.size 4352 _) (.inr hne8)).kept (Rw.grown_set w3.heap.size m _) (.inr hne8)
                      exact AllReady.nil
                    exact AllReady.nil
                  exact AllReady.nil
                with_reducible refine Pg.branch (.buildSlice 127 1 #[(0, .tmp 89)]) (some 90) (127) (.slice (some ⟨w5.drew.heap.size, 0, none⟩) 1 1) _ (by kernel_rfl) (fun o h ht => Pg.exec_slice1 _ _ _ _ h (.agg (Pg.vs (Pg.blk f m)).toArray) (by kernel_rfl) _ hrs5) ?_ ?_
                · refine wpAny_ready (rs := [4]) (by kernel_rfl) (by simp) ?_
                  with_reducible refine Pg.branch (.load 127 (.tmp 85)) (some 86) (127) (.slice A2 ln c2) _ (by kernel_rfl) (fun o h ht => Pg.exec_load _ _ h (.pointer (some ⟨w3.heap.size, 4352, none⟩)) (by kernel_rfl) _ h4b) ?_ ?_
                  · refine wpAny_ready (rs := [9]) (by kernel_rfl) (by simp) ?_
                    with_reducible refine Pg.branch (.call { callee := .builtin .append, args := #[.tmp 86, .tmp 90], argTypes := #[127, 127] }) (some 91) (127) _ _ (by kernel_rfl) (fun o h ht => Pg.exec_append _ _ _ h (.slice A2 ln c2) (.slice (some ⟨w5.drew.heap.size, 0, none⟩) 1 1) (by kernel_rfl) (by kernel_rfl) _ (by rw [ht]; exact happ)) ?_ ?_
                    · with_reducible refine Pg.take 10 (.nilCheck (.tmp 82)) (some 92) (0) (.pointer (some ⟨w3.heap.size, 0, none⟩)) (by kernel_rfl) (by kernel_rfl) (by kernel_rfl) (by kernel_rfl) (by intro _ _ _ h; with_unfolding_all exact h) (fun o h w => Pg.exec_nil _ h _ (by kernel_rfl)) ?_
                      with_reducible refine Pg.take 11 (.fieldAddr 129 (.tmp 92) 1) (some 93) (0) (.pointer (some ⟨w3.heap.size, 4352, none⟩)) (by kernel_rfl) (by kernel_rfl) (by kernel_rfl) (by kernel_rfl) (by intro _ _ _ h; with_unfolding_all exact h) (fun o h w => Pg.exec_field _ _ _ h (.pointer (some ⟨w3.heap.size, 0, none⟩)) (by kernel_rfl) _ (Pg.run_field _ _)) ?_
                      refine wpAny_ready (rs := [12]) (by kernel_rfl) (by simp) ?_
                      with_reducible refine Pg.branchS (.store 127 (.tmp 93) (.tmp 91)) _ (by kernel_rfl) (fun o h => Pg.exec_store _ _ _ h (.pointer (some ⟨w3.heap.size, 4352, none⟩)) (.slice A8 (ln + 1) c8) (by kernel_rfl) (by kernel_rfl) (Pg.run_store1 _ _ _ _ _ _ _ f0 f1)) ?_ ?_
                      · refine wpAny_done (by kernel_rfl) ?_ _
                        have hat9 : Rw.At (w8.setCell ⟨w3.heap.size, 4352, none⟩ (.slice A8 (ln + 1) c8)) w3.heap.size 129 (Pg.vs (Pg.idxZ f m) ++ [.slice A8 (ln + 1) c8]) := by
                          have hl : (Pg.vs (Pg.idxZ f m)).length = 4352 := by unfold Pg.vs; rw [List.length_map, Pg.idxZ_len f (by omega)]
                          have := HAT8.out.set 4352 (.slice A8 (ln + 1) c8)
                          rw [List.set_append_right _ _ (by rw [hl]; exact Nat.le_refl _), hl, Nat.sub_self] at this
                          exact this
                        have z0 := Pg.cell_at hat9 HOLD.out
                        have z1 := hat9.frozen m
                        have hl9 := hat9.lt
                        have HAT9 := Lib.hid hat9
                        clear hat9 f0 f1 hld5 hrs5 h4a h4b happ
                        go_wp2_with fail
                        have hb9 : Below w2.heap.size wr ((w8.setCell ⟨w3.heap.size, 4352, none⟩ (.slice A8 (ln + 1) c8)).setCell ⟨w3.heap.size, m, none⟩ (.int .u16 ln)) := (HB8.out.setCell (p := ⟨w3.heap.size, 4352, none⟩) (Nat.le_of_lt HPG.out.1) _).setCell (p := ⟨w3.heap.size, m, none⟩) (Nat.le_of_lt HPG.out.1) _
                        have hne8 : (Value.slice A8 (ln + 1) c8).ownBlock ≠ some w3.heap.size := fun e => Rw.own_not HOWN8.out (by decide) _ e _ _ HAT8.out
                        refine ⟨⟨m + 1, .slice A8 (ln + 1) c8, by omega, by go_num, HSTR.out.below hb9 HPG.out.2.2 (Nat.le_refl _), ?_, ?_, ?_, HBEL.out.trans (hb9.mono (Nat.le_of_lt HPG.out.2.2))⟩, by simp [intOf]; omega⟩
                        · exact (HPL8.out.grown (Rw.grown_set w3.heap.size 4352 _) (by have := HPG.out.2.1; simp; omega)).grown (Rw.grown_set w3.heap.size m _) (by have := HPG.out.2.1; simp; omega)
                        · rw [HSET.out, HATQ.out]
                          have := HAT9.out.set m (.int .u16 ln)
                          rw [List.set_append_left _ _ (by unfold Pg.vs; rw [List.length_map, Pg.idxZ_len f (by omega)]; exact hlt)] at this
                          rw [show Pg.vs ((Pg.idxZ f m).set m (ln : Int)) = (Pg.vs (Pg.idxZ f m)).set m (.int .u16 ln) by unfold Pg.vs; rw [List.map_set]]
                          exact this
                        · rw [HBLS.out, HADD.out, List.length_append, HLN.out, List.flatten_append, show Pg.vs ((Pg.bls f m).flatten ++ [Pg.blk f m].flatten) = Pg.vs (Pg.bls f m).flatten ++ Pg.vs (Pg.blk f m) by unfold Pg.vs; simp]
                          exact (HOWN8.out.kept (Rw.grown_set w3.heap.size 4352 _) (.inr hne8)).kept (Rw.grown_set w3.heap.size m _) (.inr hne8)
                      exact AllReady.nil
                    exact AllReady.nil
                  exact AllReady.nil
                exact AllReady.nil
              exact AllReady.nil
        · obtain rfl : m = 4352 := by omega
          obtain ⟨A2, c2, rfl⟩ := own_form hown
          have HAT := Lib.hid hat
          have HOWN := Lib.hid hown
          have HBEL := Lib.hid hbel
          clear hst hpl hat hown hbel hlt
          go_wp2_with fail
          go_ret
          refine ⟨_, rfl, ?_, HBEL.out⟩
          rw [HF.out]
          refine ⟨w3.heap.size, A2, c2, rfl, by have := HPG.out; omega, ?_, Sl.of_own HOWN.out, fun a ha => ?_⟩
          · have := HAT.out
            rw [Pg.idxZ_end] at this
            exact this
          · subst ha
            have := (HOWN.out.lt a.block rfl).1
            have := HPG.out
            omega
end Go.Proofs.YtkmfegamblmpeaaGreatDoor
