/- The table of a loaded one, by walking the text. -/
import Derived.Test.YtkmfegamblmpeaaGreatDoorUdBad
import Derived.Test.YtkmfegamblmpeaaGreatDoorMdOwn
import Derived.Test.YtkmfegamblmpeaaGreatDoorPgReg
import Derived.Test.YtkmfegamblmpeaaGreatDoorClone
namespace Go.Proofs.YtkmfegamblmpeaaGreatDoor
open Go.RowKit
set_option linter.unusedSimpArgs false
set_option linter.unusedVariables false
/-- A table of the call's own. -/
def Ud.RetTab (T : List Rw.Row) (S : List Int) (w : World) (e : Ending) (w' : World) : Prop := ∃ A c XA xc, e = .returned (.agg #[.slice A T.length c, .slice XA S.length xc]) ∧ Rw.Tab w' A T ∧ Sl w' w'.heap.size XA (Ud.ints S) ∧ Below w.heap.size w w'
set_option maxRecDepth 100000 in
set_option maxHeartbeats 4000000 in
theorem Ud.table_any (v : Value) (T : List Rw.Row) (S : List Int) (w : World) (ok : Ud.Ok T S) (h : Ud.Is w v T S) :
    Calls Tryz.prog 28 #[v] w (Ud.RetTab (Ud.keep T) S w) := by
  obtain ⟨i0, hi0, hz0, hz1, hz2⟩ := info_parts infoRow
  obtain ⟨b, A0, c0, XA, xc, pc, pp, A3, c3, mb, jb, A4, c4, A5, c5, A6, c6, es, rfl, hat, hsee, hXA, _⟩ := h.is
  have hKl : (Ud.keep T).length ≤ 10000 := Nat.le_trans (List.length_filter_le _ _) ok.len
  have hKm : ∀ r ∈ Ud.keep T, r.2.2.length ≤ 2 := fun r hr => (ok.good r (Ud.mem_keep.1 hr).1).2.2.2.1
  obtain ⟨Kt, hKt⟩ : ∃ k, Ud.keep T = k := ⟨_, rfl⟩
  rw [hKt] at hsee hat hKl hKm ⊢
  obtain ⟨n, hn⟩ : ∃ k, Kt.length = k := ⟨_, rfl⟩
  obtain ⟨xn, hxn⟩ : ∃ k, S.length = k := ⟨_, rfl⟩
  unfold Ud.RetTab
  rw [hn] at hat hKl ⊢
  rw [hxn] at hat ⊢
  have hbt : Below w.heap.size w (w.alloc (.cells #[.slice none 0 0, .slice none 0 0] 50)) := (Below.refl _ _).alloc (Nat.le_refl _) _
  obtain ⟨wa, hwa⟩ : ∃ wa, (w.alloc (.cells #[.slice none 0 0, .slice none 0 0] 50)).alloc (.cells #[.slice none 0 0, .slice XA xn xc] 50) = wa := ⟨_, rfl⟩
  have hba : Below w.heap.size w wa := by rw [← hwa]; exact hbt.alloc hbt.size _
  have hat1 : Rw.At wa w.heap.size 50 [.slice none 0 0, .slice none 0 0] := by rw [← hwa]; exact (Rw.At.new w 50 [.slice none 0 0, .slice none 0 0]).alloc _
  have hat2 : Rw.At wa (w.heap.size + 1) 50 [.slice none 0 0, .slice XA xn xc] := by
    have h := Rw.At.new (w.alloc (.cells #[.slice none 0 0, .slice none 0 0] 50)) 50 [.slice none 0 0, .slice XA xn xc]
    rw [World.size_alloc] at h
    rw [← hwa]
    exact h
  have hz : w.heap.size + 1 < wa.heap.size := hat2.lt
  have hatt := hat.below hbt
  have y1 := hatt.cell 1 rfl
  have yl := hatt.lt
  have HWA := Lib.hid hwa
  have HBA := Lib.hid hba
  have HN := Lib.hid hn
  have HXN := Lib.hid hxn
  have HSEE := Lib.hid hsee
  have HXA := Lib.hid hXA
  have HAT := Lib.hid (hat.below hba)
  have HKM := Lib.hid hKm
  have HAT1 := Lib.hid hat1
  have HAT2 := Lib.hid hat2
  clear hwa hba hn hxn hsee hXA hat hKm hat1 hat2 hKt h ok hatt hbt
  go_enter Tryz.func28, Tryz.ntmps28
  go_upto_region 2 with (fail)
  rw [HWA.out]
  clear y1 yl
  have y0 := HAT.out.cell 0 rfl
  have yl := HAT.out.lt
  go_wp2_with fail
  clear y0 yl
  go_loopw [18] (fun i wr => ∃ (j : Nat) (v : Value) (ads : List (Option Addr × Nat)), j ≤ n ∧ i = .int .i64 j ∧ Rw.At wr w.heap.size 50 [.slice none 0 0, .slice none 0 0] ∧ Rw.At wr (w.heap.size + 1) 50 [v, .slice XA xn xc] ∧
      ads.length = (Kt.take j).length ∧ wr.ownsRow (w.heap.size + 2) 99 3 v j (Rw.fl (Kt.take j) ads) ∧ Rw.Maps wr (Kt.take j) ads ∧ Below w.heap.size w wr) (fun i _ => n - (intOf i).toNat)
  case atStart => exact ⟨0, .slice none 0 0, [], Nat.zero_le _, rfl, HAT1.out, HAT2.out, rfl, World.ownsRow_nil _ _ _ _, fun i r a h => by simp at h, HBA.out⟩
  case round =>
    obtain ⟨j, v, ads, hj, rfl, ha1, ha2, hads, hown, hmaps, hbel⟩ := hrel
    have hzr : w.heap.size + 2 ≤ wr.heap.size := ha2.lt
    by_cases hlt : j < n
    · obtain ⟨r, hr⟩ : ∃ r, Kt[j]? = some r := ⟨_, List.getElem?_eq_getElem (by rw [HN.out]; exact hlt)⟩
      have hmlr := HKM.out r (List.mem_of_getElem? hr)
      obtain ⟨rb, ro, a, hA1, hb, c0', c1', c2', hsl⟩ := HSEE.out.row hr
      have c0 := ((bcell hbel).1 rb (ro + j * 3) hb).trans c0'
      have c1 := ((bcell hbel).1 rb (ro + j * 3 + 1) hb).trans c1'
      have c2 := ((bcell hbel).1 rb (ro + j * 3 + 2) hb).trans c2'
      have hbr : rb < wr.heap.size := Nat.lt_of_lt_of_le hb hbel.size
      obtain ⟨ml, hmle⟩ : ∃ k, r.2.2.length = k := ⟨_, rfl⟩
      rw [hmle] at c2 hmlr
      obtain ⟨wb, hwb⟩ : ∃ wb, wr.alloc (.cells #[.int .i32 r.1, .int .i64 r.2.1, .slice a.1 ml a.2] 99) = wb := ⟨_, rfl⟩
      have hbb : Below wr.heap.size wr wb := by rw [← hwb]; exact (Below.refl _ _).alloc (Nat.le_refl _) _
      have hat3 : Rw.At wb wr.heap.size 99 [.int .i32 r.1, .int .i64 r.2.1, .slice a.1 ml a.2] := by rw [← hwb]; exact Rw.At.new wr 99 [.int .i32 r.1, .int .i64 r.2.1, .slice a.1 ml a.2]
      obtain ⟨AV, cV, rfl⟩ := own_form hown
      have hne2 : ∀ k, (Value.slice AV j cV).ownBlock = some k → k ≠ w.heap.size + 1 := fun k hk e => by have := (hown.lt k hk).1; omega
      have hne1 : ∀ k, (Value.slice AV j cV).ownBlock = some k → k ≠ w.heap.size := fun k hk e => by have := (hown.lt k hk).1; omega
      have hne3 : ∀ k, (Value.slice AV j cV).ownBlock = some k → k ≠ wr.heap.size := fun k hk e => by have := (hown.lt k hk).2; omega
      have HNE1 := Lib.hid hne1
      have HNE2 := Lib.hid hne2
      have HNE3 := Lib.hid hne3
      have HWB := Lib.hid hwb
      have HBB := Lib.hid hbb
      have HAT3 := Lib.hid hat3
      have HA1 := Lib.hid (ha1.below hbb)
      have HA2 := Lib.hid (ha2.below hbb)
      have HADS := Lib.hid hads
      have HOWN := Lib.hid (own_below hown hbb (Nat.le_refl _))
      have HMAPS := Lib.hid (hmaps.below hbb)
      have HBEL := Lib.hid (hbel.trans (hbb.mono hbel.size))
      have HSL := Lib.hid ((hsl.below hbel (Nat.le_refl _)).below (hbb.mono hbel.size) (Nat.le_refl _))
      have HR := Lib.hid hr
      have HMLE := Lib.hid hmle
      have jI : (j : Int) < n := by omega
      have j0' : (0 : Int) ≤ j := by omega
      have hzb : w.heap.size + 2 ≤ wb.heap.size := Nat.le_trans hzr hbb.size
      subst hA1
      clear c0' c1' c2' hsl hbel ha1 ha2 hads hown hmaps hr hmle hwb hbb hat3 hne1 hne2 hne3
      go_upto_region 5 with (fail)
      rw [HWB.out]
      have e0 := Stg.Keep.cells (s := fun b => b = wr.heap.size ∨ b = w.heap.size + 1) (w := wb.drew) (HA2.out.cell 0 rfl) (.inr rfl)
      have e2 := Stg.Keep.cells (s := fun b => b = wr.heap.size ∨ b = w.heap.size + 1) (w := wb.drew) (HAT3.out.cell 0 rfl) (.inl rfl)
      have e3 := Stg.Keep.cells (s := fun b => b = wr.heap.size ∨ b = w.heap.size + 1) (w := wb.drew) (HAT3.out.cell 1 rfl) (.inl rfl)
      have e4 := Stg.Keep.cells (s := fun b => b = wr.heap.size ∨ b = w.heap.size + 1) (w := wb.drew) (HAT3.out.cell 2 rfl) (.inl rfl)
      refine Stg.wp_region (Stg.Keep fun b => b = wr.heap.size ∨ b = w.heap.size + 1) (Stg.Keep.rel _) (by kernel_rfl) (by kernel_rfl) (by kernel_rfl) ?_
      refine Stg.readW (by kernel_rfl) (by kernel_rfl) (by kernel_rfl) ?_; intro K hK; go_big_quiet_op; go_big_quiet_on
      refine Stg.read 0 (by kernel_rfl) (by kernel_rfl) (by kernel_rfl) wb.drew rfl (by kernel_rfl) ?_; intro K hK; go_big_quiet_op; go_big_quiet_on
      refine Stg.readW (by kernel_rfl) (by kernel_rfl) (by kernel_rfl) ?_; intro K hK; go_big_quiet_op; go_big_quiet_on
      refine Stg.read 0 (by kernel_rfl) (by kernel_rfl) (by kernel_rfl) wb.drew rfl (by kernel_rfl) ?_; intro K hK; go_big_quiet_op; go_big_quiet_on
      refine Stg.readW (by kernel_rfl) (by kernel_rfl) (by kernel_rfl) ?_; intro K hK; go_big_quiet_op; go_big_quiet_on
      refine Stg.read 0 (by kernel_rfl) (by kernel_rfl) (by kernel_rfl) wb.drew rfl (by kernel_rfl) ?_; intro K hK; go_big_quiet_op; go_big_quiet_on
      refine Stg.readW (by kernel_rfl) (by kernel_rfl) (by kernel_rfl) ?_; intro K hK; go_big_quiet_op; go_big_quiet_on
      refine Stg.read 0 (by kernel_rfl) (by kernel_rfl) (by kernel_rfl) wb.drew rfl (by kernel_rfl) ?_; intro K hK; go_big_quiet_op; go_big_quiet_on
      refine Stg.call 40 _ _ rfl (C.enter Tryz.func40 (by kernel_rfl) rfl) [.slice a.1 ml a.2] rfl wb.drew _ (R.clone_any a.1 ml a.2 w.heap.size r.2.2 wb.drew HMLE.out (by omega) HBEL.out.size (HSL.out.below (Below.refl _ _).drew (Nat.le_refl _))) (by kernel_rfl) rfl (by kernel_rfl) ?_
      rintro e w5 ⟨A5, c5, rfl, hown5, hb5⟩
      have hb5' : Below wb.heap.size wb w5 := (Below.refl _ _).drew.trans hb5
      refine ⟨_, rfl, Stg.Keep.of_below hb5 (by rintro q (rfl | rfl); exact HAT3.out.lt; exact HA2.out.lt), ?_⟩
      intro A' hA'; simp only [Act.put, List.setIfInBounds_toArray, List.set_cons_succ, List.set_cons_zero] at hA'; subst hA'
      have hat5 := HAT3.out.below hb5'
      have ha25 := HA2.out.below hb5'
      refine Stg.readW (by kernel_rfl) (by kernel_rfl) (by kernel_rfl) ?_; intro K hK; go_big_quiet_op; go_big_quiet_on
      refine Stg.stepW w5 (by kernel_rfl) (by kernel_rfl) rfl (by kernel_rfl) ?_; intro K hK; go_simp
      obtain ⟨w6, hw6⟩ : ∃ w6, w5.alloc (.cells #[.int .i32 r.1, .int .i64 r.2.1, .slice A5 ml c5] 99) = w6 := ⟨_, rfl⟩
      have hb6 : Below w5.heap.size w5 w6 := by rw [← hw6]; exact (Below.refl _ _).alloc (Nat.le_refl _) _
      have hsl6 : Sl w6 w6.heap.size (some ⟨w5.heap.size, 0, none⟩) [.int .i32 r.1, .int .i64 r.2.1, .slice A5 ml c5] := by rw [← hw6]; exact (Rw.At.new w5 99 [.int .i32 r.1, .int .i64 r.2.1, .slice A5 ml c5]).slt.sl
      have hb6' : Below wb.heap.size wb w6 := hb5'.trans (hb6.mono hb5'.size)
      have hat6 := hat5.below hb6
      have ha26 := ha25.below hb6
      have hbase6 := Nat.le_trans hzb hb6'.size
      have hown6 := own_below HOWN.out hb6' (Nat.le_refl _)
      rw [hw6]
      refine hK _ _ (Stg.Keep.of_below hb6 (by rintro q (rfl | rfl); exact hat5.lt; exact ha25.lt)) ?_
      intro A' hA'; subst hA'
      refine Stg.stepW w6 (by kernel_rfl) (by kernel_rfl) rfl (by kernel_rfl) ?_; intro K hK
      refine wp_appendSl _ _ _ _ rfl (w.heap.size + 2) 99 i0 _ 3 40 Tryz.underlying48 hi0 hz0 hz1 hz2 rfl (by decide) (.slice AV j cV) j _ rfl hown6 w6.heap.size (some ⟨w5.heap.size, 0, none⟩) 1 1 [.int .i32 r.1, .int .i64 r.2.1, .slice A5 ml c5] rfl rfl hsl6 (by simp [Value.oneCell']) (by simp only [maxLen]; omega) (by omega) hbase6 ?_
      intro v7 w7 hown7 hb7 hg7
      have ha27 := ha26.grown hg7 (fun e => HNE2.out _ e rfl)
      refine hK _ _ (Stg.Keep.of_grown hg7 (by rintro q (rfl | rfl); exact ⟨hat6.lt, fun e => HNE3.out _ e.symm rfl⟩; exact ⟨ha26.lt, fun e => HNE2.out _ e.symm rfl⟩)) ?_
      obtain ⟨A7, c7, rfl⟩ := own_form hown7
      intro A' hA'; simp only [Act.put, List.setIfInBounds_toArray, List.set_cons_succ, List.set_cons_zero] at hA'; subst hA'
      refine Stg.readW (by kernel_rfl) (by kernel_rfl) (by kernel_rfl) ?_; intro K hK; go_big_quiet_op; go_big_quiet_on
      have u0 := ha27.cell 0 rfl
      have u1 := ha27.frozen 0
      have u2 := ha27.lt
      refine Stg.last w7 (by kernel_rfl) (by kernel_rfl) (by kernel_rfl) rfl (by kernel_rfl) ?_; intro K hK; go_simp
      obtain ⟨w8, hw8⟩ : ∃ w8, w7.setCell ⟨w.heap.size + 1, 0, none⟩ (.slice A7 (j + 1) c7) = w8 := ⟨_, rfl⟩
      rw [hw8]
      refine hK _ _ ?_
      intro A' hA'; subst hA'
      refine Stg.nil w8 rfl ?_
      have hg8 : w7.grownBy w8 (some (w.heap.size + 1)) := by rw [← hw8]; exact Rw.grown_set _ _ _
      have hnot1 : ∀ k, (Value.slice AV j cV).ownBlock = some k → ∀ cs z, w6.heap[k]? ≠ some (.cells cs 21 z) := Rw.own_not hown6 (by decide)
      have hnot2 : ∀ k, some (w.heap.size + 1) = some k → ∀ cs z, w7.heap[k]? ≠ some (.cells cs 21 z) := fun k hk => by cases hk; exact ha27.not (by decide)
      have hm8 := ((HMAPS.out.below hb6').grown hg7 hnot1).grown hg8 hnot2
      have hs8 := ((((Slt.of_own hown5).below hb6)).grown hg7 hnot1).grown hg8 hnot2
      have hown8 := Rw.own_grown hown7 (Nat.lt_succ_self (w.heap.size + 1)) hg8
      have ha28 : Rw.At w8 (w.heap.size + 1) 50 [.slice A7 (j + 1) c7, .slice XA xn xc] := by rw [← hw8]; exact ha27.set 0 _
      have ha18 : Rw.At w8 w.heap.size 50 [.slice none 0 0, .slice none 0 0] := (((HA1.out.below hb6').grown hg7 (fun e => HNE1.out _ e rfl))).grown hg8 (by simp only [ne_eq, Option.some.injEq]; omega)
      have htk : Kt.take (j + 1) = Kt.take j ++ [r] := by rw [List.take_add_one, HR.out]; rfl
      have hb8 : Below w.heap.size w w8 := ((HBEL.out.trans (hb6'.mono HBEL.out.size)).trans (hb7.mono (by omega))).grown hg8 (Nat.le_trans HBEL.out.size (Nat.le_trans hb6'.size hb7.size)) (by intro k hk; simp only [Option.some.injEq] at hk; omega)
      have HADS' : (ads ++ [(A5, c5)]).length = (Kt.take (j + 1)).length := by rw [htk]; simp [HADS.out]
      have hown9 : w8.ownsRow (w.heap.size + 2) 99 3 (.slice A7 (j + 1) c7) (j + 1) (Rw.fl (Kt.take (j + 1)) (ads ++ [(A5, c5)])) := by
        rw [htk, Rw.fl_app _ _ r (A5, c5) HADS.out, HMLE.out]
        exact hown8
      have hm9 : Rw.Maps w8 (Kt.take (j + 1)) (ads ++ [(A5, c5)]) := by
        rw [htk]
        exact hm8.app HADS.out hs8
      have Z1 := Lib.hid ha18
      have Z2 := Lib.hid ha28
      have Z3 := Lib.hid HADS'
      have Z4 := Lib.hid hown9
      have Z5 := Lib.hid hm9
      have Z6 := Lib.hid hb8
      clear ha18 ha28 HADS' hown9 hm9 hb8 htk hown8 hs8 hm8 hnot1 hnot2 hg8 hw8 u0 u1 u2 ha27 hown7 hb7 hg7 hown6 hbase6 ha26 hat6 hb6' hsl6 hb6 hw6 ha25 hat5 hb5' hown5 hb5 e0 e2 e3 e4
      go_wp2_with fail
      exact ⟨⟨j + 1, _, ads ++ [(A5, c5)], by omega, by go_num, Z1.out, Z2.out, Z3.out, Z4.out, Z5.out, Z6.out⟩, by simp [intOf]; omega⟩
    · obtain rfl : n = j := by omega
      obtain ⟨AV, cV, rfl⟩ := own_form hown
      have q0 := ha2.cell 0 rfl
      have q1 := ha2.cell 1 rfl
      have q2 := ha2.lt
      have p0 := ha1.frozen 0
      have p1 := ha1.frozen 1
      have p2 := ha1.lt
      have p3 := ha1.cell 0 rfl
      have p4 := ha1.cell 1 rfl
      have hNN : Kt.take n = Kt := List.take_of_length_le (by rw [HN.out]; exact Nat.le_refl _)
      rw [hNN] at hads hown hmaps
      have HADS := Lib.hid hads
      have HOWN := Lib.hid hown
      have HMAPS := Lib.hid hmaps
      have HBEL := Lib.hid hbel
      have HA1 := Lib.hid ha1
      have HXR := Lib.hid (HXA.out.below hbel hbel.size)
      clear hads hown hmaps hbel ha1 ha2 hNN hlt
      go_wp2_with fail
      have k1 := HA1.out.set 0 (.slice AV n cV)
      have k2 := k1.set 1 (.slice XA xn xc)
      have hst := (((Slt.of_own HOWN.out).setAt HA1.out (by decide) 0 (.slice AV n cV)).setAt k1 (by decide) 1 (.slice XA xn xc))
      have hmm := (HMAPS.out.grown (Rw.grown_set w.heap.size 0 (.slice AV n cV)) (by intro q hq; cases hq; exact HA1.out.not (by decide))).grown (Rw.grown_set w.heap.size 1 (.slice XA xn xc)) (by intro q hq; cases hq; exact k1.not (by decide))
      have hbb : Below w.heap.size w ((_ : World).setCell ⟨w.heap.size, 1, none⟩ _) := (HBEL.out.setCell (p := ⟨w.heap.size, 0, none⟩) (Nat.le_refl _) (.slice AV n cV)).setCell (p := ⟨w.heap.size, 1, none⟩) (Nat.le_refl _) (.slice XA xn xc)
      refine bodyPost_ret (Rw.results1 rfl _ _ w.heap.size _ _ _ _ rfl k2 Tryz.underlying50 rfl (by kernel_rfl)) rfl ⟨AV, cV, XA, xc, rfl, ⟨ads, HADS.out, hst, hmm⟩, ?_, hbb⟩
      exact HXA.out.below hbb hbb.size
end Go.Proofs.YtkmfegamblmpeaaGreatDoor
