/- The layer rows: a reader's line, by walking its text. -/
import Derived.Test.YtkmfegamblmpeaaGreatDoorMdFind
import Derived.Test.YtkmfegamblmpeaaGreatDoorFiRef2
import Derived.Test.YtkmfegamblmpeaaGreatDoorCpUtf
import Derived.BigRegion
import Derived.Deep.RegionWith
import Derived.Deep.RegionLaw
import Derived.Deep.RegionHeld3
import Derived.Test.YtkmfegamblmpeaaGreatDoorClone
namespace Go.Proofs.YtkmfegamblmpeaaGreatDoor
open Go.RowKit
set_option linter.unusedSimpArgs false
set_option linter.unusedVariables false

def Rw.Laid (w : World) : Prop := Fi.Laid w ∧ Fi.LaidN w
theorem Rw.Laid.next {w w' : World} (h : Rw.Laid w) (hb : Below w.heap.size w w') : Rw.Laid w' := ⟨h.1.below hb, h.2.next hb⟩
theorem Rw.infoRow : (Tryz.prog.info? 99).map (fun i => (i.zero, i.size, i.bytes)) = some (some (.agg #[.int .i32 0, .int .i64 0, .slice none 0 0]), 3, 40) := by kernel_rfl
/-- A reader at block b, in a state. -/
def Rw.Rd (w : World) (b : Nat) (st : Rw.St) : Prop :=
  ∃ v ads, Rw.At w b 171 [v, .int .i32 st.2.1, .string ⟨st.2.2.toArray⟩] ∧ w.ownsRow (b + 1) 99 3 v st.1.length (Rw.fl st.1 ads) ∧ ads.length = st.1.length ∧ Rw.Maps w st.1 ads
/-- What a line answers. -/
def Rw.RetLine (b : Nat) (st : Rw.St) (w : World) (e : Ending) (w' : World) : Prop := e = .returned (.string ⟨#[]⟩) ∧ Rw.Rd w' b st ∧ Below b w w'
theorem Rw.step_some {st st' : Rw.St} {l : List UInt8} (h : Rw.step st l = some st') : ∃ r o, Rw.row (Fi.spl 59 [] l) = some r ∧ st.2.1 < r.1 ∧ Rw.ranged st.2.2 ((Fi.spl 59 [] l).getD 1 []) (Rw.quiet r) = some o ∧ (C.isC r.1 = true ∨ Rw.quiet r = true) ∧
    st' = (if Rw.quiet r then st.1 else st.1 ++ [r], r.1, o) := by
  unfold Rw.step at h
  rcases hr : Rw.row (Fi.spl 59 [] l) with _ | r
  · rw [hr] at h; cases h
  rw [hr, Option.bind_some] at h
  split at h
  · rename_i h1
    rcases ho : Rw.ranged st.2.2 ((Fi.spl 59 [] l).getD 1 []) (Rw.quiet r) with _ | o
    · rw [ho] at h; cases h
    rw [ho, Option.bind_some] at h
    split at h
    · rename_i h2
      simp only [Option.some.injEq] at h
      exact ⟨r, o, rfl, h1, ho, h2, h.symm⟩
    · cases h
  · cases h

set_option maxRecDepth 100000 in
set_option maxHeartbeats 4000000 in
theorem Rw.line_any (b : Nat) (st st' : Rw.St) (l : ByteArray) (w0 w : World) (hL : Rw.Laid w0) (h0 : w0.heap.size ≤ b) (hB0 : Below w0.heap.size w0 w) (hI : Rw.Rd w b st) (hl : l.size ≤ 1000) (hn : st.1.length ≤ 100000)
    (hst : Rw.step st l.data.toList = some st') : Calls Tryz.prog 93 #[.pointer (some ⟨b, 0, none⟩), .string l] w (Rw.RetLine b st' w) := by
  obtain ⟨r, o, hrow, hlt, hrg, hq, rfl⟩ := Rw.step_some hst
  obtain ⟨out, code, was⟩ := st
  obtain ⟨v, ads, hat, hown, has, hmaps⟩ := hI
  obtain ⟨c, k, m⟩ := r
  simp only at hlt hrg hq hat hown has hmaps hn ⊢
  have hLw := hL.next hB0
  have hS := Fi.split_any l (by omega) w hLw.1
  obtain ⟨f0, f1, f3, f5, h15, i0, i1, i3, i5, hne, hhex, hnum, hmp⟩ := Rw.row_some hrow
  have hlens : ∀ x ∈ Fi.spl 59 [] l.data.toList, x.length ≤ 1000 := fun x hx => by
    have := Fi.spl_sizes 59 l.data.toList [] x hx
    simp at this
    omega
  have hf1 : f1.length ≤ 1000 := hlens f1 (List.mem_of_getElem? i1)
  have hg1 : (Fi.spl 59 [] l.data.toList).getD 1 [] = f1 := by rw [List.getD_eq_getElem?_getD, i1]; rfl
  rw [hg1] at hrg
  obtain ⟨F, hF⟩ : ∃ F, Fi.spl 59 [] l.data.toList = F := ⟨_, rfl⟩
  rw [hF] at hrow h15 i1 hlens hS
  obtain ⟨j0, hj0, hy0, hy1, hy2⟩ := info_parts Rw.infoRow
  obtain ⟨nm, hnm⟩ : ∃ nm : ByteArray, ⟨f1.toArray⟩ = nm := ⟨_, rfl⟩
  have hnms : nm.size ≤ 1000000 := by rw [← hnm]; show f1.toArray.size ≤ _; simp; omega
  have hnml : nm.data.toList = f1 := by rw [← hnm]
  obtain ⟨wb, hwb⟩ : ∃ wb : ByteArray, ⟨was.toArray⟩ = wb := ⟨_, rfl⟩
  have hwbl : wb.data.toList = was := by rw [← hwb]
  rw [← hnml, ← hwbl] at hrg
  rw [hwb] at hat
  have hco : decide (c ≤ code) = false := decide_eq_false (by omega)
  have hQA := Rw.quiet_any c k
  obtain ⟨bc, hbc⟩ : ∃ x, C.isC c = x := ⟨_, rfl⟩
  obtain ⟨bq, hbq⟩ : ∃ x, Rw.quiet (c, k, m) = x := ⟨_, rfl⟩
  have hbq' : (decide (k = 0) && decide (m.length = 0)) = bq := hbq
  rw [hbc, hbq] at hq
  rw [hbq] at hrg ⊢
  obtain ⟨out', hout'⟩ : ∃ x, (if bq = true then out else out ++ [(c, k, m)]) = x := ⟨_, rfl⟩
  rw [hout']
  have HO := Lib.hid hout'
  have HBQ := Lib.hid hbq'
  have hU := C.utfis_any c
  rw [hbc] at hU
  have HQ := Lib.hid hq
  clear hbc hbq hbq' hq hout'
  have HROW := Lib.hid hrow
  have HRG := Lib.hid hrg
  have HLENS := Lib.hid hlens
  clear hst hhex hnum hmp i0 i3 i5 hrow hrg hlens hne hg1 hF hnml hwbl hwb hlt
  go_enter Tryz.func93, Tryz.ntmps93
  go_wp2_with fail
  refine hS.mono ?_
  rintro e w1 ⟨A, n, cp, rfl, hFn, hA, hb1⟩
  obtain rfl : n = 15 := by omega
  have hR := Rw.row_any A 15 cp w1.heap.size F (c, k, m) w1 HROW.out h15 (Nat.le_refl _) hA (fun x hx => by have := HLENS.out x hx; omega) (hLw.next hb1).2
  obtain ⟨ab, ao, rfl, habl, hac⟩ := hA (by rw [List.length_map]; omega)
  have hc1 := hac 1 (by rw [List.length_map]; omega)
  rw [List.getElem?_map, i1, Option.map_some, hnm] at hc1
  clear hac hS i1 hFn hnm
  have hHB1 := Lib.hid hb1
  clear hb1
  go_wp2_with fail
  refine hR.mono ?_
  rintro e w2 ⟨Am, cm, rfl, hSm, hb2⟩
  clear hR
  simp only at hSm
  have hc1' := ((bcell hb2).1 _ _ habl).trans hc1
  have habl2 : ab < w2.heap.size := Nat.lt_of_lt_of_le habl hb2.size
  have hbw2 : Below w.heap.size w w2 := hHB1.out.trans (hb2.mono hHB1.out.size)
  have hat2 := hat.below hbw2
  have hown2 := own_below hown hbw2 (Nat.le_refl _)
  have hmaps2 := hmaps.below hbw2
  obtain ⟨d1, d2, d3, d4, d5, d6⟩ := hat2.three
  have hbl2 : b < w2.heap.size := hat2.lt
  have hbl : b < w.heap.size := hat.lt
  clear hc1 habl hb2 hat hown hmaps
  have HBW := Lib.hid hbw2
  have HOWN := Lib.hid hown2
  have HMAPS := Lib.hid hmaps2
  have HSM := Lib.hid hSm
  clear hbw2 hown2 hmaps2 hSm
  go_wp2_with fail
  go_quiet (fail)
  go_wp2_with fail
  obtain ⟨w3, hw3⟩ : ∃ w3, (w2.alloc (.cells #[.int .i32 c, .int .i64 k, .slice Am m.length cm] 99)).drewN nq = w3 := ⟨_, rfl⟩
  have hb3 : Below w2.heap.size w2 w3 := by rw [← hw3]; exact ((Below.refl w2.heap.size w2).alloc (Nat.le_refl _) _).trans ((Fi.drewN_below _ _).mono (by simp))
  have hr3 : Rw.At w3 w2.heap.size 99 [.int .i32 c, .int .i64 k, .slice Am m.length cm] := by rw [← hw3]; exact (Rw.At.new w2 99 [.int .i32 c, .int .i64 k, .slice Am m.length cm]).below (Fi.drewN_below _ _)
  have hat3 := hat2.below hb3
  obtain ⟨m1, m2, m3, m4, m5, m6⟩ := hr3.three
  have hc3 := ((bcell hb3).1 _ _ habl2).trans hc1'
  have hrr3 : w2.heap.size < w3.heap.size := hr3.lt
  have hG := fun W hat => Rw.ranged_any b v code wb nm c k Am m.length cm o W (Rw.own_one HOWN.out) hat hnms (by rw [HBQ.out]; exact HRG.out)
  have hat3d : Rw.At w3.drew b 171 [v, .int .i32 code, .string wb] := hat3
  rw [hw3]
  clear hw3 d1 d2 d3 d4 d5 d6 hc1' habl2
  go_region_with (go_at_call 122; refine (hG _ hat3d).mono ?_; rintro e w4 ⟨rfl, hat4, hg4⟩)
  all_goals
    have hr4 : Rw.At w4 w2.heap.size 99 [.int .i32 c, .int .i64 k, .slice Am m.length cm] := (show Rw.At w3.drew _ _ _ from hr3).grown hg4 (by simp; omega)
    have hbel3 : Below w.heap.size w w3.drew := HBW.out.trans ((show Below w2.heap.size w2 w3.drew from hb3.drew).mono HBW.out.size)
    have hown4 := Rw.own_grown (own_below HOWN.out (show Below w2.heap.size w2 w3.drew from hb3.drew) (Nat.le_refl _)) (Nat.lt_succ_self b) hg4
    have hmaps4 := (HMAPS.out.below (show Below w2.heap.size w2 w3.drew from hb3.drew)).grown hg4 (by intro q hq; cases hq; exact hat3d.not (by decide))
    have hsm4 := (HSM.out.below (show Below w2.heap.size w2 w3.drew from hb3.drew)).grown hg4 (by intro q hq; cases hq; exact hat3d.not (by decide))
    have hbb4 : Below b w w4 := (hbel3.mono (Nat.le_of_lt hbl)).trans (Rw.below_grown hg4 (by show b ≤ w3.drew.heap.size; have := hb3.size; simp; omega) (by intro q hq; cases hq; exact Nat.le_refl _))
    have hsz4 : w2.heap.size < w4.heap.size := hr4.lt
    have hQ2 := hQA Am m.length cm
    rw [HBQ.out] at hQ2
    obtain ⟨p1, p2, p3, p4, p5, p6⟩ := hat4.three
    obtain ⟨r1, r2, r3, r4, r5, r6⟩ := hr4.three
    have HOWN4 := Lib.hid hown4
    have HMAPS4 := Lib.hid hmaps4
    have HSM4 := Lib.hid hsm4
    have HBB4 := Lib.hid hbb4
    clear hown4 hmaps4 hsm4 hbb4 hbel3 hg4 m1 m2 m3 m4 m5 m6 hc3
    rcases bq with _ | _
    · obtain rfl : bc = true := by
        rcases HQ.out with h | h
        · exact h
        · cases h
      go_wp2_with (first | (go_at_call 49; refine (hU _).mono ?_; rintro e w5 ⟨rfl, rfl⟩) | fail)
      refine (hQ2 _).mono ?_
      rintro e w5 ⟨rfl, hb5⟩
      have hat5 := (hat4.set 1 (.int .i32 c)).below hb5
      simp only [List.set_cons_succ, List.set_cons_zero] at hat5
      have hr5 := (hr4.other (show w2.heap.size ≠ b by omega) (.int .i32 c) (i := 1)).below hb5
      have hown5 := own_below (Rw.own_grown HOWN4.out (Nat.lt_succ_self b) (Rw.grown_set b 1 (.int .i32 c))) hb5 (Nat.le_refl _)
      have hmaps5 := (HMAPS4.out.grown (Rw.grown_set b 1 (.int .i32 c)) (by intro q hq; cases hq; exact hat4.not (by decide))).below hb5
      have hsm5 := (HSM4.out.grown (Rw.grown_set b 1 (.int .i32 c)) (by intro q hq; cases hq; exact hat4.not (by decide))).below hb5
      have hz5 : w4.heap.size ≤ w5.heap.size := Nat.le_trans (KeepsWalks.setCell w4 ⟨b, 1, none⟩ (.int .i32 c)).size hb5.size
      have hbb5 : Below b w w5 := (HBB4.out.setCell (p := ⟨b, 1, none⟩) (Nat.le_refl _) (.int .i32 c)).trans (hb5.mono (by have := (KeepsWalks.setCell w4 ⟨b, 1, none⟩ (.int .i32 c)).size; omega))
      obtain ⟨s1, s2, s3, s4, s5, s6⟩ := hat5.three
      obtain ⟨t1, t2, t3, t4, t5, t6⟩ := hr5.three
      have hwr5 : w2.heap.size < w5.heap.size := hr5.lt
      have hbl5 : b < w5.heap.size := hat5.lt
      have hown' := (hown5.alloc (.cells #[.int .i32 c, .int .i64 k, .slice Am m.length cm] 99)).drew
      have hnew := Lib.hid (Sl.lit (w := (w5.alloc (.cells #[.int .i32 c, .int .i64 k, .slice Am m.length cm] 99)).drew) (A := some ⟨w5.heap.size, 0, none⟩) (xs := [.int .i32 c, .int .i64 k, .slice Am m.length cm]) rfl 99 (0, 0) (heap_alloc_new w5 _))
      have hne := Rw.own_ne hown5 b (Nat.lt_succ_self b)
      have hs3 : b + 1 ≤ (w5.alloc (.cells #[.int .i32 c, .int .i64 k, .slice Am m.length cm] 99)).drew.heap.size := by simp; omega
      have hat5' : Rw.At (w5.alloc (.cells #[.int .i32 c, .int .i64 k, .slice Am m.length cm] 99)).drew b 171 [v, .int .i32 c, .string ⟨o.toArray⟩] := hat5.alloc _
      have HOWN5 := Lib.hid hown'
      have HMAPS5 := Lib.hid hmaps5
      have HSM5 := Lib.hid hsm5
      have HBB5 := Lib.hid hbb5
      have HNE := Lib.hid hne
      clear hown5 hown' hmaps5 hsm5 hbb5 hb5 p1 p2 p3 p4 p5 p6 r1 r2 r3 r4 r5 r6 hne
      go_wp2_with fail
      go_region_law ((refine step_appendSl _ (by rfl) _ _ _ (by rfl) (b + 1) 99 j0 _ 3 40 Tryz.underlying48 hj0 hy0 hy1 hy2 rfl (by omega) _ out.length _ (by rfl) HOWN5.out _ (some ⟨w5.heap.size, 0, none⟩) 1 1 [.int .i32 c, .int .i64 k, .slice Am m.length cm] (by rfl) (by rfl) hnew.out (by simp [Value.oneCell']) (by simp only [maxLen]; omega) (by omega) hs3 ?_; intro v1 w6 hown6 hb6 hgrow; have hat6 := hat5'.grown hgrow HNE.out; obtain ⟨z1, z2, z3, z4, z5, z6⟩ := hat6.three; obtain ⟨A6, c6, rfl⟩ := own_form hown6))
      all_goals
        go_wp2_with fail
        go_ret
        have ho := HO.out
        simp only [Bool.false_eq_true, if_false] at ho
        subst ho
        have bz : Below w5.heap.size w5 (w5.alloc (.cells #[.int .i32 c, .int .i64 k, .slice Am m.length cm] 99)).drew := ((Below.refl _ _).alloc (Nat.le_refl _) _).drew
        have e1 := ((HMAPS5.out.below bz).grown hgrow (Rw.own_not HOWN5.out (by decide))).grown (Rw.grown_set b 0 (.slice A6 (out.length + 1) c6)) (by intro q hq; cases hq; exact hat6.not (by decide))
        have e2 := ((HSM5.out.below bz).grown hgrow (Rw.own_not HOWN5.out (by decide))).grown (Rw.grown_set b 0 (.slice A6 (out.length + 1) c6)) (by intro q hq; cases hq; exact hat6.not (by decide))
        have e3 := Rw.own_grown hown6 (Nat.lt_succ_self b) (Rw.grown_set b 0 (.slice A6 (out.length + 1) c6))
        refine ⟨rfl, ⟨.slice A6 (out.length + 1) c6, ads ++ [(Am, cm)], hat6.set 0 _, ?_, by simp [has], e1.app has e2⟩, ?_⟩
        · show World.ownsRow _ _ _ _ _ (out ++ [(c, k, m)]).length (Rw.fl (out ++ [(c, k, m)]) (ads ++ [(Am, cm)]))
          rw [Rw.fl_app out ads (c, k, m) (Am, cm) has, List.length_append]
          exact e3
        · exact ((HBB5.out.trans (bz.mono (Nat.le_of_lt hbl5))).trans (hb6.mono (Nat.le_succ b))).setCell (p := ⟨b, 0, none⟩) (Nat.le_refl _) _
    · have ho := HO.out
      simp only [if_true] at ho
      subst ho
      have HT := HQ.out
      rcases bc with _ | _
      · go_wp2_with (first | (go_at_call 49; refine (hU _).mono ?_; rintro e w5 ⟨rfl, rfl⟩) | fail)
        refine (hQ2 _).mono ?_
        rintro e w4a ⟨rfl, hba⟩
        have hat4a := hat4.below hba
        have hr4a := hr4.below hba
        have HOWN4a := Lib.hid (own_below HOWN4.out hba (Nat.le_refl _))
        have HMAPS4a := Lib.hid (HMAPS4.out.below hba)
        have HBB4a := Lib.hid (HBB4.out.trans (hba.mono (Nat.le_of_lt hat4.lt)))
        have hsz4a : w2.heap.size < w4a.heap.size := hr4a.lt
        clear p1 p2 p3 p4 p5 p6 r1 r2 r3 r4 r5 r6 hba
        obtain ⟨p1, p2, p3, p4, p5, p6⟩ := hat4a.three
        obtain ⟨r1, r2, r3, r4, r5, r6⟩ := hr4a.three
        go_wp2_with fail
        refine (hQ2 _).mono ?_
        rintro e w5 ⟨rfl, hb5⟩
        have hat5 := (hat4a.set 1 (.int .i32 c)).below hb5
        simp only [List.set_cons_succ, List.set_cons_zero] at hat5
        have hown5 := own_below (Rw.own_grown HOWN4a.out (Nat.lt_succ_self b) (Rw.grown_set b 1 (.int .i32 c))) hb5 (Nat.le_refl _)
        have hmaps5 := (HMAPS4a.out.grown (Rw.grown_set b 1 (.int .i32 c)) (by intro q hq; cases hq; exact hat4a.not (by decide))).below hb5
        have hbb5 : Below b w w5 := (HBB4a.out.setCell (p := ⟨b, 1, none⟩) (Nat.le_refl _) (.int .i32 c)).trans (hb5.mono (by have := (KeepsWalks.setCell w4a ⟨b, 1, none⟩ (.int .i32 c)).size; omega))
        have HRES := Lib.hid (show Rw.Rd w5 b (out, c, o) from ⟨v, ads, hat5, hown5, has, hmaps5⟩)
        have HBB5 := Lib.hid hbb5
        clear hat5 hown5 hmaps5 hbb5 hb5
        go_wp2_with fail
        go_ret
        exact ⟨rfl, HRES.out, HBB5.out⟩
      · go_wp2_with (first | (go_at_call 49; refine (hU _).mono ?_; rintro e w5 ⟨rfl, rfl⟩) | fail)
        refine (hQ2 _).mono ?_
        rintro e w5 ⟨rfl, hb5⟩
        have hat5 := (hat4.set 1 (.int .i32 c)).below hb5
        simp only [List.set_cons_succ, List.set_cons_zero] at hat5
        have hown5 := own_below (Rw.own_grown HOWN4.out (Nat.lt_succ_self b) (Rw.grown_set b 1 (.int .i32 c))) hb5 (Nat.le_refl _)
        have hmaps5 := (HMAPS4.out.grown (Rw.grown_set b 1 (.int .i32 c)) (by intro q hq; cases hq; exact hat4.not (by decide))).below hb5
        have hbb5 : Below b w w5 := (HBB4.out.setCell (p := ⟨b, 1, none⟩) (Nat.le_refl _) (.int .i32 c)).trans (hb5.mono (by have := (KeepsWalks.setCell w4 ⟨b, 1, none⟩ (.int .i32 c)).size; omega))
        have HRES := Lib.hid (show Rw.Rd w5 b (out, c, o) from ⟨v, ads, hat5, hown5, has, hmaps5⟩)
        have HBB5 := Lib.hid hbb5
        clear hat5 hown5 hmaps5 hbb5 hb5
        go_wp2_with fail
        go_ret
        exact ⟨rfl, HRES.out, HBB5.out⟩
end Go.Proofs.YtkmfegamblmpeaaGreatDoor
