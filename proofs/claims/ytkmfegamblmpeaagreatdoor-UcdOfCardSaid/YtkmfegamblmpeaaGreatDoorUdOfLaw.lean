/- What the laws' Few answers, and the words of what is wrong: plain facts. -/
import Derived.Test.YtkmfegamblmpeaaGreatDoorMdFew
import Derived.Test.YtkmfegamblmpeaaGreatDoorMdRef6
import Derived.Test.YtkmfegamblmpeaaGreatDoorRwOpen
import Derived.Test.YtkmfegamblmpeaaGreatDoorUdBad
import Derived.Test.YtkmfegamblmpeaaGreatDoorUdTable
namespace Go.Proofs.YtkmfegamblmpeaaGreatDoor
open Go.RowKit
set_option linter.unusedSimpArgs false
set_option linter.unusedVariables false
theorem Md.chk_le (T : List Rw.Row) (X : Int → Bool) : Md.chk T X ≤ 5 := by
  unfold Md.chk
  have := Md.rowsBad_le T (-1)
  split
  · omega
  · split
    · decide
    · split <;> decide
theorem Md.note_some {k : Nat} (h0 : k ≠ 0) (h5 : k ≤ 5) : (Md.note k).toList.isEmpty = false := by
  have g1 : (Md.note 1).toList.isEmpty = false := by kernel_rfl
  have g2 : (Md.note 2).toList.isEmpty = false := by kernel_rfl
  have g3 : (Md.note 3).toList.isEmpty = false := by kernel_rfl
  have g4 : (Md.note 4).toList.isEmpty = false := by kernel_rfl
  have g5 : (Md.note 5).toList.isEmpty = false := by kernel_rfl
  match k, h0, h5 with
  | 1, _, _ => exact g1
  | 2, _, _ => exact g2
  | 3, _, _ => exact g3
  | 4, _, _ => exact g4
  | 5, _, _ => exact g5
theorem Md.fewE_mem (E : List Int) : C.mem (C.chars (Md.fewE E)) = Md.xs (Md.fewE E) := by
  funext d
  rw [(C.chars_spec _).2 d]
  unfold Md.xs
  by_cases h : d ∈ Md.fewE E
  · have hc : C.isC d = true := by
      unfold Md.fewE at h
      obtain ⟨x, _, rfl⟩ := List.mem_map.1 h
      exact Ch.K_is x
    rw [hc, Bool.and_true]
  · rw [decide_eq_false h, Bool.false_and]
theorem Md.fewT_len (T : List Rw.Row) : (Md.fewT T).length ≤ 20 := by unfold Md.fewT; simp; omega
theorem Md.fewE_len (E : List Int) : (Md.fewE E).length ≤ 30 := by unfold Md.fewE; simp; omega
theorem Md.fewT_mem {T : List Rw.Row} {r : Rw.Row} (h : r ∈ Md.fewT T) : ∃ q ∈ T, r = Md.fewR q := by
  unfold Md.fewT at h
  obtain ⟨q, hq, rfl⟩ := List.mem_map.1 h
  exact ⟨q, List.mem_of_mem_take hq, rfl⟩
theorem Md.fewT_bd (T : List Rw.Row) : Md.bd (Md.fewT T) := by
  intro r hr
  obtain ⟨q, hq, rfl⟩ := Md.fewT_mem hr
  refine ⟨Md.w32_bd q.1, fun c hc => ?_⟩
  obtain ⟨x, _, rfl⟩ := List.mem_map.1 hc
  exact Md.w32_bd x
theorem Md.fewT_ml (T : List Rw.Row) : ∀ r ∈ Md.fewT T, r.2.2.length ≤ 4 := by
  intro r hr
  obtain ⟨q, hq, rfl⟩ := Md.fewT_mem hr
  unfold Md.fewR
  simp
  omega
theorem Md.fewE_bd (E : List Int) : ∀ c ∈ Md.fewE E, -2147483648 ≤ c ∧ c ≤ 2147483647 := by
  intro c hc
  obtain ⟨x, _, rfl⟩ := List.mem_map.1 hc
  exact Ch.K_bd x
end Go.Proofs.YtkmfegamblmpeaaGreatDoor

/- A document's table that a call made: what a later store or call leaves of it. -/
namespace Go.Proofs.YtkmfegamblmpeaaGreatDoor
open Go.RowKit
set_option linter.unusedSimpArgs false
set_option linter.unusedVariables false

theorem Md.DocO.set {w : World} {v : Value} {lo : Nat} {T : List Rw.Row} {E : List Int} (h : Md.DocO w v lo T E) {b : Nat} {cs : List Value} (hat : Rw.At w b 25 cs) (hb : b < lo) (i : Nat) (u : Value) : Md.DocO (w.setCell ⟨b, i, none⟩ u) v lo T E := by
  obtain ⟨A, c, XA, xc, ads, rfl, hl, ho, hm, mid, h1, h2, ha, hx⟩ := h
  exact ⟨A, c, XA, xc, ads, rfl, hl, Rw.own_grown ho hb (Rw.grown_set b i u), hm.grown (Rw.grown_set b i u) (by intro q hq; cases hq; exact hat.not (by decide)), mid, h1, by rw [World.size_setCell]; exact h2, ha, Rw.own_grown hx (by omega) (Rw.grown_set b i u)⟩
theorem Md.DocO.below {w w' : World} {v : Value} {lo : Nat} {T : List Rw.Row} {E : List Int} (h : Md.DocO w v lo T E) (hb : Below w.heap.size w w') : Md.DocO w' v lo T E := by
  obtain ⟨A, c, XA, xc, ads, rfl, hl, ho, hm, mid, h1, h2, ha, hx⟩ := h
  exact ⟨A, c, XA, xc, ads, rfl, hl, own_below ho hb (Nat.le_refl _), hm.below hb, mid, h1, Nat.le_trans h2 hb.size, ha, own_below hx hb (Nat.le_refl _)⟩
end Go.Proofs.YtkmfegamblmpeaaGreatDoor

/- The law UcdOf, by walking its text. -/
namespace Go.Proofs.YtkmfegamblmpeaaGreatDoor
open Go.RowKit
set_option linter.unusedSimpArgs false
set_option linter.unusedVariables false
def Ud.tblN : ByteArray := ⟨#[116, 97, 98, 108, 101]⟩
theorem Ud.keep_snoc (R : List Rw.Row) (r : Rw.Row) : (Ud.keep (R ++ [r])).length = (Ud.keep R).length + (if Ud.says r = true then 1 else 0) := by
  cases h : Ud.says r with
  | true => rw [Ud.add_keep h]; simp
  | false => rw [(Ud.add_none (T := []) (X := fun _ => false) h).1]; simp
theorem Ud.row_plain {T : List Rw.Row} {S : List Int} (ok : Ud.Ok T S) {r : Rw.Row} (hr : r ∈ T) : Md.cls T r.1 = r.2.1 ∧ Md.mp T r.1 = r.2.2 := by
  have hf := Md.find_mem ok.rises hr
  refine ⟨?_, (Ud.row_mp ok.good hf).1⟩
  unfold Md.cls
  rw [hf]
  rfl
theorem Ud.run_rows (A XA : Option Addr) (n c xn xc : Nat) (w : World) : (Instr.field 50 (.agg #[.slice A n c, .slice XA xn xc]) 0).run Tryz.prog w = .ok (.slice A n c) w := by kernel_rfl

set_option maxRecDepth 100000 in
set_option maxHeartbeats 4000000 in
theorem Ud.ucdof_any (A XA : Option Addr) (n c xn xc : Nat) (T0 : List Rw.Row) (E0 : List Int) (w : World) (hn : T0.length = n) (hxn : E0.length = xn) (hnb : n ≤ maxLen) (hxb : xn ≤ maxLen) (hbd : ∀ r ∈ T0, Rw.bounds r) (h2 : Rw.SeesI w A T0) (hX : Sl w w.heap.size XA (E0.map (Value.int .i64))) (hL : Rw.Laid w) (hE : F.LaidE w) :
    Calls Tryz.prog 4 #[.agg #[.slice A n c, .slice XA xn xc]] w fun e w' => e = .returned (.bool true) ∧ Below w.heap.size w w' := by
  obtain ⟨T, hT⟩ : ∃ T, Md.fewT T0 = T := ⟨_, rfl⟩
  obtain ⟨E, hEe⟩ : ∃ E, Md.fewE E0 = E := ⟨_, rfl⟩
  have hTl := Md.fewT_len T0
  have hEl := Md.fewE_len E0
  have hTb := Md.fewT_bd T0
  have hTm := Md.fewT_ml T0
  have hEb := Md.fewE_bd E0
  have hcl : ∀ r ∈ Md.fewT T0, -9223372036854775808 ≤ r.2.1 ∧ r.2.1 ≤ 9223372036854775807 := by
    intro r hr
    obtain ⟨q, hq, rfl⟩ := Md.fewT_mem hr
    exact (hbd q hq).2.1
  have hXE := Md.fewE_mem E0
  have hok := (C.chars_spec (Md.fewE E0)).1
  have hSl := C.chars_len (Md.fewE E0)
  rw [hT] at hTl hTb hTm hcl
  rw [hEe] at hEl hEb hXE hok hSl
  obtain ⟨S, hS⟩ : ∃ S, C.chars E = S := ⟨_, rfl⟩
  obtain ⟨k, hk⟩ : ∃ k, Md.chk T (Md.xs E) = k := ⟨_, rfl⟩
  have hk5 : k ≤ 5 := by rw [← hk]; exact Md.chk_le _ _
  have HOWNC : Hid (∀ v W, Md.Doc W v T E → Calls Tryz.prog 23 #[v] W fun e w' => ∃ v', e = .returned v' ∧ Md.Is w' v' T S ∧ Below W.heap.size W w') := Lib.hid fun v W h => by
    rw [← hS]
    exact Md.own_any v T E W (Nat.le_trans hTl (by decide)) (Nat.le_trans hEl (by decide)) hTb (fun r hr => Nat.le_trans (hTm r hr) (by decide)) hEb h
  rw [hS] at hXE hok hSl
  have hsl6 : S.length ≤ 60 := by omega
  have HRC : Hid (∀ v W, Md.Doc W v T E → (∀ A n c x, v = .agg #[.slice A n c, x] → n ≤ c) → Calls Tryz.prog 24 #[v] W fun e w' => e = .returned (.string (Md.note k)) ∧ Below W.heap.size W w') := Lib.hid fun v W h hc => by
    have := Md.rcheck_any v T E W (Nat.le_trans hTl (by decide)) (Nat.le_trans hEl (by decide)) hTb (fun r hr => Nat.le_trans (hTm r hr) (by decide)) hcl h hc
    rw [hk] at this
    exact this
  have HOKI : Hid (k = 0 → Ud.Ok T S) := Lib.hid fun h0 => ⟨by rw [hXE, hk]; exact h0, hok.1, Nat.le_trans hTl (by decide), by omega⟩
  have HBADC : Hid (k ≠ 0 → ∀ v W, Md.Is W v T S → Calls Tryz.prog 22 #[v] W (Ud.RetBad k W)) := Lib.hid fun h0 v W h =>
    Ud.of_bad v T S W h (Nat.le_trans hTl (by decide)) hTb (fun r hr => Nat.le_trans (hTm r hr) (by decide)) hok.1 (by omega) k (by rw [hXE]; exact hk) h0
  obtain ⟨wa, hwa⟩ : ∃ wa, w.alloc (.cells #[.slice A n c, .slice XA xn xc] 25) = wa := ⟨_, rfl⟩
  have hba : Below w.heap.size w wa := by rw [← hwa]; exact (Below.refl _ _).alloc (Nat.le_refl _) _
  have hat : Rw.At wa w.heap.size 25 [.slice A n c, .slice XA xn xc] := by rw [← hwa]; exact Rw.At.new w 25 [.slice A n c, .slice XA xn xc]
  have HWA := Lib.hid hwa
  have HBA := Lib.hid hba
  have HAT := Lib.hid hat
  have HFEW : Hid (∀ W, Below w.heap.size w W → Calls Tryz.prog 21 #[.agg #[.slice A n c, .slice XA xn xc]] W fun e w' => ∃ v, e = .returned v ∧ Md.DocO w' v W.heap.size T E ∧ Below W.heap.size W w') := Lib.hid fun W hW => by
    rw [← hT, ← hEe]
    exact Md.few_any A XA n c xn xc T0 E0 W hn hxn hnb hxb (fun r hr => (hbd r hr).2.2.1) (h2.below hW) (hX.below hW hW.size)
  have HAW := Lib.hid (fun W (hW : Below w.heap.size w W) => Ud.awake_any W (hL.next hW))
  have HTL := Lib.hid hTl
  have HTB := Lib.hid hTb
  have HL := Lib.hid hE
  clear hwa hba hat hT hEe hTl hEl hTb hTm hEb hcl hXE hok hSl hk hn hxn hnb hxb hbd h2 hX hL hE hS hsl6
  go_enter Tryz.func4, Tryz.ntmps4
  go_upto_region 1 with (fail)
  rw [HWA.out]
  go_wp2_with fail
  refine (HAW.out wa HBA.out).mono ?_
  rintro e w1 ⟨rfl, hb1⟩
  have hat1 := HAT.out.below hb1
  have z0 := hat1.cell 0 rfl
  have z1 := hat1.cell 1 rfl
  have HAT1 := Lib.hid hat1
  have HB1 := Lib.hid (HBA.out.trans (hb1.mono HBA.out.size))
  have hl1 := hat1.lt
  clear hb1 hat1 HAW
  go_wp2_with fail
  refine (HFEW.out w1 HB1.out).mono ?_
  rintro e w2 ⟨v2, rfl, hdo, hb2⟩
  have hdo' := hdo
  obtain ⟨A2, c2, XA2, xc2, ads, rfl, _⟩ := hdo'
  obtain ⟨n2, hn2⟩ : ∃ k, T.length = k := ⟨_, rfl⟩
  obtain ⟨xn2, hxn2⟩ : ∃ k, E.length = k := ⟨_, rfl⟩
  rw [hn2, hxn2] at hdo ⊢
  unfold Md.tv at hdo ⊢
  have hat2 := HAT1.out.below hb2
  have y0 := hat2.cell 0 rfl
  have y1 := hat2.cell 1 rfl
  have y2 := hat2.frozen 0
  have y3 := hat2.frozen 1
  have hl2 := hat2.lt
  have hs1 := hat2.set 0 (.slice A2 n2 c2)
  have hs2 := hs1.set 1 (.slice XA2 xn2 xc2)
  have hd2 := (hdo.set hat2 hl1 0 (.slice A2 n2 c2)).set hs1 hl1 1 (.slice XA2 xn2 xc2)
  have hb3 : Below w.heap.size w ((w2.setCell ⟨w.heap.size, 0, none⟩ (.slice A2 n2 c2)).setCell ⟨w.heap.size, 1, none⟩ (.slice XA2 xn2 xc2)) :=
    ((HB1.out.trans (hb2.mono HB1.out.size)).setCell (p := ⟨w.heap.size, 0, none⟩) (Nat.le_refl _) _).setCell (p := ⟨w.heap.size, 1, none⟩) (Nat.le_refl _) _
  obtain ⟨w3, hw3⟩ : ∃ w3, (w2.setCell ⟨w.heap.size, 0, none⟩ (.slice A2 n2 c2)).setCell ⟨w.heap.size, 1, none⟩ (.slice XA2 xn2 xc2) = w3 := ⟨_, rfl⟩
  rw [hw3] at hs2 hd2 hb3
  have HW3 := Lib.hid hw3
  have HS2 := Lib.hid hs2
  have HD2 := Lib.hid hd2
  have HB3 := Lib.hid hb3
  have hl3 := hs2.lt
  have x0 := hs2.cell 0 rfl
  have x1 := hs2.cell 1 rfl
  have HN2 := Lib.hid hn2
  clear hdo hs1 hs2 hd2 hb3 hw3 hat2 z0 z1 hn2 hxn2 hb2
  go_upto_region 4 with (fail)
  rw [HW3.out]
  clear y0 y1 y2 y3
  go_wp2_with fail
  refine (HOWNC.out _ w3 HD2.out.doc).mono ?_
  rintro e w4 ⟨v4, rfl, hIs, hb4⟩
  have HD4 := Lib.hid (HD2.out.below hb4)
  have HS4 := Lib.hid (HS2.out.below hb4)
  have HB4 := Lib.hid (HB3.out.trans (hb4.mono HB3.out.size))
  have HIS4 := Lib.hid hIs
  clear hb4 x0 x1 hIs HOWNC
  by_cases hk0 : k = 0
  · subst hk0
    have hOK := HOKI.out rfl
    have hOF := Ud.of_any v4 T S w4 HIS4.out hOK hOK.bd
    have HOK := Lib.hid hOK
    clear hOK HBADC HOKI
    go_wp2_with fail
    refine hOF.mono ?_
    rintro e w5 ⟨p, rfl, his, hb5⟩
    obtain ⟨pb, rfl, hpbl⟩ := his.form
    have HI5 := Lib.hid his
    have HD5 := Lib.hid (HD4.out.below hb5)
    have hs5 := HS4.out.below hb5
    have x0 := hs5.cell 0 rfl
    have x1 := hs5.cell 1 rfl
    have hl5 := hs5.lt
    have HS5 := Lib.hid hs5
    have HB5 := Lib.hid (HB4.out.trans (hb5.mono HB4.out.size))
    have hRC := HRC.out _ w5 HD5.out.doc HD5.out.cap
    clear hb5 hs5 his hOF
    go_wp2_with fail
    refine hRC.mono ?_
    rintro e w6 ⟨rfl, hb6⟩
    have HB6 := Lib.hid (HB5.out.trans (hb6.mono HB5.out.size))
    have HI6 := Lib.hid (HI5.out.below hb6)
    have HD6 := Lib.hid (HD5.out.below hb6)
    have HS6 := Lib.hid (HS5.out.below hb6)
    have hNT := F.notes_any w6.heap.size [] .nilIface w6 (Nat.le_refl _) rfl (by decide)
    clear hb6 hRC x0 x1
    have hem : (Md.note 0).toList.isEmpty = true := by kernel_rfl
    go_wp2_with fail
    refine hNT.mono ?_
    rintro e w7 ⟨A7, c7, rfl, _, hb7⟩
    have HB7 := Lib.hid (HB6.out.trans (hb7.mono HB6.out.size))
    have HI7 := Lib.hid (HI6.out.below hb7)
    have HD7 := Lib.hid (HD6.out.below hb7)
    have hs7 := HS6.out.below hb7
    have x0 := hs7.cell 0 rfl
    have x1 := hs7.cell 1 rfl
    have hl7 := hs7.lt
    clear hb7 hNT hs7 hl5 hl3 hl2
    go_wp2_with fail
    obtain ⟨hsee7, _⟩ : Rw.SeesI w7 A2 T ∧ True := by
      obtain ⟨A9, c9, X9, d9, he, hse, hsx⟩ := HD7.out.doc
      simp only [Md.tv, Value.agg.injEq, Array.mk.injEq, List.cons.injEq, Value.slice.injEq, and_true] at he
      obtain ⟨⟨rfl, _, rfl⟩, rfl, _, rfl⟩ := he
      exact ⟨hse, trivial⟩
    have HSEE := Lib.hid hsee7
    clear hsee7 x0 x1
    go_loopw [7, 65] (fun v7 i wr => ∃ j : Nat, j ≤ n2 ∧ i = .int .i64 j ∧ v7 = .int .i64 ((Ud.keep (T.take j)).length : Int) ∧ Below w7.heap.size w7 wr) (fun _ i _ => n2 - (intOf i).toNat)
    case atStart => exact ⟨0, Nat.zero_le _, rfl, rfl, Below.refl _ _⟩
    case round =>
      obtain ⟨j, hj, rfl, rfl, hbel⟩ := hrel
      by_cases hlt : j < n2
      · obtain ⟨r, hr⟩ : ∃ r, T[j]? = some r := ⟨_, List.getElem?_eq_getElem (by rw [HN2.out]; exact hlt)⟩
        have hrm := List.mem_of_getElem? hr
        have hg := HOK.out.good r hrm
        have hgb := Ud.good_bd hg
        obtain ⟨hrc, hrp⟩ := Ud.row_plain HOK.out hrm
        obtain ⟨b, o, a, hA1, hb, c0', c1', c2', hsl⟩ := HSEE.out.row hr
        have c0 := ((bcell hbel).1 b (o + j * 3) hb).trans c0'
        have c1 := ((bcell hbel).1 b (o + j * 3 + 1) hb).trans c1'
        have c2 := ((bcell hbel).1 b (o + j * 3 + 2) hb).trans c2'
        have hbr : b < wr.heap.size := Nat.lt_of_lt_of_le hb hbel.size
        obtain ⟨ml, hmle⟩ : ∃ k, r.2.2.length = k := ⟨_, rfl⟩
        rw [hmle] at c2
        have hnext : (Ud.keep (T.take (j + 1))).length = (Ud.keep (T.take j)).length + (if (decide (0 < r.2.1) || decide (0 < ml)) = true then 1 else 0) := by
          rw [List.take_add_one, hr]
          show (Ud.keep (T.take j ++ [r])).length = _
          rw [Ud.keep_snoc]
          unfold Ud.says
          rw [hmle]
        have hkl : (Ud.keep (T.take j)).length ≤ j := Nat.le_trans (List.length_filter_le _ _) (List.length_take_le _ _)
        obtain ⟨kl, hkle⟩ : ∃ k, (Ud.keep (T.take j)).length = k := ⟨_, rfl⟩
        rw [hkle] at hnext hkl ⊢
        have hn20 : n2 ≤ 20 := by rw [← HN2.out]; exact HTL.out
        obtain ⟨wb, hwb⟩ : ∃ wb, wr.alloc (.cells #[.int .i64 r.1, .int .i64 r.2.1, .slice a.1 ml a.2] 59) = wb := ⟨_, rfl⟩
        have hbb : Below wr.heap.size wr wb := by rw [← hwb]; exact (Below.refl _ _).alloc (Nat.le_refl _) _
        have hatb : Rw.At wb wr.heap.size 59 [.int .i64 r.1, .int .i64 r.2.1, .slice a.1 ml a.2] := by rw [← hwb]; exact Rw.At.new wr 59 [.int .i64 r.1, .int .i64 r.2.1, .slice a.1 ml a.2]
        have HCC : Hid (∀ W, Below w7.heap.size w7 W → Calls Tryz.prog 10 #[.pointer (some ⟨pb, 0, none⟩), .int .i32 r.1] W fun e w' => e = .returned (.int .i64 r.2.1) ∧ Below W.heap.size W w') := Lib.hid fun W hW => by
          have := Ud.class_any _ T S r.1 W HOK.out (HI7.out.below hW)
          rw [hrc] at this
          exact this
        have HCP : Hid (∀ W, Below w7.heap.size w7 W → Calls Tryz.prog 17 #[.pointer (some ⟨pb, 0, none⟩), .int .i32 r.1] W fun e w' => e = .returned (.bool ((ml : Int) == 0)) ∧ Below W.heap.size W w') := Lib.hid fun W hW => by
          have := Ud.plain_any _ T S r.1 W HOK.out (HI7.out.below hW) (by omega) (by omega)
          rw [hrp] at this
          have he : decide (r.2.2 = []) = ((ml : Int) == 0) := by
            rw [Bool.eq_iff_iff, decide_eq_true_iff, beq_iff_eq, ← List.length_eq_zero_iff, hmle]
            omega
          rw [he] at this
          exact this
        have ew : IntKind.i32.wrap r.1 = r.1 := by rw [IntKind.wrap_i32]; omega
        have hcls0 : 0 ≤ r.2.1 := hg.2.1
        have HWB := Lib.hid hwb
        have HATB := Lib.hid hatb
        have HBB := Lib.hid (hbel.trans (hbb.mono hbel.size))
        have HUP : Hid (∀ W, Below wb.heap.size wb W → Below w7.heap.size w7 W) := Lib.hid fun W hW => HBB.out.trans (hW.mono HBB.out.size)
        have HNXT := Lib.hid hnext
        have x0 := hatb.cell 0 rfl
        have x1 := hatb.cell 1 rfl
        have x2 := hatb.cell 2 rfl
        have xl := hatb.lt
        have jI : (j : Int) < n2 := by omega
        have j0 : (0 : Int) ≤ j := by omega
        subst hA1
        clear c0' c1' c2' hsl hr hrm hg hgb hrc hrp hmle hnext hkle hwb hbb hatb hbel
        go_upto_region 15 with (fail)
        rw [HWB.out]
        obtain ⟨sy, hsy⟩ : ∃ sy, (decide (0 < r.2.1) || decide (0 < ml)) = sy := ⟨_, rfl⟩
        obtain ⟨cl, hcl⟩ : ∃ cl, r.2.1 = cl := ⟨_, rfl⟩
        rw [hcl] at x1 hsy
        go_cut [77] (fun s wx => s = .bool sy ∧ wx = wb)
        case first =>
          by_cases hc : (0 : Int) < cl
          · have hc' : cl > 0 := hc
            have hs : sy = true := by rw [← hsy]; simp [hc]
            subst hs
            clear hsy
            go_wp2_with fail
            go_meet
            exact ⟨rfl, rfl⟩
          · have hc' : ¬ cl > 0 := hc
            by_cases hm : 0 < ml
            · have hm' : (ml : Int) > 0 := by omega
              have hs : sy = true := by rw [← hsy]; simp [hm]
              subst hs
              clear hsy
              go_wp2_with fail
              go_meet
              exact ⟨rfl, rfl⟩
            · have hm' : ¬ (ml : Int) > 0 := by omega
              have hs : sy = false := by rw [← hsy]; simp [hm, hc]
              subst hs
              clear hsy
              go_wp2_with fail
              go_meet
              exact ⟨rfl, rfl⟩
        case rest =>
          obtain ⟨rfl, hwc⟩ := hcut
          subst hwc
          go_upto_if 77 with (fail)
          go_cut [7] (fun s wx => s = .int .i64 ((kl + if sy = true then 1 else 0 : Nat) : Int) ∧ wx = wc)
          case first =>
            cases sy with
            | true =>
              go_wp2_with fail
              go_meet
              exact ⟨by go_num, rfl⟩
            | false =>
              go_wp2_with fail
              go_meet
              exact ⟨by go_num, rfl⟩
          case rest =>
            obtain ⟨rfl, hwc⟩ := hcut
            subst hwc
            subst hcl
            have hnx := HNXT.out
            rw [hsy] at hnx
            have HNX := Lib.hid hnx
            clear hsy hnx HNXT x0 x1 x2 c0 c1 c2
            obtain ⟨cnt, hcnt⟩ : ∃ cnt : Nat, kl + (if sy = true then 1 else 0) = cnt := ⟨_, rfl⟩
            rw [hcnt] at HNX ⊢
            clear hcnt
            have hcne : (r.2.1 != r.2.1) = false := by simp
            have hbne : (((ml : Int) == 0) != ((ml : Int) == 0)) = false := by simp
            have xl2 := HATB.out.lt
            go_upto_region 17 with (fail)
            refine Stg.wp_region Stg.Ex Stg.Ex.rel (by kernel_rfl) (by kernel_rfl) (by kernel_rfl) ?_
            have f0 := Stg.cells (w := wc.drew) (HATB.out.cell 0 rfl) HATB.out.lt
            have f1 := Stg.cells (w := wc.drew) (HATB.out.cell 1 rfl) HATB.out.lt
            refine Stg.readW (by kernel_rfl) (by kernel_rfl) (by kernel_rfl) ?_; intro K hK; go_big_quiet_op; go_big_quiet_on
            refine Stg.readW (by kernel_rfl) (by kernel_rfl) (by kernel_rfl) ?_; intro K hK; go_big_quiet_op; go_big_quiet_on
            refine Stg.read 0 (by kernel_rfl) (by kernel_rfl) (by kernel_rfl) wc.drew rfl (by kernel_rfl) ?_; intro K hK; go_big_quiet_op; go_big_quiet_on
            refine Stg.readW (by kernel_rfl) (by kernel_rfl) (by kernel_rfl) ?_; intro K hK; go_big_quiet_op; go_big_quiet_on
            refine Stg.call 10 _ _ rfl (C.enter Tryz.func10 (by kernel_rfl) rfl) [.pointer (some ⟨pb, 0, none⟩), .int .i32 r.1] rfl wc.drew _ (HCC.out _ (HUP.out _ (Below.refl _ _).drew)) (by kernel_rfl) rfl (by kernel_rfl) ?_
            rintro e q1 ⟨rfl, hb⟩; refine ⟨_, rfl, hb, ?_⟩; have HQ1 : Hid (Below wc.heap.size wc q1) := Lib.hid ((Below.refl _ _).drew.trans hb); clear hb; intro A' hA'; simp only [Act.put, List.setIfInBounds_toArray, List.set_cons_succ, List.set_cons_zero] at hA'; subst hA'
            refine Stg.readW (by kernel_rfl) (by kernel_rfl) (by kernel_rfl) ?_; intro K hK; go_big_quiet_op; go_big_quiet_on
            refine Stg.read 1 (by kernel_rfl) (by kernel_rfl) (by kernel_rfl) wc.drew rfl (by kernel_rfl) ?_; intro K hK; go_big_quiet_op; go_big_quiet_on
            refine Stg.readW (by kernel_rfl) (by kernel_rfl) (by kernel_rfl) ?_; intro K hK; go_big_quiet_op; go_big_quiet_on
            refine Stg.readW (by kernel_rfl) (by kernel_rfl) (by kernel_rfl) ?_; intro K hK; go_big_quiet_op; go_big_quiet_on
            clear f0 f1
            have g0 := Stg.cells (w := q1) ((HATB.out.below HQ1.out).cell 0 rfl) (HATB.out.below HQ1.out).lt
            have g2 := Stg.cells (w := q1) ((HATB.out.below HQ1.out).cell 2 rfl) (HATB.out.below HQ1.out).lt
            refine Stg.readW (by kernel_rfl) (by kernel_rfl) (by kernel_rfl) ?_; intro K hK; go_big_quiet_op; go_big_quiet_on
            refine Stg.readW (by kernel_rfl) (by kernel_rfl) (by kernel_rfl) ?_; intro K hK; go_big_quiet_op; go_big_quiet_on
            refine Stg.read 0 (by kernel_rfl) (by kernel_rfl) (by kernel_rfl) q1 rfl (by kernel_rfl) ?_; intro K hK; go_big_quiet_op; go_big_quiet_on
            refine Stg.readW (by kernel_rfl) (by kernel_rfl) (by kernel_rfl) ?_; intro K hK; go_big_quiet_op; go_big_quiet_on
            refine Stg.call 17 _ _ rfl (C.enter Tryz.func17 (by kernel_rfl) rfl) [.pointer (some ⟨pb, 0, none⟩), .int .i32 r.1] rfl q1 _ (HCP.out _ (HUP.out _ HQ1.out)) (by kernel_rfl) rfl (by kernel_rfl) ?_
            rintro e q2 ⟨rfl, hb⟩; refine ⟨_, rfl, hb, ?_⟩; have HQ2 : Hid (Below wc.heap.size wc q2) := Lib.hid (HQ1.out.trans (hb.mono HQ1.out.size)); clear hb; intro A' hA'; simp only [Act.put, List.setIfInBounds_toArray, List.set_cons_succ, List.set_cons_zero] at hA'; subst hA'
            refine Stg.readW (by kernel_rfl) (by kernel_rfl) (by kernel_rfl) ?_; intro K hK; go_big_quiet_op; go_big_quiet_on
            refine Stg.read 1 (by kernel_rfl) (by kernel_rfl) (by kernel_rfl) q1 rfl (by kernel_rfl) ?_; intro K hK; go_big_quiet_op; go_big_quiet_on
            refine Stg.readW (by kernel_rfl) (by kernel_rfl) (by kernel_rfl) ?_; intro K hK; go_big_quiet_op; go_big_quiet_on
            refine Stg.readW (by kernel_rfl) (by kernel_rfl) (by kernel_rfl) ?_; intro K hK; go_big_quiet_op; go_big_quiet_on
            refine Stg.readW (by kernel_rfl) (by kernel_rfl) (by kernel_rfl) ?_; intro K hK; go_big_quiet_op; go_big_quiet_on
            refine Stg.readW (by kernel_rfl) (by kernel_rfl) (by kernel_rfl) ?_; intro K hK; go_big_quiet_op; go_big_quiet_on
            refine Stg.nil q2 rfl ?_
            have HBN := Lib.hid (HUP.out _ HQ2.out)
            clear HQ1 HQ2 HCC HCP HUP HATB HWB HBB g0 g2
            go_wp2_with fail
            exact ⟨⟨j + 1, by omega, by go_num, by rw [HNX.out], HBN.out⟩, by simp [intOf]; omega⟩
      · obtain rfl : j = n2 := by omega
        have jI : ¬ ((j : Int) < j) := by omega
        obtain ⟨wz, rfl⟩ : ∃ wz : World, wz = wr := ⟨_, rfl⟩
        have hfull : (T.take j) = T := List.take_of_length_le (by rw [HN2.out]; exact Nat.le_refl _)
        rw [hfull]
        have HTB := Lib.hid (Ud.table_any _ T S wz HOK.out (HI7.out.below hbel))
        have HBZ := Lib.hid (HB7.out.trans (hbel.mono HB7.out.size))
        clear hfull hbel HSEE HI7 HD7
        go_wp2_with fail
        refine HTB.out.mono ?_
        rintro e w8 ⟨A8, c8, XA8, xc8, rfl, _, _, hb8⟩
        have HB8 := Lib.hid (HBZ.out.trans (hb8.mono HBZ.out.size))
        obtain ⟨kn, hkn⟩ : ∃ kn, (Ud.keep T).length = kn := ⟨_, rfl⟩
        rw [hkn]
        obtain ⟨sn, hsn⟩ : ∃ sn, S.length = sn := ⟨_, rfl⟩
        rw [hsn]
        have hrun := fun W => Ud.run_rows A8 XA8 kn c8 sn xc8 W
        clear hb8 HTB hkn hsn
        go_wp2_with fail
        go_ret
        exact ⟨ret_bool (by simp), HB8.out⟩
  · have hem := Md.note_some hk0 hk5
    have hne : ¬ Md.note k = ⟨#[]⟩ := fun e => by
      rw [e] at hem
      revert hem
      decide +kernel
    have hOB := HBADC.out hk0 v4 w4 HIS4.out
    clear HOKI HBADC
    go_wp2_with fail
    refine hOB.mono ?_
    rintro e w5 ⟨fb, x, q, v5, rfl, hch, hlk, hb5⟩
    have HLK := Lib.hid hlk
    have HCH := Lib.hid hch
    have HD5 := Lib.hid (HD4.out.below hb5)
    have hs5 := HS4.out.below hb5
    have x0 := hs5.cell 0 rfl
    have x1 := hs5.cell 1 rfl
    have hl5 := hs5.lt
    have HB5 := Lib.hid (HB4.out.trans (hb5.mono HB4.out.size))
    have hRC := Lib.hid (HRC.out _ w5 HD5.out.doc HD5.out.cap)
    have hfm : ∃ u, v5 = .iface 112 (.pointer (some ⟨u, 0, none⟩)) := by
      obtain ⟨rfl, _⟩ := hch
      exact ⟨_, rfl⟩
    obtain ⟨fu, rfl⟩ := hfm
    clear hb5 hs5 hch hlk hOB
    go_wp2_with fail
    refine hRC.out.mono ?_
    rintro e w6 ⟨rfl, hb6⟩
    have HB6 := Lib.hid (HB5.out.trans (hb6.mono HB5.out.size))
    have hch6 := HCH.out.below hb6 (Nat.le_refl _) hb6.size
    have hfull : F.lk ((fb, 8, 0, Ud.tblN) :: x :: q) = [(8, 0, Ud.tblN), (8, 0, Md.note k)] := by
      show (8, 0, Ud.tblN) :: F.lk (x :: q) = _
      rw [HLK.out]
    have hqn : ((fb, (8 : Int), (0 : Int), Ud.tblN) :: x :: q).length ≤ 1000000 := by
      rw [← F.lk_len, hfull]
      exact (by decide : 2 ≤ 1000000)
    have hnt := F.notes_any w6.heap.size ((fb, 8, 0, Ud.tblN) :: x :: q) _ w6 (Nat.le_refl _) hch6 hqn
    rw [hfull] at hnt
    have hn1 : F.notes [((8 : Int), (0 : Int), Ud.tblN), (8, 0, Md.note k)] = [Ud.tblN, Md.note k] := by
      unfold F.notes
      rw [if_neg (by decide +kernel : ¬ Ud.tblN = ⟨#[]⟩)]
      unfold F.notes
      rw [if_neg hne]
      rfl
    rw [hn1] at hnt
    have HNT := Lib.hid hnt
    have HCH6 := Lib.hid hch6
    have HFULL := Lib.hid hfull
    clear hb6 hch6 hqn hnt hn1 hfull hRC x0 x1
    go_wp2_with fail
    refine HNT.out.mono ?_
    rintro e w7 ⟨A7, c7, rfl, hown7, hb7⟩
    have hs7 := Sl.of_own hown7 (by simp)
    have HB7 := Lib.hid (HB6.out.trans (hb7.mono HB6.out.size))
    have HCH7 := Lib.hid (HCH6.out.below hb7 (Nat.le_refl _) hb7.size)
    obtain ⟨g7, o7, rfl, hg7, hc7⟩ := hs7
    have hs70 : w7.cell? ⟨g7, o7, none⟩ = some (.string Ud.tblN) := by simpa using hc7 0 (by simp)
    have hs71 : w7.cell? ⟨g7, o7 + 1, none⟩ = some (.string (Md.note k)) := by simpa using hc7 1 (by simp)
    have HS70 := Lib.hid hs70
    have HS71 := Lib.hid hs71
    have HLE := Lib.hid (HL.out.next HB7.out)
    have hc8 : F.code (F.lk ((fb, 8, 0, ⟨#[116, 97, 98, 108, 101]⟩) :: x :: q)) = 8 := by
      have := HFULL.out
      unfold Ud.tblN at this
      rw [this]
      rfl
    have hCO0 := F.codeE_any w7.heap.size _ _ w7 HLE.out (Nat.le_refl _) HCH7.out
    rw [hc8] at hCO0
    have hCO := Lib.hid hCO0
    clear hCO0 hc8
    clear hb7 hown7 hc7 hs70 hs71
    go_wp2_with fail
    refine hCO.out.mono ?_
    rintro e w8 ⟨rfl, hb8⟩
    have HB8 := Lib.hid (HB7.out.trans (hb8.mono HB7.out.size))
    have HCH8 := Lib.hid (HCH7.out.below hb8 (Nat.le_refl _) hb8.size)
    have s80 := ((bcell hb8).1 _ _ hg7).trans HS70.out
    have s81 := ((bcell hb8).1 _ _ hg7).trans HS71.out
    have hg8 := Nat.lt_of_lt_of_le hg7 hb8.size
    have hcq : F.code (F.lk (x :: q)) = 8 := by rw [HLK.out]; rfl
    have hIN := Ud.innerE_any fb 8 0 Ud.tblN (x :: q) _ w8 (HL.out.next HB8.out) HCH8.out (by rw [hcq]; decide)
    rw [hcq] at hIN
    have HIN := Lib.hid hIN
    clear hb8 hcq hIN hCO
    unfold Ud.tblN at s80
    go_wp2_with fail
    refine HIN.out.mono ?_
    rintro e w9 ⟨rfl, hb9⟩
    have HB9 := Lib.hid (HB8.out.trans (hb9.mono HB8.out.size))
    clear hb9
    go_wp2_with fail
    go_ret
    exact ⟨ret_bool (by simp), HB9.out⟩
end Go.Proofs.YtkmfegamblmpeaaGreatDoor
