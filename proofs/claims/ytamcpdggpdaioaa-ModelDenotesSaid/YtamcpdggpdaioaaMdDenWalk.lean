/- The law ModelDenotes, by walking its text. -/
import Derived.Test.YtamcpdggpdaioaaCpArgs
import Derived.Test.YtamcpdggpdaioaaMdOwn
import Derived.Test.YtamcpdggpdaioaaMdRight
import Derived.Test.YtamcpdggpdaioaaMdCheck
import Derived.Test.YtamcpdggpdaioaaMdRef5
import Derived.Test.YtamcpdggpdaioaaFaCh
import Derived.Test.YtamcpdggpdaioaaCpAll
import Derived.Test.YtamcpdggpdaioaaCpChPlain3
import Derived.Test.YtamcpdggpdaioaaStage
import Derived.Test.YtamcpdggpdaioaaChar
namespace Go.Proofs.Ytamcpdggpdaioaa
open Go.RowKit
set_option linter.unusedSimpArgs false
set_option linter.unusedVariables false

theorem Md.mem_chars {E : List Int} (h : ∀ c ∈ E, C.isC c = true) : C.mem (C.chars E) = Md.xs E := by
  funext d
  rw [(C.chars_spec _).2 d]
  unfold Md.xs
  by_cases hd : d ∈ E
  · rw [h d hd, Bool.and_true]
  · rw [decide_eq_false hd, Bool.false_and]
theorem Sl.setAt {w : World} {B : Nat} {A : Option Addr} {xs cs : List Value} {b : Nat} {t : TypeId} (h : Sl w B A xs) (hat : Rw.At w b t cs) (hd : ∀ x, xs[0]? = some x → x ∉ cs) (i : Nat) (v : Value) : Sl (w.setCell ⟨b, i, none⟩ v) B A xs := by
  intro hx
  obtain ⟨g, o, hA, hg, hc⟩ := h hx
  have hne : g ≠ b := fun e => by
    subst e
    have h0 := hc 0 hx
    rw [List.getElem?_eq_getElem hx] at h0
    refine hd _ (List.getElem?_eq_getElem hx) ?_
    unfold Rw.At at hat
    simp [World.cell?, hat] at h0
    exact List.mem_of_getElem? h0
  refine ⟨g, o, hA, hg, fun j hj => ?_⟩
  rw [← hc j hj]
  have he := Below.heap_setCell w ⟨b, i, none⟩ v g hne
  unfold World.cell?
  simp only [he]
theorem Md.Doc.setAt {w : World} {v : Value} {T : List Rw.Row} {E : List Int} (h : Md.Doc w v T E) {b : Nat} {A0 A1 : Option Addr} {n0 c0 n1 c1 : Nat} {t : TypeId} (hat : Rw.At w b t [.slice A0 n0 c0, .slice A1 n1 c1]) (i : Nat) (u : Value) : Md.Doc (w.setCell ⟨b, i, none⟩ u) v T E := by
  have hi : ∀ (l : List Int) x, (l.map (Value.int .i64))[0]? = some x → x ∉ [Value.slice A0 n0 c0, Value.slice A1 n1 c1] := by
    intro l x hx hm
    cases l with
    | nil => simp at hx
    | cons y l => simp at hx; subst hx; simp at hm
  obtain ⟨A, c, XA, xc, rfl, ⟨ads, hl, hs, hm⟩, hx⟩ := h
  refine ⟨A, c, XA, xc, rfl, ⟨ads, hl, ?_, fun j r a h1 h2 => ?_⟩, ?_⟩
  · rw [World.size_setCell]
    refine hs.setAt hat (fun x hx hm => ?_) i u
    cases T with
    | nil => simp [Rw.flI] at hx
    | cons r T =>
      cases ads with
      | nil => simp at hl
      | cons a ads => simp [Rw.flI] at hx; subst hx; simp at hm
  · rw [World.size_setCell]
    exact (hm j r a h1 h2).setAt hat (hi _) i u
  · rw [World.size_setCell]
    exact hx.setAt hat (hi _) i u

set_option maxRecDepth 100000 in
set_option maxHeartbeats 4000000 in
theorem Md.denotes_any (A XA : Option Addr) (n c xn xc : Nat) (T0 : List Rw.Row) (E0 : List Int) (c0 : Int) (w : World) (hn : T0.length = n) (hxn : E0.length = xn) (hnb : n ≤ maxLen) (hxb : xn ≤ maxLen) (hbd : ∀ r ∈ T0, Rw.bounds r) (h2 : Rw.SeesI w A T0) (hX : Sl w w.heap.size XA (E0.map (Value.int .i64))) :
    Calls Try.prog 6 #[.agg #[.slice A n c, .slice XA xn xc], .int .i64 c0] w fun e w' => e = .returned (.bool true) ∧ Below w.heap.size w w' := by
  obtain ⟨i0, hi0, hz0, hz1, hz2⟩ := info_parts infoInt
  obtain ⟨wa, hwa⟩ : ∃ wa, w.alloc (.cells #[.slice A n c, .slice XA xn xc] 44) = wa := ⟨_, rfl⟩
  have hba : Below w.heap.size w wa := by rw [← hwa]; exact (Below.refl _ _).alloc (Nat.le_refl _) _
  have hat : Rw.At wa w.heap.size 44 [.slice A n c, .slice XA xn xc] := by rw [← hwa]; exact Rw.At.new w 44 [.slice A n c, .slice XA xn xc]
  have HWA := Lib.hid hwa
  have HBA := Lib.hid hba
  have HAT := Lib.hid hat
  have HRIGHT : Hid (∀ W, Below w.heap.size w W → Calls Try.prog 16 #[.agg #[.slice A n c, .slice XA xn xc]] W (Md.RetRight W)) := Lib.hid fun W hW =>
    Md.right_any A XA n c xn xc T0 E0 W hn hxn hnb hxb hbd (h2.below hW) (hX.below hW hW.size)
  clear hwa hba hat hn hxn hnb hxb hbd h2 hX
  go_enter Try.func6, Try.ntmps6
  go_upto_region 1 with (fail)
  rw [HWA.out]
  go_wp2_with fail
  refine (Md.awake_any _).mono ?_
  rintro e w1 ⟨rfl, hb1⟩
  have hat1 := HAT.out.below hb1
  have z0 := hat1.cell 0 rfl
  have z1 := hat1.cell 1 rfl
  have HAT1 := Lib.hid hat1
  have HB1 := Lib.hid (HBA.out.trans (hb1.mono HBA.out.size))
  have hl1 := hat1.lt
  clear hb1 hat1
  go_wp2_with fail
  refine (HRIGHT.out w1 HB1.out).mono ?_
  rintro e w2 ⟨v2, T, E, rfl, hdo, hcap, hTl, hEl, hrok, hEc, hchk, hb2⟩
  obtain ⟨hgood, hrise, _, _⟩ := Md.chk_none hchk
  have hTbd : Md.bd T := fun r hr => ⟨(hrok r hr).1, (hrok r hr).2.2.2.1⟩
  have hTml : ∀ r ∈ T, r.2.2.length ≤ 2 := fun r hr => (hrok r hr).2.2.1
  have hOk : Md.Ok T := ⟨by omega, hrise, hTbd, fun r hr => Nat.le_trans (hTml r hr) (by decide)⟩
  have hEb : ∀ x ∈ E, -2147483648 ≤ x ∧ x ≤ 2147483647 := fun x hx => by have := hEc x hx; simp only [C.isC, Bool.and_eq_true, Bool.or_eq_true, decide_eq_true_eq] at this; omega
  have hMem := Md.mem_chars hEc
  have hSrt := (C.chars_spec E).1.1
  have hSl := C.chars_len E
  obtain ⟨S, hS⟩ : ∃ S, C.chars E = S := ⟨_, rfl⟩
  have hOWN : ∀ v W, Md.Doc W v T E → Calls Try.prog 17 #[v] W fun e w' => ∃ v', e = .returned v' ∧ Md.Is w' v' T S ∧ Below W.heap.size W w' := fun v W h => by
    rw [← hS]
    exact Md.own_any v T E W (by omega) (by omega) hTbd (fun r hr => Nat.le_trans (hTml r hr) (by decide)) hEb h
  rw [hS] at hMem hSrt hSl
  have hCHK : ∀ v W, Md.Is W v T S → Calls Try.prog 18 #[v] W fun e w' => e = .returned .nilIface ∧ Below W.heap.size W w' := fun v W h => by
    refine (Md.check_any v T S W (by omega) hTbd (fun r hr => Nat.le_trans (hTml r hr) (by decide)) h hSrt (by omega)).mono ?_
    rintro e w' ⟨q, v, rfl, hq, hqv, hb⟩
    rw [hMem, hchk] at hq
    obtain rfl : q = [] := by
      cases q with
      | nil => rfl
      | cons x l => simp [F.lk, Md.err] at hq
    obtain rfl : v = .nilIface := hqv
    exact ⟨rfl, hb⟩
  have HOWN := Lib.hid hOWN
  have HCHK := Lib.hid hCHK
  have HOK := Lib.hid hOk
  have HTBD := Lib.hid hTbd
  have HTML := Lib.hid hTml
  have HMEM := Lib.hid hMem
  have HSRT := Lib.hid hSrt
  have hSl2 : S.length ≤ 1000000 := by omega
  have HSL := Lib.hid hSl2
  have HCHZ := Lib.hid hchk
  have HEL := Lib.hid hEl
  have HTL := Lib.hid hTl
  obtain ⟨A2, c2, XA2, xc2, rfl, hdo2⟩ := id hdo
  obtain ⟨n2, hn2⟩ : ∃ k, T.length = k := ⟨_, rfl⟩
  obtain ⟨xn2, hxn2⟩ : ∃ k, E.length = k := ⟨_, rfl⟩
  rw [hn2, hxn2] at hdo ⊢
  have hn20 : n2 ≤ 20 := by omega
  unfold Md.tv at hdo ⊢
  have hat2 := HAT1.out.below hb2
  have y0 := hat2.cell 0 rfl
  have y1 := hat2.cell 1 rfl
  have y2 := hat2.frozen 0
  have y3 := hat2.frozen 1
  have hl2 := hat2.lt
  have hs1 := hat2.set 0 (.slice A2 n2 c2)
  have hs2 := hs1.set 1 (.slice XA2 xn2 xc2)
  have hd2 := (hdo.setAt hat2 0 (.slice A2 n2 c2)).setAt hs1 1 (.slice XA2 xn2 xc2)
  have hb3 : Below w.heap.size w ((w2.setCell ⟨w.heap.size, 0, none⟩ (.slice A2 n2 c2)).setCell ⟨w.heap.size, 1, none⟩ (.slice XA2 xn2 xc2)) :=
    ((HB1.out.trans (hb2.mono HB1.out.size)).setCell (p := ⟨w.heap.size, 0, none⟩) (Nat.le_refl _) _).setCell (p := ⟨w.heap.size, 1, none⟩) (Nat.le_refl _) _
  obtain ⟨w3, hw3⟩ : ∃ w3, (w2.setCell ⟨w.heap.size, 0, none⟩ (.slice A2 n2 c2)).setCell ⟨w.heap.size, 1, none⟩ (.slice XA2 xn2 xc2) = w3 := ⟨_, rfl⟩
  rw [hw3] at hs2 hd2 hb3
  have HW3 := Lib.hid hw3
  have HS2 := Lib.hid hs2
  have HD2 := Lib.hid hd2
  have HB3 := Lib.hid hb3
  have hl3 := hs2.lt
  have x0 := hs2.cell 0 rfl
  have x1 := hs2.cell 1 rfl
  have HN2 := Lib.hid hn2
  have HXN2 := Lib.hid hxn2
  clear hdo hdo2 hs1 hs2 hd2 hb3 hw3 hat2 z0 z1 hn2 hxn2 hb2 hcap hTl hEl hrok hEc hchk hgood hrise hTbd hTml hOk hEb hMem hSrt hSl hSl2 hOWN hCHK hS HAT HBA HWA HRIGHT
  go_upto_region 4 with (fail)
  rw [HW3.out]
  clear y0 y1 y2 y3
  go_wp2_with fail
  refine (HOWN.out _ w3 HD2.out).mono ?_
  rintro e w4 ⟨v4, rfl, hIs, hb4⟩
  have hIs' := hIs
  obtain ⟨A4, c4, XA4, xc4, rfl, _⟩ := hIs'
  rw [HN2.out] at hIs ⊢
  obtain ⟨sn, hsn⟩ : ∃ k, S.length = k := ⟨_, rfl⟩
  rw [hsn] at hIs ⊢
  unfold Md.tv at hIs ⊢
  have HSN := Lib.hid hsn
  have hD4 := HD2.out.below hb4
  have hS4 := HS2.out.below hb4
  have hB4 := HB3.out.trans (hb4.mono HB3.out.size)
  have hba5 : Below w4.heap.size w4 (w4.alloc (.cells #[.slice A4 n2 c4, .slice XA4 sn xc4] 51)) := (Below.refl _ _).alloc (Nat.le_refl _) _
  have hat5 := Rw.At.new w4 51 [.slice A4 n2 c4, .slice XA4 sn xc4]
  obtain ⟨w5, hw5⟩ : ∃ w5, w4.alloc (.cells #[.slice A4 n2 c4, .slice XA4 sn xc4] 51) = w5 := ⟨_, rfl⟩
  rw [hw5] at hba5
  have hat5' : Rw.At w5 w4.heap.size 51 [.slice A4 n2 c4, .slice XA4 sn xc4] := by rw [← hw5]; exact hat5
  have HW5 := Lib.hid hw5
  have HAT5 := Lib.hid hat5'
  have HIS5 := Lib.hid (hIs.below hba5)
  have HD5 := Lib.hid (hD4.below hba5)
  have HS5 := Lib.hid (hS4.below hba5)
  have HB5 := Lib.hid (hB4.trans (hba5.mono hB4.size))
  have hsz5 : w4.heap.size + 1 = w5.heap.size := by rw [← hw5]; simp
  have HSZ5 := Lib.hid hsz5
  clear hb4 x0 x1 hIs hsn hD4 hS4 hB4 hba5 hat5 hat5' hw5 hsz5
  go_upto_region 5 with (fail)
  rw [HW5.out]
  have q0 := HAT5.out.cell 0 rfl
  have q1 := HAT5.out.cell 1 rfl
  have q2 := HAT5.out.lt
  go_wp2_with fail
  refine (HCHK.out _ w5 HIS5.out).mono ?_
  rintro e w6 ⟨rfl, hb6⟩
  have HAT6 := Lib.hid (HAT5.out.below hb6)
  have HIS6 := Lib.hid (HIS5.out.below hb6)
  have HD6 := Lib.hid (HD5.out.below hb6)
  have HS6 := Lib.hid (HS5.out.below hb6)
  have HB6 := Lib.hid (HB5.out.trans (hb6.mono HB5.out.size))
  have x0 := HS6.out.cell 0 rfl
  have x1 := HS6.out.cell 1 rfl
  have x2 := HS6.out.lt
  clear hb6 q0 q1 q2 HAT5 HIS5 HD5 HS5 HB5 HSZ5 HW5 HS2 HD2 HB3 HW3 HAT1 HB1 hl1 hl2 hl3
  go_wp2_with fail
  refine (Ch.char_any c0 w6).mono ?_
  rintro e w7 ⟨rfl, rfl⟩
  have hk0 := Ch.K_bd c0
  obtain ⟨k0, hk⟩ : ∃ k, Ch.K c0 = k := ⟨_, rfl⟩
  rw [hk] at hk0 ⊢
  have ek0 : IntKind.i64.wrap k0 = k0 := by rw [IntKind.wrap_i64]; omega
  obtain ⟨w8, hw8⟩ : ∃ w8, w6.alloc (.cells #[.int .i64 k0, .int .i64 4352, .int .i64 44033, .int .i64 65] 3) = w8 := ⟨_, rfl⟩
  have hb8 : Below w6.heap.size w6 w8 := by rw [← hw8]; exact (Below.refl _ _).alloc (Nat.le_refl _) _
  have hown8 : w8.ownsRow w6.heap.size 3 1 (.slice (some ⟨w6.heap.size, 0, none⟩) 4 4) 4 (([k0, 4352, 44033, 65] : List Int).map (Value.int .i64)) := by
    rw [← hw8]
    exact World.ownsRow_lit w6 #[.int .i64 k0, .int .i64 4352, .int .i64 44033, .int .i64 65] 4 (Nat.le_refl _) (by decide) rfl
  have HW8 := Lib.hid hw8
  have HB8 := Lib.hid hb8
  have HOWN8 := Lib.hid hown8
  clear hk hw8 hb8 hown8
  go_upto_region 9 with (fail)
  rw [HW8.out]
  have HS8 := Lib.hid (HS6.out.below HB8.out)
  clear x0 x1 x2
  have x0 := HS8.out.cell 0 rfl
  have x1 := HS8.out.cell 1 rfl
  have x2 := HS8.out.lt
  clear ek0
  go_wp2_with fail
  go_loopw [6, 33] (fun v6 i wr => ∃ (j : Nat) (v : Value) (xs : List Int), j ≤ n2 ∧ i = .int .i64 j ∧ v6 = v ∧ wr.ownsRow w6.heap.size 3 1 v xs.length (xs.map (Value.int .i64)) ∧ (∀ x ∈ xs, -2147483648 ≤ x ∧ x ≤ 2147483647) ∧ xs.length ≤ 4 + j * 3 ∧ Below w6.heap.size w6 wr) (fun _ i _ => n2 - (intOf i).toNat)
  case atStart => exact ⟨0, _, [k0, 4352, 44033, 65], Nat.zero_le _, rfl, rfl, HOWN8.out, by simp; omega, by simp, HB8.out⟩
  case round =>
    obtain ⟨j, v6', xs, hj, rfl, rfl, hown, hxb, hxl, hbel⟩ := hrel
    have hbw : Below w6.heap.size w6 wr := hbel
    have HOWN := Lib.hid hown
    have HXB := Lib.hid hxb
    have HBEL := Lib.hid hbel
    by_cases hlt : j < n2
    · obtain ⟨r, hr⟩ : ∃ r, T[j]? = some r := ⟨_, List.getElem?_eq_getElem (by rw [HN2.out]; exact hlt)⟩
      have hrm := List.mem_of_getElem? hr
      have hrb := HTBD.out r hrm
      have hrl := HTML.out r hrm
      obtain ⟨Ax, cx, XAx, xcx, hvx, hsee, _⟩ := HD6.out
      simp only [Md.tv, Value.agg.injEq, Array.mk.injEq, List.cons.injEq, Value.slice.injEq, and_true] at hvx
      obtain rfl := hvx.1.1
      clear hvx
      obtain ⟨b, o, a, hA1, hb, c0', c1', c2', hsl⟩ := hsee.row hr
      have c0 := ((bcell hbw).1 b (o + j * 3) hb).trans c0'
      have c1 := ((bcell hbw).1 b (o + j * 3 + 1) hb).trans c1'
      have c2 := ((bcell hbw).1 b (o + j * 3 + 2) hb).trans c2'
      have hbr : b < wr.heap.size := Nat.lt_of_lt_of_le hb hbw.size
      obtain ⟨ml, hmle⟩ : ∃ k, r.2.2.length = k := ⟨_, rfl⟩
      rw [hmle] at c2 hrl
      have jI : (j : Int) < n2 := by omega
      have j0' : (0 : Int) ≤ j := by omega
      obtain ⟨wb, hwb⟩ : ∃ wb, wr.alloc (.cells #[.int .i64 r.1, .int .i64 r.2.1, .slice a.1 ml a.2] 58) = wb := ⟨_, rfl⟩
      have hatb : Rw.At wb wr.heap.size 58 [.int .i64 r.1, .int .i64 r.2.1, .slice a.1 ml a.2] := by rw [← hwb]; exact Rw.At.new wr 58 [.int .i64 r.1, .int .i64 r.2.1, .slice a.1 ml a.2]
      have hbb : Below wr.heap.size wr wb := by rw [← hwb]; exact (Below.refl _ _).alloc (Nat.le_refl _) _
      have HWB := Lib.hid hwb
      have HATB := Lib.hid hatb
      have HBB := Lib.hid hbb
      have HOWNB := Lib.hid (own_below hown hbb (Nat.le_refl _))
      have HSLB := Lib.hid ((hsl.below hbw (Nat.le_refl _)).below (hbb.mono hbw.size) (Nat.le_refl _))
      have HMLE := Lib.hid hmle
      subst hA1
      clear c0' c1' c2' hsl hbw hown hxb hbel hr hrm hmle hwb hatb hbb hsee
      go_upto_region 12 with (fail)
      rw [HWB.out]
      go_wp2_with fail
      refine Stg.wp_region (Stg.Keep wr.heap.size) (Stg.Keep.rel _) (by kernel_rfl) (by kernel_rfl) (by kernel_rfl) ?_
      have e0 := Stg.Keep.cells (w := wb.drew) (HATB.out.cell 0 rfl)
      have e2 := Stg.Keep.cells (w := wb.drew) (HATB.out.cell 2 rfl)
      refine Stg.read 0 (by kernel_rfl) (by kernel_rfl) (by kernel_rfl) wb.drew rfl (by kernel_rfl) ?_; intro K hK; go_big_quiet_op; go_big_quiet_on
      refine Stg.read 0 (by kernel_rfl) (by kernel_rfl) (by kernel_rfl) wb.drew rfl (by kernel_rfl) ?_; intro K hK; go_big_quiet_op; go_big_quiet_on
      refine Stg.read 0 (by kernel_rfl) (by kernel_rfl) (by kernel_rfl) wb.drew rfl (by kernel_rfl) ?_; intro K hK; go_big_quiet_op; go_big_quiet_on
      refine Stg.stepW wb.drew (by kernel_rfl) (by kernel_rfl) rfl (by kernel_rfl) ?_; intro K hK; go_simp
      obtain ⟨wd, hwd⟩ : ∃ wd, (wb.alloc (.cells #[.int .i64 r.1] 3)).drew = wd := ⟨_, rfl⟩
      have hbd : Below wb.heap.size wb wd := by rw [← hwd]; exact ((Below.refl _ _).alloc (Nat.le_refl _) _).drew
      have hcd : wd.cell? ⟨wb.heap.size, 0, none⟩ = some (.int .i64 r.1) := by rw [← hwd]; exact (Rw.At.new wb 3 [.int .i64 r.1]).cell 0 rfl
      have hownd := own_below HOWNB.out hbd (Nat.le_refl _)
      have hszd := Nat.le_trans HBEL.out.size (Nat.le_trans HBB.out.size hbd.size)
      have hatd := HATB.out.below hbd
      refine hK _ _ (by unfold Stg.Keep; rw [hwd]; exact hatd.trans HATB.out.symm) ?_
      rw [hwd]
      intro A' hA'
      subst hA'
      refine Stg.stepW wd (by kernel_rfl) (by kernel_rfl) rfl (by kernel_rfl) ?_
      intro K hK
      refine wp_push1 _ _ _ _ rfl w6.heap.size 3 i0 _ 8 Try.underlying29 hi0 hz0 hz1 hz2 rfl _ xs.length _ rfl hownd (.int .i64 r.1) rfl wb.heap.size rfl hcd (by simp only [maxLen]; omega) (by omega) hszd ?_
      intro v9 w9 hown9 hb9 hg9
      have hat9 := hatd.grown hg9 (fun e => Rw.own_not hownd (by decide) _ e _ _ hatd)
      have hbm := (HBB.out.mono HBEL.out.size).trans ((hbd.mono (Nat.le_trans HBEL.out.size HBB.out.size)).trans hb9)
      have hsl9 := HSLB.out.below ((hbd.mono (Nat.le_trans HBEL.out.size HBB.out.size)).trans hb9) (Nat.le_refl _)
      refine hK _ _ (by unfold Stg.Keep; exact hat9.trans hatd.symm) ?_
      intro A' hA'
      simp only [Act.put, List.setIfInBounds_toArray, List.set_cons_succ, List.set_cons_zero] at hA'
      subst hA'
      refine Stg.read 2 (by kernel_rfl) (by kernel_rfl) (by kernel_rfl) wb.drew rfl (by kernel_rfl) ?_; intro K hK; go_big_quiet_op; go_big_quiet_on
      refine Stg.read 2 (by kernel_rfl) (by kernel_rfl) (by kernel_rfl) wb.drew rfl (by kernel_rfl) ?_; intro K hK; go_big_quiet_op; go_big_quiet_on
      refine Stg.stepW w9 (by kernel_rfl) (by kernel_rfl) rfl (by kernel_rfl) ?_
      intro K hK
      refine wp_appendSl _ _ _ _ rfl w6.heap.size 3 i0 _ 1 8 Try.underlying29 hi0 hz0 hz1 hz2 rfl (by decide) v9 (xs.length + 1) _ rfl hown9 w6.heap.size a.1 ml _ (r.2.2.map (Value.int .i64)) rfl (by rw [List.length_map, HMLE.out]; omega) hsl9 (by intro u hu; obtain ⟨y, _, rfl⟩ := List.mem_map.1 hu; rfl) (by simp only [maxLen]; omega) (by omega) (Nat.le_trans hszd hb9.size) ?_
      intro v10 w10 hown10 hb10 hg10
      have hat10 := hat9.grown hg10 (fun e => Rw.own_not hown9 (by decide) _ e _ _ hat9)
      refine hK _ _ (by unfold Stg.Keep; exact hat10.trans hat9.symm) ?_
      intro A' hA'
      simp only [Act.put, List.setIfInBounds_toArray, List.set_cons_succ, List.set_cons_zero] at hA'
      subst hA'
      refine Stg.readW (by kernel_rfl) (by kernel_rfl) (by kernel_rfl) ?_; intro K hK; go_big_quiet_op; go_big_quiet_on
      refine Stg.nil w10 rfl ?_
      have hxs : (xs ++ [r.1] ++ r.2.2).length = xs.length + 1 + ml := by simp [HMLE.out]; omega
      have hown11 : w10.ownsRow w6.heap.size 3 1 v10 (xs ++ [r.1] ++ r.2.2).length ((xs ++ [r.1] ++ r.2.2).map (Value.int .i64)) := by
        rw [hxs]
        simpa using hown10
      have HO11 := Lib.hid hown11
      have HB11 := Lib.hid (HBEL.out.trans (hbm.trans hb10))
      have HXL := Lib.hid hxs
      clear hown11 hown10 hown9 hownd hat10 hat9 hatd hg10 hg9 hb10 hb9 hsl9 hbm hbd hcd hwd hxs
      go_wp2_with fail
      exact ⟨⟨j + 1, _, xs ++ [r.1] ++ r.2.2, by omega, by go_num, rfl, HO11.out, fun x hx => by
        rcases List.mem_append.1 hx with hx | hx
        · rcases List.mem_append.1 hx with hx | hx
          · exact HXB.out x hx
          · rw [List.mem_singleton.1 hx]; exact hrb.1
        · exact hrb.2 x hx, by rw [HXL.out]; omega, HB11.out⟩, by simp [intOf]; omega⟩
    · obtain rfl : n2 = j := by omega
      obtain ⟨w9, rfl⟩ : ∃ w9 : World, w9 = wr := ⟨_, rfl⟩
      have HOW := HOWN.out
      obtain ⟨A9, c9, rfl⟩ := own_form HOW
      obtain ⟨nx, hnx⟩ : ∃ k, xs.length = k := ⟨_, rfl⟩
      have HNX := Lib.hid hnx
      have HSL9 := Lib.hid (Sl.of_own HOW)
      have HT9 := Lib.hid (HS6.out.below HBEL.out)
      have HX9 := Lib.hid (HAT6.out.below HBEL.out)
      have HD9 := Lib.hid (HD6.out.below HBEL.out)
      have HI9 := Lib.hid (HIS6.out.below HBEL.out)
      have HB9 := Lib.hid (HB6.out.trans (HBEL.out.mono HB6.out.size))
      rw [hnx] at hxl ⊢
      have HG : Hid (∀ W, Below w9.heap.size w9 W → (∀ x : Stg.Later Stg.Ex W, x.val.cell? ⟨w.heap.size, 0, none⟩ = some (.slice A2 n2 c2)) ∧ (∀ x : Stg.Later Stg.Ex W, x.val.cell? ⟨w.heap.size, 1, none⟩ = some (.slice XA2 xn2 xc2)) ∧ (∀ x : Stg.Later Stg.Ex W, x.val.cell? ⟨w4.heap.size, 0, none⟩ = some (.slice A4 n2 c4)) ∧ (∀ x : Stg.Later Stg.Ex W, x.val.cell? ⟨w4.heap.size, 1, none⟩ = some (.slice XA4 sn xc4))) := Lib.hid fun W hW =>
        have hT := HT9.out.below hW
        have hX := HX9.out.below hW
        ⟨Stg.cells (hT.cell 0 rfl) hT.lt, Stg.cells (hT.cell 1 rfl) hT.lt, Stg.cells (hX.cell 0 rfl) hX.lt, Stg.cells (hX.cell 1 rfl) hX.lt⟩
      clear hown hbel hbw hlt x0 x1 x2 HOW hnx HOWN
      go_wp2_with fail
      go_loopw [48] (fun i wr => ∃ k : Nat, k ≤ nx ∧ i = .int .i64 k ∧ Below w9.heap.size w9 wr) (fun i _ => nx - (intOf i).toNat)
      case atStart => exact ⟨0, Nat.zero_le _, rfl, Below.refl _ _⟩
      case round =>
        obtain ⟨k, hk, rfl, hbelk⟩ := hrel
        have HBK := Lib.hid hbelk
        by_cases hlt : k < nx
        · obtain ⟨a, ha⟩ : ∃ a, xs[k]? = some a := ⟨_, List.getElem?_eq_getElem (by rw [HNX.out]; exact hlt)⟩
          have hab := HXB.out a (List.mem_of_getElem? ha)
          obtain ⟨ba, oa, hA9, hba, hca⟩ := (HSL9.out.below hbelk hbelk.size) (by rw [List.length_map, HNX.out]; omega)
          have hc := hca k (by rw [List.length_map, HNX.out]; exact hlt)
          rw [List.getElem?_map, ha, Option.map_some] at hc
          have ea : IntKind.i32.wrap a = a := by rw [IntKind.wrap_i32]; omega
          have kI : (k : Int) < nx := by omega
          have k0 : (0 : Int) ≤ k := by omega
          obtain ⟨l, hl⟩ := Md.full_some HCHZ.out a
          obtain ⟨hln, hl1, hl32, hl2⟩ := Md.full_none hl
          have hlb : ∀ y ∈ l, -2147483648 ≤ y ∧ y ≤ 2147483647 := Md.full_bd HTBD.out hab hl
          have hmb := Md.mp_bd HTBD.out a
          have hmn : (Md.mp T a).length ≤ 1000 := Md.mp_len (fun r hr => Nat.le_trans (HTML.out r hr) (by decide)) a
          obtain ⟨m, hm⟩ : ∃ m, Md.mp T a = m := ⟨_, rfl⟩
          obtain ⟨q, hq⟩ : ∃ q, Md.cls T a = q := ⟨_, rfl⟩
          obtain ⟨pr, hpr⟩ : ∃ q, Md.prim T (Md.xs E) a = q := ⟨_, rfl⟩
          have HRF : Hid (∀ W, Below w9.heap.size w9 W → Calls Try.prog 20 #[.agg #[.slice A2 n2 c2, .slice XA2 xn2 xc2], .int .i64 a] W (Md.RetFull (some l) W)) := Lib.hid fun W hW => by
            have := Md.rfull_any _ T E a W (by have := HTL.out; omega) (HD9.out.below hW) HTBD.out (fun r hr => Nat.le_trans (HTML.out r hr) (by decide)) hab.1 hab.2
            rw [hl] at this
            exact this
          have HCC : Hid (∀ W, Below w9.heap.size w9 W → Calls Try.prog 21 #[.agg #[.slice A4 n2 c4, .slice XA4 sn xc4], .int .i32 a] W fun e w' => e = .returned (.int .i64 q) ∧ Below W.heap.size W w') := Lib.hid fun W hW => by
            have := Md.class_any _ T S a W HOK.out (HI9.out.below hW) hab.1 hab.2
            rw [hq] at this
            exact this
          have HRC : Hid (∀ W, Below w9.heap.size w9 W → Calls Try.prog 22 #[.agg #[.slice A2 n2 c2, .slice XA2 xn2 xc2], .int .i64 a] W fun e w' => e = .returned (.int .i64 q) ∧ Below W.heap.size W w') := Lib.hid fun W hW => by
            have := Md.rcls_any _ T E a W (by have := HTL.out; omega) (HD9.out.below hW)
            rw [hq] at this
            exact this
          have HCM : Hid (∀ W, Below w9.heap.size w9 W → Calls Try.prog 24 #[.agg #[.slice A4 n2 c4, .slice XA4 sn xc4], .int .i32 a] W (Md.RetOwn m W)) := Lib.hid fun W hW => by
            have := Md.map_any _ T S a W HOK.out (HI9.out.below hW) hab.1 hab.2
            rw [hm] at this
            exact this
          have HRM : Hid (∀ W, Below w9.heap.size w9 W → Calls Try.prog 25 #[.agg #[.slice A2 n2 c2, .slice XA2 xn2 xc2], .int .i64 a] W (RetInts .i64 m W)) := Lib.hid fun W hW => by
            have := Md.rmap_any _ T E a W (by have := HTL.out; omega) (HD9.out.below hW) hab.1 hab.2
            rw [hm] at this
            exact this
          have HCF : Hid (∀ W, Below w9.heap.size w9 W → Calls Try.prog 26 #[.agg #[.slice A4 n2 c4, .slice XA4 sn xc4], .int .i32 a] W (Md.RetOwn l W)) := Lib.hid fun W hW => by
            have := Md.full_any _ T S a W HOK.out (HI9.out.below hW) hab.1 hab.2
            rw [hl] at this
            exact this
          have HCP : Hid (∀ W, Below w9.heap.size w9 W → Calls Try.prog 27 #[.agg #[.slice A4 n2 c4, .slice XA4 sn xc4], .int .i32 a] W fun e w' => e = .returned (.bool pr) ∧ Below W.heap.size W w') := Lib.hid fun W hW => by
            have := Md.prim_any _ T S a W HOK.out (HI9.out.below hW) HSRT.out HSL.out hab.1 hab.2
            rw [HMEM.out, hpr] at this
            exact this
          have HRP : Hid (∀ W, Below w9.heap.size w9 W → Calls Try.prog 28 #[.agg #[.slice A2 n2 c2, .slice XA2 xn2 xc2], .int .i64 a] W fun e w' => e = .returned (.bool pr) ∧ Below W.heap.size W w') := Lib.hid fun W hW => by
            have := Md.rprim_any _ T E a W (by have := HTL.out; omega) (by have := HEL.out; omega) (HD9.out.below hW) (fun r hr => Nat.le_trans (HTML.out r hr) (by decide)) hab.1 hab.2
            rw [hpr] at this
            exact this
          obtain ⟨ml, hml⟩ : ∃ k, m.length = k := ⟨_, rfl⟩
          obtain ⟨ll, hll⟩ : ∃ k, l.length = k := ⟨_, rfl⟩
          rw [hm, hml] at hmn
          rw [hm] at hmb
          rw [hll] at hl1 hl32 hl2
          have HSM : Hid (∀ (A B : Option Addr) (ca cb : Nat) (W : World), Sl W W.heap.size A (m.map (Value.int .i32)) → Sl W W.heap.size B (m.map (Value.int .i64)) → Calls Try.prog 23 #[.slice A ml ca, .slice B ml cb] W fun e w' => e = .returned (.bool true) ∧ Below W.heap.size W w') := Lib.hid fun A B ca cb W h1 h2 => by
            have := Md.same_any A B ml ca ml cb m m W hml hml (by omega) (by omega) hmb h1 h2
            rw [decide_eq_true rfl] at this
            exact this
          have HSF : Hid (∀ (A B : Option Addr) (ca cb : Nat) (W : World), Sl W W.heap.size A (l.map (Value.int .i32)) → Sl W W.heap.size B (l.map (Value.int .i64)) → Calls Try.prog 23 #[.slice A ll ca, .slice B ll cb] W fun e w' => e = .returned (.bool true) ∧ Below W.heap.size W w') := Lib.hid fun A B ca cb W h1 h2 => by
            have := Md.same_any A B ll ca ll cb l l W hll hll (by omega) (by omega) hlb h1 h2
            rw [decide_eq_true rfl] at this
            exact this
          have HML := Lib.hid hml
          have HLL := Lib.hid hll
          have HLN := Lib.hid hln
          have HLB := Lib.hid hlb
          have HL2 := Lib.hid hl2
          have hT := HT9.out.below hbelk
          have hX := HX9.out.below hbelk
          have t0 := hT.cell 0 rfl
          have t1 := hT.cell 1 rfl
          have tl := hT.lt
          subst hA9
          clear ha hca hl hln hlb hmb hm hq hpr hml hll hl2 hbelk hT hX hlt
          go_wp2_with fail
          refine (HRF.out _ HBK.out).mono ?_
          rintro e wg ⟨Af, cf, rfl, hsg, hbg⟩
          simp only [Option.getD_some, Option.isSome_some] at hsg ⊢
          rw [HLL.out]
          have HBG := Lib.hid (HBK.out.trans (hbg.mono HBK.out.size))
          have HSGW := Lib.hid hsg
          have HUP : Hid (∀ W, Below wg.heap.size wg W → Below w9.heap.size w9 W) := Lib.hid fun W hW => HBG.out.trans (hW.mono HBG.out.size)
          clear hbg hsg t0 t1 tl
          go_wp2_with fail
          refine Stg.wp_region Stg.Ex Stg.Ex.rel (by kernel_rfl) (by kernel_rfl) (by kernel_rfl) ?_
          refine Stg.readW (by kernel_rfl) (by kernel_rfl) (by kernel_rfl) ?_; intro K hK; go_big_quiet_op; go_big_quiet_on
          refine Stg.readW (by kernel_rfl) (by kernel_rfl) (by kernel_rfl) ?_; intro K hK; go_big_quiet_op; go_big_quiet_on
          refine Stg.readW (by kernel_rfl) (by kernel_rfl) (by kernel_rfl) ?_; intro K hK; go_big_quiet_op; go_big_quiet_on
          have HQ0 : Hid (Below wg.heap.size wg wg.drew) := Lib.hid (Below.refl _ _).drew
          obtain ⟨f0, f1, g0, g1⟩ := HG.out wg.drew (HUP.out _ HQ0.out)
          refine Stg.read 0 (by kernel_rfl) (by kernel_rfl) (by kernel_rfl) wg.drew rfl (by kernel_rfl) ?_; intro K hK; go_big_quiet_op; go_big_quiet_on
          refine Stg.readW (by kernel_rfl) (by kernel_rfl) (by kernel_rfl) ?_; intro K hK; go_big_quiet_op; go_big_quiet_on
          refine Stg.call 21 _ _ rfl (C.enter Try.func21 (by kernel_rfl) rfl) [.agg #[.slice A4 n2 c4, .slice XA4 sn xc4], .int .i32 a] rfl wg.drew _ (HCC.out _ (HUP.out _ HQ0.out)) (by kernel_rfl) rfl (by kernel_rfl) ?_
          rintro e q1 ⟨rfl, hb⟩; refine ⟨_, rfl, hb, ?_⟩; have HQ1 := Lib.hid (HQ0.out.trans (hb.mono HQ0.out.size)); clear hb; intro A' hA'; simp only [Act.put, List.setIfInBounds_toArray, List.set_cons_succ, List.set_cons_zero] at hA'; subst hA'
          refine Stg.read 1 (by kernel_rfl) (by kernel_rfl) (by kernel_rfl) wg.drew rfl (by kernel_rfl) ?_; intro K hK; go_big_quiet_op; go_big_quiet_on
          refine Stg.readW (by kernel_rfl) (by kernel_rfl) (by kernel_rfl) ?_; intro K hK; go_big_quiet_op; go_big_quiet_on
          refine Stg.call 22 _ _ rfl (C.enter Try.func22 (by kernel_rfl) rfl) [.agg #[.slice A2 n2 c2, .slice XA2 xn2 xc2], .int .i64 a] rfl q1 _ (HRC.out _ (HUP.out _ HQ1.out)) (by kernel_rfl) rfl (by kernel_rfl) ?_
          rintro e q2 ⟨rfl, hb⟩; refine ⟨_, rfl, hb, ?_⟩; have HQ2 := Lib.hid (HQ1.out.trans (hb.mono HQ1.out.size)); clear hb; intro A' hA'; simp only [Act.put, List.setIfInBounds_toArray, List.set_cons_succ, List.set_cons_zero] at hA'; subst hA'
          refine Stg.readW (by kernel_rfl) (by kernel_rfl) (by kernel_rfl) ?_; intro K hK; go_big_quiet_op; go_big_quiet_on
          refine Stg.readW (by kernel_rfl) (by kernel_rfl) (by kernel_rfl) ?_; intro K hK; go_big_quiet_op; go_big_quiet_on
          refine Stg.readW (by kernel_rfl) (by kernel_rfl) (by kernel_rfl) ?_; intro K hK; go_big_quiet_op; go_big_quiet_on
          clear f0 f1 g0 g1
          obtain ⟨f0, f1, g0, g1⟩ := HG.out q2 (HUP.out _ HQ2.out)
          refine Stg.read 0 (by kernel_rfl) (by kernel_rfl) (by kernel_rfl) q2 rfl (by kernel_rfl) ?_; intro K hK; go_big_quiet_op; go_big_quiet_on
          refine Stg.readW (by kernel_rfl) (by kernel_rfl) (by kernel_rfl) ?_; intro K hK; go_big_quiet_op; go_big_quiet_on
          refine Stg.call 24 _ _ rfl (C.enter Try.func24 (by kernel_rfl) rfl) [.agg #[.slice A4 n2 c4, .slice XA4 sn xc4], .int .i32 a] rfl q2 _ (HCM.out _ (HUP.out _ HQ2.out)) (by kernel_rfl) rfl (by kernel_rfl) ?_
          rintro e q3 ⟨B1, d1, rfl, hs3, hb⟩; rw [HML.out] at hs3 ⊢; refine ⟨_, rfl, hb, ?_⟩; have HQ3 := Lib.hid (HQ2.out.trans (hb.mono HQ2.out.size)); have HS3 := Lib.hid (Sl.of_own hs3); clear hb hs3; intro A' hA'; simp only [Act.put, List.setIfInBounds_toArray, List.set_cons_succ, List.set_cons_zero] at hA'; subst hA'
          refine Stg.read 1 (by kernel_rfl) (by kernel_rfl) (by kernel_rfl) q2 rfl (by kernel_rfl) ?_; intro K hK; go_big_quiet_op; go_big_quiet_on
          refine Stg.readW (by kernel_rfl) (by kernel_rfl) (by kernel_rfl) ?_; intro K hK; go_big_quiet_op; go_big_quiet_on
          refine Stg.call 25 _ _ rfl (C.enter Try.func25 (by kernel_rfl) rfl) [.agg #[.slice A2 n2 c2, .slice XA2 xn2 xc2], .int .i64 a] rfl q3 _ (HRM.out _ (HUP.out _ HQ3.out)) (by kernel_rfl) rfl (by kernel_rfl) ?_
          rintro e q4 ⟨B2, d2, rfl, hs4, hb⟩; rw [HML.out] at ⊢; refine ⟨_, rfl, hb, ?_⟩; have HQ4 := Lib.hid (HQ3.out.trans (hb.mono HQ3.out.size)); have HS4 := Lib.hid hs4; have HS3' := Lib.hid (HS3.out.below hb hb.size); clear hb hs4; intro A' hA'; simp only [Act.put, List.setIfInBounds_toArray, List.set_cons_succ, List.set_cons_zero] at hA'; subst hA'
          refine Stg.call 23 _ _ rfl (C.enter Try.func23 (by kernel_rfl) rfl) [.slice B1 ml d1, .slice B2 ml d2] rfl q4 _ (HSM.out _ _ _ _ _ HS3'.out HS4.out) (by kernel_rfl) rfl (by kernel_rfl) ?_
          rintro e q5 ⟨rfl, hb⟩; refine ⟨_, rfl, hb, ?_⟩; have HQ5 := Lib.hid (HQ4.out.trans (hb.mono HQ4.out.size)); clear hb; intro A' hA'; simp only [Act.put, List.setIfInBounds_toArray, List.set_cons_succ, List.set_cons_zero] at hA'; subst hA'
          refine Stg.readW (by kernel_rfl) (by kernel_rfl) (by kernel_rfl) ?_; intro K hK; go_big_quiet_op; go_big_quiet_on
          refine Stg.readW (by kernel_rfl) (by kernel_rfl) (by kernel_rfl) ?_; intro K hK; go_big_quiet_op; go_big_quiet_on
          refine Stg.readW (by kernel_rfl) (by kernel_rfl) (by kernel_rfl) ?_; intro K hK; go_big_quiet_op; go_big_quiet_on
          clear f0 f1 g0 g1
          obtain ⟨f0, f1, g0, g1⟩ := HG.out q5 (HUP.out _ HQ5.out)
          refine Stg.read 0 (by kernel_rfl) (by kernel_rfl) (by kernel_rfl) q5 rfl (by kernel_rfl) ?_; intro K hK; go_big_quiet_op; go_big_quiet_on
          refine Stg.readW (by kernel_rfl) (by kernel_rfl) (by kernel_rfl) ?_; intro K hK; go_big_quiet_op; go_big_quiet_on
          refine Stg.call 26 _ _ rfl (C.enter Try.func26 (by kernel_rfl) rfl) [.agg #[.slice A4 n2 c4, .slice XA4 sn xc4], .int .i32 a] rfl q5 _ (HCF.out _ (HUP.out _ HQ5.out)) (by kernel_rfl) rfl (by kernel_rfl) ?_
          rintro e q6 ⟨B3, d3, rfl, hs6, hb⟩; rw [HLL.out] at hs6 ⊢; refine ⟨_, rfl, hb, ?_⟩; have HQ6 := Lib.hid (HQ5.out.trans (hb.mono HQ5.out.size)); have HS6 := Lib.hid (Sl.of_own hs6); clear hb hs6; intro A' hA'; simp only [Act.put, List.setIfInBounds_toArray, List.set_cons_succ, List.set_cons_zero] at hA'; subst hA'
          refine Stg.readW (by kernel_rfl) (by kernel_rfl) (by kernel_rfl) ?_; intro K hK; go_big_quiet_op; go_big_quiet_on
          refine Stg.call 23 _ _ rfl (C.enter Try.func23 (by kernel_rfl) rfl) [.slice B3 ll d3, .slice Af ll cf] rfl q6 _ (HSF.out _ _ _ _ _ HS6.out (HSGW.out.below HQ6.out HQ6.out.size)) (by kernel_rfl) rfl (by kernel_rfl) ?_
          rintro e q7 ⟨rfl, hb⟩; refine ⟨_, rfl, hb, ?_⟩; have HQ7 := Lib.hid (HQ6.out.trans (hb.mono HQ6.out.size)); clear hb; intro A' hA'; simp only [Act.put, List.setIfInBounds_toArray, List.set_cons_succ, List.set_cons_zero] at hA'; subst hA'
          refine Stg.readW (by kernel_rfl) (by kernel_rfl) (by kernel_rfl) ?_; intro K hK; go_big_quiet_op; go_big_quiet_on
          refine Stg.readW (by kernel_rfl) (by kernel_rfl) (by kernel_rfl) ?_; intro K hK; go_big_quiet_op; go_big_quiet_on
          refine Stg.readW (by kernel_rfl) (by kernel_rfl) (by kernel_rfl) ?_; intro K hK; go_big_quiet_op; go_big_quiet_on
          clear f0 f1 g0 g1
          obtain ⟨f0, f1, g0, g1⟩ := HG.out q7 (HUP.out _ HQ7.out)
          refine Stg.read 0 (by kernel_rfl) (by kernel_rfl) (by kernel_rfl) q7 rfl (by kernel_rfl) ?_; intro K hK; go_big_quiet_op; go_big_quiet_on
          refine Stg.readW (by kernel_rfl) (by kernel_rfl) (by kernel_rfl) ?_; intro K hK; go_big_quiet_op; go_big_quiet_on
          refine Stg.call 27 _ _ rfl (C.enter Try.func27 (by kernel_rfl) rfl) [.agg #[.slice A4 n2 c4, .slice XA4 sn xc4], .int .i32 a] rfl q7 _ (HCP.out _ (HUP.out _ HQ7.out)) (by kernel_rfl) rfl (by kernel_rfl) ?_
          rintro e q8 ⟨rfl, hb⟩; refine ⟨_, rfl, hb, ?_⟩; have HQ8 := Lib.hid (HQ7.out.trans (hb.mono HQ7.out.size)); clear hb; intro A' hA'; simp only [Act.put, List.setIfInBounds_toArray, List.set_cons_succ, List.set_cons_zero] at hA'; subst hA'
          refine Stg.read 1 (by kernel_rfl) (by kernel_rfl) (by kernel_rfl) q7 rfl (by kernel_rfl) ?_; intro K hK; go_big_quiet_op; go_big_quiet_on
          refine Stg.readW (by kernel_rfl) (by kernel_rfl) (by kernel_rfl) ?_; intro K hK; go_big_quiet_op; go_big_quiet_on
          refine Stg.call 28 _ _ rfl (C.enter Try.func28 (by kernel_rfl) rfl) [.agg #[.slice A2 n2 c2, .slice XA2 xn2 xc2], .int .i64 a] rfl q8 _ (HRP.out _ (HUP.out _ HQ8.out)) (by kernel_rfl) rfl (by kernel_rfl) ?_
          rintro e q9 ⟨rfl, hb⟩; refine ⟨_, rfl, hb, ?_⟩; have HQ9 := Lib.hid (HQ8.out.trans (hb.mono HQ8.out.size)); clear hb; intro A' hA'; simp only [Act.put, List.setIfInBounds_toArray, List.set_cons_succ, List.set_cons_zero] at hA'; subst hA'
          refine Stg.readW (by kernel_rfl) (by kernel_rfl) (by kernel_rfl) ?_; intro K hK; go_big_quiet_op; go_big_quiet_on
          refine Stg.readW (by kernel_rfl) (by kernel_rfl) (by kernel_rfl) ?_; intro K hK; go_big_quiet_op; go_big_quiet_on
          refine Stg.nil q9 rfl ?_
          have HB9' := Lib.hid (HUP.out _ HQ9.out)
          have HSG9 := Lib.hid (HSGW.out.below HQ9.out HQ9.out.size)
          clear f0 f1 g0 g1 HQ0 HQ1 HQ2 HQ3 HQ4 HQ5 HQ6 HQ7 HQ8 HQ9 HS3 HS4 HS3' HS6 HCC HRC HCM HRM HRF HCP HRP HSM HSF HSGW
          have hX9 := HX9.out.below HB9'.out
          have t0 := hX9.cell 0 rfl
          have t1 := hX9.cell 1 rfl
          have tl := hX9.lt
          go_wp2_with fail
          refine (HCF.out _ HB9'.out).mono ?_
          rintro e r0 ⟨B4, d4, rfl, hs4, hb⟩
          rw [HLL.out] at hs4 ⊢
          have HR0 := Lib.hid (HB9'.out.trans (hb.mono HB9'.out.size))
          have HS4 := Lib.hid (Sl.of_own hs4)
          have HSA := Lib.hid (HSG9.out.below hb hb.size)
          clear hb hs4 t0 t1 tl hX9 HCF
          go_wp2_with fail
          go_loopw [102] (fun i wr => ∃ k : Nat, k ≤ ll ∧ i = .int .i64 k ∧ Below r0.heap.size r0 wr) (fun i _ => ll - (intOf i).toNat)
          case atStart => exact ⟨0, Nat.zero_le _, rfl, Below.refl _ _⟩
          case round =>
            obtain ⟨k', hk', rfl, hbk'⟩ := hrel
            have HBK' := Lib.hid hbk'
            by_cases hlt : k' < ll
            · obtain ⟨y, hy⟩ : ∃ y, l[k']? = some y := ⟨_, List.getElem?_eq_getElem (by rw [HLL.out]; exact hlt)⟩
              obtain ⟨hm0, hf0⟩ := HLN.out y (List.mem_of_getElem? hy)
              have hyb := HLB.out y (List.mem_of_getElem? hy)
              obtain ⟨bb, ob, hB4, hbb, hcb⟩ := (HS4.out.below hbk' hbk'.size) (by rw [List.length_map, HLL.out]; omega)
              have hc := hcb k' (by rw [List.length_map, HLL.out]; exact hlt)
              rw [List.getElem?_map, hy, Option.map_some] at hc
              have kI' : (k' : Int) < ll := by omega
              have k0' : (0 : Int) ≤ k' := by omega
              have ey : IntKind.i64.wrap y = y := by rw [IntKind.wrap_i64]; omega
              have hXr := HX9.out.below (HR0.out.trans (hbk'.mono HR0.out.size))
              have hup := HR0.out.trans (hbk'.mono HR0.out.size)
              have t0 := hXr.cell 0 rfl
              have t1 := hXr.cell 1 rfl
              have tl := hXr.lt
              have hMAP : Calls Try.prog 24 #[.agg #[.slice A4 n2 c4, .slice XA4 sn xc4], .int .i32 y] _ _ := Md.map_any _ T S y _ HOK.out (HI9.out.below hup) hyb.1 hyb.2
              rw [hm0] at hMAP
              have HUPK := Lib.hid hup
              subst hB4
              clear hy hcb hXr hup hbk' hlt
              go_wp2_with fail
              refine hMAP.mono ?_
              rintro e s1 ⟨B5, d5, rfl, _, hb⟩
              have HU1 := Lib.hid (HUPK.out.trans (hb.mono HUPK.out.size))
              have HV1 := Lib.hid (HBK'.out.trans (hb.mono HBK'.out.size))
              have hXr := HX9.out.below HU1.out
              clear t0 t1 tl hc hb
              have t0 := hXr.cell 0 rfl
              have t1 := hXr.cell 1 rfl
              have tl := hXr.lt
              have hFULL : Calls Try.prog 26 #[.agg #[.slice A4 n2 c4, .slice XA4 sn xc4], .int .i32 y] _ _ := Md.full_any _ T S y _ HOK.out (HI9.out.below HU1.out) hyb.1 hyb.2
              rw [hf0] at hFULL
              clear hXr hMAP
              simp only [List.length_nil]
              go_wp2_with fail
              refine hFULL.mono ?_
              rintro e s2 ⟨B6, d6, rfl, hs6, hb⟩
              have HU2 := Lib.hid (HU1.out.trans (hb.mono HU1.out.size))
              have HV2 := Lib.hid (HV1.out.trans (hb.mono HV1.out.size))
              have hba2 : Below s2.heap.size s2 (s2.alloc (.cells #[.int .i64 y] 3)) := (Below.refl _ _).alloc (Nat.le_refl _) _
              have hSAME := Md.same_any B6 (some ⟨s2.heap.size, 0, none⟩) 1 d6 1 1 [y] [y] (s2.alloc (.cells #[.int .i64 y] 3)) rfl rfl (by omega) (by omega) (by intro x hx; rw [List.mem_singleton.1 hx]; exact hyb) ((Sl.of_own hs6).below hba2 hba2.size) ((Rw.At.new s2 3 [.int .i64 y]).slt.sl)
              rw [decide_eq_true rfl] at hSAME
              have HV3 := Lib.hid (HV2.out.trans (hba2.mono HV2.out.size))
              clear t0 t1 tl hb hs6 hba2 hFULL
              simp only [Option.getD_some, List.length_singleton]
              go_wp2_with fail
              refine hSAME.mono ?_
              rintro e s3 ⟨rfl, hb⟩
              have HV4 := Lib.hid (HV3.out.trans (hb.mono HV3.out.size))
              clear hb hSAME
              go_wp2_with fail
              exact ⟨⟨k' + 1, by omega, by go_num, HV4.out⟩, by simp [intOf]; omega⟩
            · obtain rfl : ll = k' := by omega
              have HBE := Lib.hid (HR0.out.trans (hbk'.mono HR0.out.size))
              have hl0 : ((ll : Int) == 0) = false := by simp; omega
              clear hbk' hlt
              have hKIND := fun W => Hg.kind_any a W hab.1 hab.2
              obtain ⟨ka, hka⟩ : ∃ k, Hg.ofK a = k := ⟨_, rfl⟩
              have hl2 := HL2.out
              rw [hka] at hKIND hl2
              have HLK := Lib.hid hl2
              have HHB := Lib.hid hab
              clear hka hl2 hab HL2
              obtain ⟨re, rfl⟩ : ∃ q : World, q = wr := ⟨_, rfl⟩
              go_wp2_with fail
              refine (hKIND _).mono ?_
              rintro e s1 ⟨rfl, rfl⟩
              by_cases h3 : 3 < ka
              · have h4 := HLK.out h3
                have h5 : ¬ (ll : Int) < 2 := by omega
                clear h4
                go_wp2_with fail
                exact ⟨⟨k + 1, by omega, by go_num, HBE.out⟩, by simp [intOf]; omega⟩
              · go_wp2_with fail
                exact ⟨⟨k + 1, by omega, by go_num, HBE.out⟩, by simp [intOf]; omega⟩
        · obtain rfl : nx = k := by omega
          have HBE := Lib.hid (HB9.out.trans (hbelk.mono HB9.out.size))
          clear hbelk hlt
          go_wp2_with fail
          go_ret
          exact ⟨rfl, HBE.out⟩
end Go.Proofs.Ytamcpdggpdaioaa
