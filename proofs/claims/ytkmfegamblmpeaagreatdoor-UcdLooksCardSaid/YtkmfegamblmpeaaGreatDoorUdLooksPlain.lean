/- The characters that are asked for (cedillalaw14), by walking the text. -/
import Derived.Test.YtkmfegamblmpeaaGreatDoorStage
import Derived.Test.YtkmfegamblmpeaaGreatDoorPgReg
import Derived.Test.YtkmfegamblmpeaaGreatDoorCpChPlain3
import Derived.Test.YtkmfegamblmpeaaGreatDoorMdRef5
import Derived.Test.YtkmfegamblmpeaaGreatDoorUdPlain
import Derived.Test.YtkmfegamblmpeaaGreatDoorMdRight
import Derived.BigRegion
import Derived.Deep.DeepCutAuto
import Derived.Test.YtkmfegamblmpeaaGreatDoorCpIsPlain
import Derived.Test.YtkmfegamblmpeaaGreatDoorCpChars
import Derived.Test.YtkmfegamblmpeaaGreatDoorUdLook
import Derived.Test.YtkmfegamblmpeaaGreatDoorUdBegins
namespace Go.Proofs.YtkmfegamblmpeaaGreatDoor
open Go.RowKit
set_option linter.unusedSimpArgs false
set_option linter.unusedVariables false
def Ud.RetAsked (w : World) (e : Ending) (w' : World) : Prop :=
  ∃ (A : Option Addr) (c : Nat) (xs : List Int), e = .returned (.slice A xs.length c) ∧ w'.ownsRow w.heap.size 3 1 (.slice A xs.length c) xs.length (xs.map (Value.int .i64)) ∧ (∀ x ∈ xs, -2147483648 ≤ x ∧ x ≤ 2147483647) ∧ xs.length ≤ 1000 ∧ Below w.heap.size w w'
set_option maxRecDepth 100000 in
set_option maxHeartbeats 4000000 in
theorem Ud.asked_any (A2 XA2 : Option Addr) (n2 c2 xn2 xc2 : Nat) (T : List Rw.Row) (c0 : Int) (w : World) (hn : T.length = n2) (hn' : n2 ≤ 20) (hbd : Md.bd T) (hml : ∀ r ∈ T, r.2.2.length ≤ 2) (hse : Rw.SeesI w A2 T) :
    Calls Tryz.prog 7 #[.agg #[.slice A2 n2 c2, .slice XA2 xn2 xc2], .int .i64 c0] w (Ud.RetAsked w) := by
  obtain ⟨i0, hi0, hz0, hz1, hz2⟩ := info_parts infoInt
  obtain ⟨w6, hw6⟩ : ∃ wa, w.alloc (.cells #[.slice A2 n2 c2, .slice XA2 xn2 xc2] 25) = wa := ⟨_, rfl⟩
  have hb6 : Below w.heap.size w w6 := by rw [← hw6]; exact (Below.refl _ _).alloc (Nat.le_refl _) _
  have hat6 : Rw.At w6 w.heap.size 25 [.slice A2 n2 c2, .slice XA2 xn2 xc2] := by rw [← hw6]; exact Rw.At.new w 25 [.slice A2 n2 c2, .slice XA2 xn2 xc2]
  have HW6 := Lib.hid hw6
  have HB6 := Lib.hid hb6
  have HS6 := Lib.hid hat6
  have HD6 := Lib.hid (hse.below hb6)
  have HN2 := Lib.hid hn
  have HTBD := Lib.hid hbd
  have HTML := Lib.hid hml
  clear hw6 hb6 hat6 hn hbd hml hse
  go_enter Tryz.func7, Tryz.ntmps7
  go_upto_region 1 with (fail)
  rw [HW6.out]
  go_wp2_with fail
  refine (Ch.char_any c0 w6).mono ?_
  rintro e w7 ⟨rfl, rfl⟩
  have hk0 := Ch.K_bd c0
  obtain ⟨k0, hk⟩ : ∃ k, Ch.K c0 = k := ⟨_, rfl⟩
  rw [hk] at hk0 ⊢
  have ek0 : IntKind.i64.wrap k0 = k0 := by rw [IntKind.wrap_i64]; omega
  obtain ⟨w8, hw8⟩ : ∃ w8, w6.alloc (.cells #[.int .i64 k0, .int .i64 4352, .int .i64 4449, .int .i64 4520, .int .i64 44032, .int .i64 44033] 3) = w8 := ⟨_, rfl⟩
  have hb8 : Below w6.heap.size w6 w8 := by rw [← hw8]; exact (Below.refl _ _).alloc (Nat.le_refl _) _
  have hown8 : w8.ownsRow w6.heap.size 3 1 (.slice (some ⟨w6.heap.size, 0, none⟩) 6 6) 6 (([k0, 4352, 4449, 4520, 44032, 44033] : List Int).map (Value.int .i64)) := by
    rw [← hw8]
    exact World.ownsRow_lit w6 #[.int .i64 k0, .int .i64 4352, .int .i64 4449, .int .i64 4520, .int .i64 44032, .int .i64 44033] 6 (Nat.le_refl _) (by decide) rfl
  have HW8 := Lib.hid hw8
  have HB8 := Lib.hid hb8
  have HOWN8 := Lib.hid hown8
  clear hk hw8 hb8 hown8
  go_upto_region 2 with (fail)
  rw [HW8.out]
  have HS8 := Lib.hid (HS6.out.below HB8.out)
  have x0 := HS8.out.cell 0 rfl
  have x2 := HS8.out.lt
  clear ek0
  go_wp2_with fail
  go_loopw [5, 15] (fun v6 i wr => ∃ (j : Nat) (v : Value) (xs : List Int), j ≤ n2 ∧ i = .int .i64 j ∧ v6 = v ∧ wr.ownsRow w6.heap.size 3 1 v xs.length (xs.map (Value.int .i64)) ∧ (∀ x ∈ xs, -2147483648 ≤ x ∧ x ≤ 2147483647) ∧ xs.length ≤ 6 + j * 3 ∧ Below w6.heap.size w6 wr) (fun _ i _ => n2 - (intOf i).toNat)
  case atStart => exact ⟨0, _, [k0, 4352, 4449, 4520, 44032, 44033], Nat.zero_le _, rfl, rfl, HOWN8.out, by simp; omega, by simp, HB8.out⟩
  case round =>
    obtain ⟨j, v6', xs, hj, rfl, rfl, hown, hxb, hxl, hbel⟩ := hrel
    have hbw : Below w6.heap.size w6 wr := hbel
    have HOWN := Lib.hid hown
    have HXB := Lib.hid hxb
    have HBEL := Lib.hid hbel
    by_cases hlt : j < n2
    · obtain ⟨r, hr⟩ : ∃ r, T[j]? = some r := ⟨_, List.getElem?_eq_getElem (by rw [HN2.out]; exact hlt)⟩
      have hrm := List.mem_of_getElem? hr
      have hrb := HTBD.out r hrm
      have hrl := HTML.out r hrm
      have hsee := HD6.out
      obtain ⟨b, o, a, hA1, hb, c0', c1', c2', hsl⟩ := hsee.row hr
      have c0 := ((bcell hbw).1 b (o + j * 3) hb).trans c0'
      have c1 := ((bcell hbw).1 b (o + j * 3 + 1) hb).trans c1'
      have c2 := ((bcell hbw).1 b (o + j * 3 + 2) hb).trans c2'
      have hbr : b < wr.heap.size := Nat.lt_of_lt_of_le hb hbw.size
      obtain ⟨ml, hmle⟩ : ∃ k, r.2.2.length = k := ⟨_, rfl⟩
      rw [hmle] at c2 hrl
      have jI : (j : Int) < n2 := by omega
      have j0' : (0 : Int) ≤ j := by omega
      obtain ⟨wb, hwb⟩ : ∃ wb, wr.alloc (.cells #[.int .i64 r.1, .int .i64 r.2.1, .slice a.1 ml a.2] 59) = wb := ⟨_, rfl⟩
      have hatb : Rw.At wb wr.heap.size 59 [.int .i64 r.1, .int .i64 r.2.1, .slice a.1 ml a.2] := by rw [← hwb]; exact Rw.At.new wr 59 [.int .i64 r.1, .int .i64 r.2.1, .slice a.1 ml a.2]
      have hbb : Below wr.heap.size wr wb := by rw [← hwb]; exact (Below.refl _ _).alloc (Nat.le_refl _) _
      have HWB := Lib.hid hwb
      have HATB := Lib.hid hatb
      have HBB := Lib.hid hbb
      have HOWNB := Lib.hid (own_below hown hbb (Nat.le_refl _))
      have HSLB := Lib.hid ((hsl.below hbw (Nat.le_refl _)).below (hbb.mono hbw.size) (Nat.le_refl _))
      have HMLE := Lib.hid hmle
      subst hA1
      clear c0' c1' c2' hsl hbw hown hxb hbel hr hrm hmle hwb hatb hbb hsee
      go_upto_region 5 with (fail)
      rw [HWB.out]
      go_wp2_with fail
      refine Stg.wp_region (Stg.Keep (· = wr.heap.size)) (Stg.Keep.rel _) (by kernel_rfl) (by kernel_rfl) (by kernel_rfl) ?_
      have e0 := Stg.Keep.cells (s := (· = wr.heap.size)) (w := wb.drew) (HATB.out.cell 0 rfl) rfl
      have e2 := Stg.Keep.cells (s := (· = wr.heap.size)) (w := wb.drew) (HATB.out.cell 2 rfl) rfl
      refine Stg.read 0 (by kernel_rfl) (by kernel_rfl) (by kernel_rfl) wb.drew rfl (by kernel_rfl) ?_; intro K hK; go_big_quiet_op; go_big_quiet_on
      refine Stg.read 0 (by kernel_rfl) (by kernel_rfl) (by kernel_rfl) wb.drew rfl (by kernel_rfl) ?_; intro K hK; go_big_quiet_op; go_big_quiet_on
      refine Stg.read 0 (by kernel_rfl) (by kernel_rfl) (by kernel_rfl) wb.drew rfl (by kernel_rfl) ?_; intro K hK; go_big_quiet_op; go_big_quiet_on
      refine Stg.stepW wb.drew (by kernel_rfl) (by kernel_rfl) rfl (by kernel_rfl) ?_; intro K hK; go_simp
      obtain ⟨wd, hwd⟩ : ∃ wd, (wb.alloc (.cells #[.int .i64 r.1] 3)).drew = wd := ⟨_, rfl⟩
      have hbd : Below wb.heap.size wb wd := by rw [← hwd]; exact ((Below.refl _ _).alloc (Nat.le_refl _) _).drew
      have hcd : wd.cell? ⟨wb.heap.size, 0, none⟩ = some (.int .i64 r.1) := by rw [← hwd]; exact (Rw.At.new wb 3 [.int .i64 r.1]).cell 0 rfl
      have hownd := own_below HOWNB.out hbd (Nat.le_refl _)
      have hszd := Nat.le_trans HBEL.out.size (Nat.le_trans HBB.out.size hbd.size)
      have hatd := HATB.out.below hbd
      refine hK _ _ (by rintro q rfl; rw [hwd]; exact hatd.trans HATB.out.symm) ?_
      rw [hwd]
      intro A' hA'
      subst hA'
      refine Stg.stepW wd (by kernel_rfl) (by kernel_rfl) rfl (by kernel_rfl) ?_
      intro K hK
      refine wp_push1 _ _ _ _ rfl w6.heap.size 3 i0 _ 8 Tryz.underlying23 hi0 hz0 hz1 hz2 rfl _ xs.length _ rfl hownd (.int .i64 r.1) rfl wb.heap.size rfl hcd (by simp only [maxLen]; omega) (by omega) hszd ?_
      intro v9 w9 hown9 hb9 hg9
      have hat9 := hatd.grown hg9 (fun e => Rw.own_not hownd (by decide) _ e _ _ hatd)
      have hbm := (HBB.out.mono HBEL.out.size).trans ((hbd.mono (Nat.le_trans HBEL.out.size HBB.out.size)).trans hb9)
      have hsl9 := HSLB.out.below ((hbd.mono (Nat.le_trans HBEL.out.size HBB.out.size)).trans hb9) (Nat.le_refl _)
      refine hK _ _ (by rintro q rfl; exact hat9.trans hatd.symm) ?_
      intro A' hA'
      simp only [Act.put, List.setIfInBounds_toArray, List.set_cons_succ, List.set_cons_zero] at hA'
      subst hA'
      refine Stg.read 2 (by kernel_rfl) (by kernel_rfl) (by kernel_rfl) wb.drew rfl (by kernel_rfl) ?_; intro K hK; go_big_quiet_op; go_big_quiet_on
      refine Stg.read 2 (by kernel_rfl) (by kernel_rfl) (by kernel_rfl) wb.drew rfl (by kernel_rfl) ?_; intro K hK; go_big_quiet_op; go_big_quiet_on
      refine Stg.stepW w9 (by kernel_rfl) (by kernel_rfl) rfl (by kernel_rfl) ?_
      intro K hK
      refine wp_appendSl _ _ _ _ rfl w6.heap.size 3 i0 _ 1 8 Tryz.underlying23 hi0 hz0 hz1 hz2 rfl (by decide) v9 (xs.length + 1) _ rfl hown9 w6.heap.size a.1 ml _ (r.2.2.map (Value.int .i64)) rfl (by rw [List.length_map, HMLE.out]; omega) hsl9 (by intro u hu; obtain ⟨y, _, rfl⟩ := List.mem_map.1 hu; rfl) (by simp only [maxLen]; omega) (by omega) (Nat.le_trans hszd hb9.size) ?_
      intro v10 w10 hown10 hb10 hg10
      have hat10 := hat9.grown hg10 (fun e => Rw.own_not hown9 (by decide) _ e _ _ hat9)
      refine hK _ _ (by rintro q rfl; exact hat10.trans hat9.symm) ?_
      intro A' hA'
      simp only [Act.put, List.setIfInBounds_toArray, List.set_cons_succ, List.set_cons_zero] at hA'
      subst hA'
      refine Stg.readW (by kernel_rfl) (by kernel_rfl) (by kernel_rfl) ?_; intro K hK; go_big_quiet_op; go_big_quiet_on
      refine Stg.nil w10 rfl ?_
      have hxs : (xs ++ [r.1] ++ r.2.2).length = xs.length + 1 + ml := by simp [HMLE.out]; omega
      have hown11 : w10.ownsRow w6.heap.size 3 1 v10 (xs ++ [r.1] ++ r.2.2).length ((xs ++ [r.1] ++ r.2.2).map (Value.int .i64)) := by
        rw [hxs]
        simpa using hown10
      have HO11 := Lib.hid hown11
      have HB11 := Lib.hid (HBEL.out.trans (hbm.trans hb10))
      have HXL := Lib.hid hxs
      clear hown11 hown10 hown9 hownd hat10 hat9 hatd hg10 hg9 hb10 hb9 hsl9 hbm hbd hcd hwd hxs
      go_wp2_with fail
      exact ⟨⟨j + 1, _, xs ++ [r.1] ++ r.2.2, by omega, by go_num, rfl, HO11.out, fun x hx => by
        rcases List.mem_append.1 hx with hx | hx
        · rcases List.mem_append.1 hx with hx | hx
          · exact HXB.out x hx
          · rw [List.mem_singleton] at hx; subst hx; exact hrb.1
        · exact hrb.2 x hx, by rw [HXL.out]; omega, HB11.out⟩, by simp [intOf]; omega⟩
    · obtain rfl : j = n2 := by omega
      have jI : ¬ (j : Int) < j := by omega
      obtain ⟨A9, c9, rfl⟩ := own_form hown
      clear hown hxb hbel hbw
      go_wp2_with fail
      go_ret
      exact ⟨A9, c9, xs, rfl, own_base HOWN.out HB6.out.size, HXB.out, by omega, HB6.out.trans (HBEL.out.mono HB6.out.size)⟩
end Go.Proofs.YtkmfegamblmpeaaGreatDoor

/- The law's same: characters against numbers: by walking its text. -/
namespace Go.Proofs.YtkmfegamblmpeaaGreatDoor
open Go.RowKit
set_option linter.unusedSimpArgs false
set_option linter.unusedVariables false

set_option maxRecDepth 100000 in
set_option maxHeartbeats 4000000 in
theorem Ud.same_any (A B : Option Addr) (na ca nb cb : Nat) (LA LB : List Int) (w : World) (hna : LA.length = na) (hnb : LB.length = nb) (hal : na ≤ 1000000) (hbl : nb ≤ 1000000) (hbd : ∀ x ∈ LA, -2147483648 ≤ x ∧ x ≤ 2147483647)
    (hA : Sl w w.heap.size A (LA.map (Value.int .i32))) (hB : Sl w w.heap.size B (LB.map (Value.int .i64))) :
    Calls Tryz.prog 12 #[.slice A na ca, .slice B nb cb] w fun e w' => e = .returned (.bool (decide (LA = LB))) ∧ Below w.heap.size w w' := by
  have HA := Lib.hid hA
  have HB := Lib.hid hB
  have HNA := Lib.hid hna
  have HNB := Lib.hid hnb
  have HBD := Lib.hid hbd
  obtain ⟨r, hr⟩ : ∃ r, decide (LA = LB) = r := ⟨_, rfl⟩
  rw [hr]
  have HR := Lib.hid hr
  clear hA hB hna hnb hr hbd
  go_enter Tryz.func12, Tryz.ntmps12
  rcases hd : ((na : Int) != (nb : Int)) with _ | _
  · have hnn : na = nb := by
      have : (na : Int) = nb := by simpa using hd
      omega
    subst hnn
    go_wp2_with fail
    go_loopw [13] (fun i wr => ∃ k : Nat, k ≤ na ∧ i = .int .i64 k ∧ LA.take k = LB.take k ∧ Below w.heap.size w wr) (fun i _ => na - (intOf i).toNat)
    case atStart => exact ⟨0, Nat.zero_le _, rfl, rfl, Below.refl _ _⟩
    case round =>
      obtain ⟨k, hk, rfl, htake, hbel⟩ := hrel
      have HTAKE := Lib.hid htake
      have HBEL := Lib.hid hbel
      by_cases hlt : k < na
      · obtain ⟨x, hx⟩ : ∃ x, LA[k]? = some x := ⟨_, List.getElem?_eq_getElem (by rw [HNA.out]; exact hlt)⟩
        obtain ⟨y, hy⟩ : ∃ y, LB[k]? = some y := ⟨_, List.getElem?_eq_getElem (by rw [HNB.out]; exact hlt)⟩
        obtain ⟨ba, oa, rfl, hba, hca⟩ := (HA.out.below hbel hbel.size) (by rw [List.length_map, HNA.out]; omega)
        obtain ⟨bb, ob, rfl, hbb, hcb⟩ := (HB.out.below hbel hbel.size) (by rw [List.length_map, HNB.out]; omega)
        have c0 := hca k (by rw [List.length_map, HNA.out]; exact hlt)
        have c1 := hcb k (by rw [List.length_map, HNB.out]; exact hlt)
        rw [List.getElem?_map, hx, Option.map_some] at c0
        rw [List.getElem?_map, hy, Option.map_some] at c1
        have hxb := HBD.out x (List.mem_of_getElem? hx)
        have ex : IntKind.i64.wrap x = x := by rw [IntKind.wrap_i64]; omega
        have hkI : (k : Int) < na := by omega
        have hk0 : (0 : Int) ≤ k := by omega
        have HX := Lib.hid hx
        have HY := Lib.hid hy
        clear htake hbel hx hy hca hcb hd hxb
        rcases hxy : (x != y) with _ | _
        · have he : x = y := by simpa using hxy
          have htk : LA.take (k + 1) = LB.take (k + 1) := by rw [List.take_add_one, List.take_add_one, HX.out, HY.out, HTAKE.out, he]
          have HTK := Lib.hid htk
          clear htk he
          go_upto_region 6 with (fail)
          go_region
          all_goals go_wp2_with fail
          all_goals exact ⟨⟨k + 1, by omega, by go_num, HTK.out, HBEL.out.drew⟩, by simp [intOf]; omega⟩
        · have hne : LA ≠ LB := by
            rintro rfl
            have := HX.out.symm.trans HY.out
            simp only [Option.some.injEq] at this
            subst this
            simp at hxy
          have hr : r = false := by rw [← HR.out]; exact decide_eq_false hne
          have HRF := Lib.hid hr
          clear hne hr
          go_upto_region 6 with (fail)
          go_region
          all_goals go_wp2_with fail
          all_goals go_ret
          all_goals exact ⟨by rw [HRF.out]; rfl, HBEL.out.drew⟩
      · obtain rfl : na = k := by omega
        have he : LA = LB := by
          have h := HTAKE.out
          rw [List.take_of_length_le (Nat.le_of_eq HNA.out), List.take_of_length_le (Nat.le_of_eq HNB.out)] at h
          exact h
        have hr : r = true := by rw [← HR.out]; exact decide_eq_true he
        have HRF := Lib.hid hr
        clear he hr htake hbel hlt hd
        go_wp2_with fail
        go_ret
        exact ⟨by rw [HRF.out]; rfl, HBEL.out⟩
  · have hr : r = false := by
      rw [← HR.out]
      refine decide_eq_false fun e => ?_
      have h1 := HNA.out
      rw [e, HNB.out] at h1
      subst h1
      simp at hd
    have HRF := Lib.hid hr
    clear hr
    go_wp2_with fail
    go_ret
    exact ⟨by rw [HRF.out]; rfl, Below.refl _ _⟩
end Go.Proofs.YtkmfegamblmpeaaGreatDoor

/- The characters with a mapping, by walking the text. -/
namespace Go.Proofs.YtkmfegamblmpeaaGreatDoor
open Go.RowKit
set_option linter.unusedSimpArgs false
set_option linter.unusedVariables false
theorem Ud.syl_set : C.good [(44032, 55203)] = true ∧ C.ofS [(44032, 55203)] = [44032, 55204] := by decide +kernel
def Ud.mset (T : List Rw.Row) : List Int := C.mrg C.orF (C.chars (Ud.mpd T)) [44032, 55204]
theorem Ud.mset_srt (T : List Rw.Row) : C.srt (Ud.mset T) := C.mrg_srt _ (C.chars_spec _).1.1 (by unfold C.srt; decide)
theorem Ud.mset_mem {T : List Rw.Row} {S : List Int} (ok : Ud.Ok T S) (c : Int) : C.mem (Ud.mset T) c = decide (Md.mp T c ≠ []) := by
  unfold Ud.mset
  rw [C.mrg_mem C.orF rfl (C.chars_spec _).1.1 (by unfold C.srt; decide), Ud.mapped_mem ok]
  have hk : C.mem [44032, 55204] c = decide (4 ≤ Hg.ofK c) := by
    rw [C.mem_cons, C.mem_cons]
    simp only [show C.mem [] c = false from rfl]
    rw [Bool.eq_iff_iff]
    simp
    unfold Hg.ofK
    grind
  rw [hk]
  have h2 := Ud.plain_mp (T := T) c
  rw [Bool.eq_iff_iff, decide_eq_true_iff, ne_eq, ← h2]
  unfold C.orF
  simp only [Bool.or_eq_true, decide_eq_true_iff]
  cases Md.rmp T c with
  | nil => simp
  | cons a l => simp
theorem Ud.mset_len {T : List Rw.Row} {S : List Int} (ok : Ud.Ok T S) : (Ud.mset T).length ≤ 100000 := by
  unfold Ud.mset
  have h1 := C.mrg_len C.orF (C.chars (Ud.mpd T)) [44032, 55204]
  have h2 := C.chars_len (Ud.mpd T)
  have h3 : (Ud.mpd T).length ≤ T.length := by
    unfold Ud.mpd
    rw [List.length_map]
    exact List.length_filter_le _ _
  have := ok.len
  simp at h1
  omega
set_option maxRecDepth 100000 in
set_option maxHeartbeats 4000000 in
theorem Ud.mapped_any (v : Value) (T : List Rw.Row) (S : List Int) (w : World) (ok : Ud.Ok T S) (h : Ud.Is w v T S) :
    Calls Tryz.prog 18 #[v] w (RetSet (Ud.mset T) w) := by
  obtain ⟨b, A0, c0, XA, xc, pc, pp, A3, c3, mb, jb, A4, c4, A5, c5, A6, c6, es, rfl, hat, _, _, hpc, hpp, hents, hbeg, hjoi, _, _, hmp⟩ := h.is
  have hln : (C.chars (Ud.mpd T)).length ≤ 1000000 := by
    have h2 := C.chars_len (Ud.mpd T)
    have h3 : (Ud.mpd T).length ≤ T.length := by
      unfold Ud.mpd
      rw [List.length_map]
      exact List.length_filter_le _ _
    have := ok.len
    omega
  have hsrt := (C.chars_spec (Ud.mpd T)).1.1
  have hms : Ud.mset T = C.mrg C.orF (C.chars (Ud.mpd T)) [44032, 55204] := rfl
  obtain ⟨ms, hmse⟩ : ∃ l, Ud.mset T = l := ⟨_, rfl⟩
  obtain ⟨l, hl⟩ : ∃ l, C.chars (Ud.mpd T) = l := ⟨_, rfl⟩
  rw [hmse] at hms ⊢
  rw [hl] at hms hln hsrt hmp hat
  obtain ⟨n, hn⟩ : ∃ n, l.length = n := ⟨_, rfl⟩
  rw [hn] at hln hat
  have hOf := fun W A (hA : Sl W W.heap.size A (C.fl .i32 [(44032, 55203)])) => C.of_any A 1 1 W.heap.size [(44032, 55203)] W rfl (by decide) (fun r hr => by rw [List.mem_singleton] at hr; subst hr; decide) (Nat.le_refl _) hA
  have HOF := Lib.hid hOf
  have HOR := Lib.hid (fun W A' c' (h1 : Sl W W.heap.size A6 (l.map (Value.int .i32))) (h2 : Sl W W.heap.size A' (([44032, 55204] : List Int).map (Value.int .i32))) => C.or_any A6 A' c6 c' n 2 W.heap.size l [44032, 55204] W hn rfl hln (by decide) hsrt (by unfold C.srt; decide) (Nat.le_refl _) h1 h2)
  rw [← hms] at HOR
  have hba : Below w.heap.size w (w.alloc (.cells #[.slice none 0 0] 41)) := (Below.refl _ _).alloc (Nat.le_refl _) _
  have hE := Rw.At.new w 41 [.slice none 0 0]
  obtain ⟨wa, hwa⟩ : ∃ wa, (w.alloc (.cells #[.slice none 0 0] 41)).alloc (.cells #[.int .i32 44032, .int .i32 55203] 91) = wa := ⟨_, rfl⟩
  have hba2 : Below w.heap.size w wa := by rw [← hwa]; exact hba.alloc hba.size _
  have hE2 : Rw.At wa w.heap.size 41 [.slice none 0 0] := by rw [← hwa]; exact hE.alloc _
  have hSl : Sl wa wa.heap.size (some ⟨w.heap.size + 1, 0, none⟩) (C.fl .i32 [(44032, 55203)]) := by
    have hh := heap_alloc_new (w.alloc (.cells #[.slice none 0 0] 41)) (.cells #[.int .i32 44032, .int .i32 55203] 91)
    rw [show (w.alloc (.cells #[.slice none 0 0] 41)).heap.size = w.heap.size + 1 by simp, hwa] at hh
    exact Sl.lit rfl _ _ hh
  have HWA := Lib.hid hwa
  have HAT := Lib.hid (hat.below hba2)
  have HE := Lib.hid hE2
  have HB := Lib.hid hba2
  have HMP := Lib.hid (hmp.below hba2 hba2.size)
  have HSL := Lib.hid hSl
  clear hwa hat hE hE2 hba hba2 hmp hSl hbeg hjoi hents hpc hpp hms hmse hl hn hln hsrt h ok hOf
  go_enter Tryz.func18, Tryz.ntmps18
  go_wp2_with fail
  rw [HWA.out]
  refine (HOF.out wa _ HSL.out).mono ?_
  rintro e w1 ⟨hg, _⟩
  obtain ⟨A, c, rfl, hown, hb1⟩ := hg Ud.syl_set.1
  rw [Ud.syl_set.2] at hown ⊢
  have hB1 := HB.out.trans (hb1.mono HB.out.size)
  have hbn : Below w1.heap.size w1 (w1.alloc (.cells #[.slice A 2 c] 41)) := (Below.refl _ _).alloc (Nat.le_refl _) _
  obtain ⟨w2, hw2⟩ : ∃ w2, w1.alloc (.cells #[.slice A 2 c] 41) = w2 := ⟨_, rfl⟩
  have hs2 : Rw.At w2 w1.heap.size 41 [.slice A 2 c] := by rw [← hw2]; exact Rw.At.new w1 41 [.slice A 2 c]
  rw [hw2] at hbn
  have hat2 := (HAT.out.below hb1).below hbn
  have hE2 := (HE.out.below hb1).below hbn
  have HB2 := Lib.hid (hB1.trans (hbn.mono hB1.size))
  have HMP2 := Lib.hid ((HMP.out.below hb1 hb1.size).below hbn hbn.size)
  have HS2 := Lib.hid (((Sl.of_own hown).below hbn hbn.size))
  have HW2 := Lib.hid hw2
  have HE2 := Lib.hid hE2
  have z9 := hat2.cell 9 rfl
  have hl9 := hat2.lt
  have z0 := hs2.cell 0 rfl
  have hl0 := hs2.lt
  clear hown hb1 hB1 hbn hw2 hat2 hE2 hs2 HWA HE HAT HMP HB HSL HOF hg
  go_upto_region 2 with (fail)
  rw [HW2.out]
  refine Stg.wp_region Stg.Ex Stg.Ex.rel (by kernel_rfl) (by kernel_rfl) (by kernel_rfl) ?_
  have e9 := Stg.cells (w := w2.drew) z9 hl9
  have e0 := Stg.cells (w := w2.drew) z0 hl0
  refine Stg.readW (by kernel_rfl) (by kernel_rfl) (by kernel_rfl) ?_; intro K hK; go_big_quiet_op; go_big_quiet_on
  refine Stg.read 0 (by kernel_rfl) (by kernel_rfl) (by kernel_rfl) w2.drew rfl (by kernel_rfl) ?_; intro K hK; go_big_quiet_op; go_big_quiet_on
  refine Stg.readW (by kernel_rfl) (by kernel_rfl) (by kernel_rfl) ?_; intro K hK; go_big_quiet_op; go_big_quiet_on
  refine Stg.read 0 (by kernel_rfl) (by kernel_rfl) (by kernel_rfl) w2.drew rfl (by kernel_rfl) ?_; intro K hK; go_big_quiet_op; go_big_quiet_on
  refine Stg.read 0 (by kernel_rfl) (by kernel_rfl) (by kernel_rfl) w2.drew rfl (by kernel_rfl) ?_; intro K hK; go_big_quiet_op; go_big_quiet_on
  refine Stg.call 45 _ _ rfl (C.enter Tryz.func45 (by kernel_rfl) rfl) [.agg #[.slice A6 n c6], .agg #[.slice A 2 c]] rfl w2.drew _ (HOR.out w2.drew A c (HMP2.out.below (Below.refl _ _).drew (Nat.le_refl _)) (HS2.out.below (Below.refl _ _).drew (Nat.le_refl _))) (by kernel_rfl) rfl (by kernel_rfl) ?_
  rintro e q1 ⟨A8, c8, rfl, hown8, hb8⟩
  refine ⟨_, rfl, hb8, ?_⟩
  intro A' hA'
  simp only [Act.put, List.setIfInBounds_toArray, List.set_cons_succ, List.set_cons_zero] at hA'
  subst hA'
  have hE3 := HE2.out.below ((Below.refl _ _).drew.trans hb8)
  have u1 := hE3.frozen 0
  have u2 := hE3.lt
  have u0 := hE3.cell 0 rfl
  refine Stg.last q1 (by kernel_rfl) (by kernel_rfl) (by kernel_rfl) rfl (by kernel_rfl) ?_; intro K hK; go_simp
  refine hK _ _ ?_
  intro A' hA'; subst hA'
  refine Stg.nil _ rfl ?_
  have hk := hE3.set 0 (.slice A8 ms.length c8)
  have hlt2 : w.heap.size < w2.heap.size := HE2.out.lt
  have HOW := Lib.hid (own_base (ownsRow_setCell_below (a := ⟨w.heap.size, 0, none⟩) hown8 (show w.heap.size < w2.drew.heap.size from hlt2) (.slice A8 ms.length c8)) (show w.heap.size ≤ w2.drew.heap.size from HB2.out.size))
  have HB3 := Lib.hid ((HB2.out.trans (((Below.refl w2.heap.size w2).drew.trans hb8).mono HB2.out.size)).setCell (p := ⟨w.heap.size, 0, none⟩) (Nat.le_refl _) (.slice A8 ms.length c8))
  clear hb8 hown8 e9 e0 z9 z0
  go_wp2_with fail
  refine bodyPost_ret (results_cell_row rfl _ _ w.heap.size _ _ _ _ rfl hk Tryz.underlying41 rfl (by kernel_rfl)) rfl ?_
  exact ⟨A8, c8, rfl, HOW.out, HB3.out⟩
end Go.Proofs.YtkmfegamblmpeaaGreatDoor

/- What is looked up of numbers that are no characters. -/
namespace Go.Proofs.YtkmfegamblmpeaaGreatDoor
set_option linter.unusedSimpArgs false
set_option linter.unusedVariables false
theorem Ud.find_out {T : List Rw.Row} {S : List Int} (h : Ud.Ok T S) {c : Int} (hc : ¬ (0 ≤ c ∧ c ≤ 1114111)) : Md.find T c = none := by
  cases hf : Md.find T c with
  | none => rfl
  | some r =>
    obtain ⟨h1, h2⟩ := Md.find_some hf
    have := Ud.good_bd (h.good r h1)
    omega
theorem Ud.rmp_out {T : List Rw.Row} {S : List Int} (h : Ud.Ok T S) {c : Int} (hc : ¬ (0 ≤ c ∧ c ≤ 1114111)) : Md.rmp T c = [] := by
  unfold Md.rmp
  rw [Ud.find_out h hc]
  rfl
theorem Ud.kind_out {c : Int} (hc : ¬ (0 ≤ c ∧ c ≤ 1114111)) : Hg.ofK c = 0 := by unfold Hg.ofK; grind
theorem Ud.out_all {T : List Rw.Row} {S : List Int} (h : Ud.Ok T S) {c : Int} (hc : ¬ (0 ≤ c ∧ c ≤ 1114111)) : Md.cls T c = 0 ∧ Md.mp T c = [] ∧ Ud.full T c = [c] ∧ Md.prim T (C.mem S) c = false := by
  have hr := Ud.rmp_out h hc
  have hk := Ud.kind_out hc
  refine ⟨?_, (Ud.none_mp hr (by omega)).1, Ud.full_one hr (by omega), ?_⟩
  · unfold Md.cls
    rw [Ud.find_out h hc]
    rfl
  · rw [Ud.none_prim hr, hk]
    rfl
/-- All of a full decomposition are characters. -/
theorem Ud.full_isC {T : List Rw.Row} {S : List Int} (h : Ud.Ok T S) {a : Int} (ha : C.isC a = true) : ∀ y ∈ Ud.full T a, C.isC y = true := by
  obtain ⟨l, hl⟩ := Md.full_some h.chk a
  have hf : Ud.full T a = l := by unfold Ud.full; rw [hl]; rfl
  rw [hf]
  unfold Md.full at hl
  rw [Md.exp_lv _ _ _ _ (by simp)] at hl
  cases hv : Md.lv (Md.mp T) (T.length + 3) a with
  | none => rw [hv] at hl; cases hl
  | some b =>
    rw [hv, Option.bind_some] at hl
    unfold Md.fit at hl
    split at hl
    · simp only [List.nil_append, Option.some.injEq] at hl
      subst hl
      refine Md.lv_all (Q := fun y => C.isC y = true) (fun c d hd => ?_) _ _ _ hv ha
      unfold Md.mp at hd
      split at hd
      · rename_i hp
        rw [Ud.pair_kind] at hp
        simp only [decide_eq_true_eq] at hp
        have hk := Ud.kind_le c
        have hk2 : Hg.ofK c = 4 ∨ Hg.ofK c = 5 := by omega
        have hs := Hg.ofK_syl c hk2
        rcases hk2 with h4 | h5
        · rw [Hg.pairK_four c h4] at hd
          simp only [List.mem_cons, List.not_mem_nil, or_false] at hd
          unfold C.isC
          simp only [decide_eq_true_eq]
          omega
        · rw [Hg.pairK_five c h5] at hd
          simp only [List.mem_cons, List.not_mem_nil, or_false] at hd
          unfold C.isC
          simp only [decide_eq_true_eq]
          omega
      · unfold Md.rmp at hd
        cases hf : Md.find T c with
        | none => rw [hf] at hd; simp at hd
        | some r =>
          rw [hf] at hd
          exact ((h.good r (Md.find_some hf).1).2.2.2.2.2 d (by simpa using hd)).1
    · cases hl
theorem Ud.begs_out {T : List Rw.Row} {S : List Int} (h : Ud.Ok T S) {c : Int} (hc : ¬ (0 ≤ c ∧ c ≤ 1114111)) : Ud.begs T c = [] := by
  have hcn : C.isC c = false := by
    unfold C.isC
    rw [decide_eq_false_iff_not]
    omega
  have h1 : Ud.alone T c = false := by unfold Ud.alone; rw [hcn]; rfl
  have h2 : Ud.syls c = [] := by unfold Ud.syls; rw [if_neg (by rw [Ud.kind_out hc]; decide)]
  have h3 : Ud.beg T T c = [] := by
    unfold Ud.beg
    rw [List.map_eq_nil_iff, List.filter_eq_nil_iff]
    intro r hr
    simp only [decide_eq_true_eq]
    intro he
    have hg := h.good r (Ud.mem_mr.1 hr).1
    obtain ⟨l, hl⟩ := Md.full_some h.chk r.1
    have hfl : Ud.full T r.1 = l := by unfold Ud.full; rw [hl]; rfl
    have hall := Ud.full_isC h hg.1
    have hpos := (Md.full_none hl).2.1
    rw [hfl] at he hall
    cases l with
    | nil => simp at hpos
    | cons y l =>
      have hy := hall y List.mem_cons_self
      simp at he
      rw [he, hcn] at hy
      cases hy
  unfold Ud.begs
  rw [h1, h2, h3, if_neg (by simp)]
  simp
theorem Ud.mset_syl {T : List Rw.Row} {S : List Int} (h : Ud.Ok T S) : C.mem (Ud.mset T) 55203 = true := by
  rw [Ud.mset_mem h, decide_eq_true_iff]
  intro he
  have := (Ud.plain_mp (T := T) 55203).2 he
  exact absurd this.2 (by decide)
end Go.Proofs.YtkmfegamblmpeaaGreatDoor
