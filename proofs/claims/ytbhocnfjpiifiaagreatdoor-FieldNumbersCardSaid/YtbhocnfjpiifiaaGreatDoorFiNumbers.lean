/- The law FieldNumbers, by walking its text. -/
import Derived.Test.YtbhocnfjpiifiaaGreatDoorFiHexes
import Derived.Test.YtbhocnfjpiifiaaGreatDoorFiNum
import Derived.Test.YtbhocnfjpiifiaaGreatDoorFiNumRef
import Derived.Test.YtbhocnfjpiifiaaGreatDoorFiRHex
import Derived.Test.YtbhocnfjpiifiaaGreatDoorFiLaw
import Derived.Test.YtbhocnfjpiifiaaGreatDoorFiRef2
import Derived.BigRegion
import Derived.Deep.RegionHeld3
import Derived.Deep.DeepCutAuto
namespace Go.Proofs.YtbhocnfjpiifiaaGreatDoor
open Go.RowKit Go.Stop
set_option linter.unusedSimpArgs false
set_option linter.unusedVariables false

theorem Fi.hex_bd {l : List UInt8} {v : Int} (h : Fi.hex l = some v) : 0 ≤ v ∧ v ≤ 1114111 := by
  unfold Fi.hex at h
  split at h
  · rename_i h1
    rw [Bool.and_eq_true, Bool.and_eq_true, decide_eq_true_eq] at h1
    have := (Fi.low_val l h1.2.1).1
    simp only [Option.some.injEq] at h
    omega
  · cases h
theorem Fi.num_bd {l : List UInt8} {m v : Int} (h : Fi.num l m = some v) : 0 ≤ v ∧ v ≤ m := by
  obtain ⟨u, rfl, h1, _⟩ := Fi.num_some h
  omega

def Fi.LaidF (w : World) : Prop := Fi.Laid w ∧ Fi.LaidN w
theorem Fi.LaidF.next {w w' : World} (h : Fi.LaidF w) (hb : Below w.heap.size w w') : Fi.LaidF w' := ⟨h.1.below hb, h.2.next hb⟩

theorem Fi.third {P Q : Prop} {W w' : World} {B : Nat} (h : P ∧ Q ∧ Below B W w') : Below B W w' := h.2.2
theorem Fi.keep2 {W w' : World} {B b1 b2 o1 o2 : Nat} {v1 v2 : Value} (d1 : W.cell? ⟨b1, o1, none⟩ = some v1) (d2 : W.cell? ⟨b2, o2, none⟩ = some v2) (h1 : b1 < B) (h2 : b2 < B) (h : Below B W w') :
    w'.cell? ⟨b1, o1, none⟩ = some v1 ∧ w'.cell? ⟨b2, o2, none⟩ = some v2 ∧ Below B W w' := ⟨((bcell h).1 _ _ h1).trans d1, ((bcell h).1 _ _ h2).trans d2, h⟩
theorem Fi.ref_ok (x : ByteArray) : decide (0 ≤ (Fi.hex x.data.toList).getD (-1)) = Q.ok x := by
  unfold Q.ok
  rcases h : Fi.hex x.data.toList with _ | v
  · rfl
  · exact decide_eq_true (Fi.hex_bd h).1
theorem Fi.ref_val (x : ByteArray) (h : Q.ok x = true) : (Fi.hex x.data.toList).getD (-1) = Q.val x := by
  unfold Q.ok at h
  unfold Q.val
  rcases hh : Fi.hex x.data.toList with _ | v
  · rw [hh] at h; cases h
  · rfl
theorem Fi.val_bd (x : ByteArray) : 0 ≤ Q.val x ∧ Q.val x ≤ 1114111 := by
  unfold Q.val
  rcases hh : Fi.hex x.data.toList with _ | v
  · exact ⟨by decide, by decide⟩
  · exact Fi.hex_bd hh
theorem Fi.all_step {l : List ByteArray} {i : Nat} {x : ByteArray} (h : l[i]? = some x) : (l.take (i + 1)).all Q.ok = ((l.take i).all Q.ok && Q.ok x) := by
  rw [List.take_add_one, h]
  simp

set_option maxRecDepth 100000 in
set_option maxHeartbeats 4000000 in
theorem Fi.numbers_row (W : World) (s : ByteArray) (hs : s.size ≤ maxLen) (m : Int) (m0 : -9223372036854775808 ≤ m) (m1 : m ≤ 9223372036854775807) (hL : Fi.LaidF W) :
    Calls Tryz.prog 3 #[.string s, .int .i64 m] W fun e w' => e = .returned (.bool true) ∧ Below W.heap.size W w' := by
  have hcut := Fi.cut_any s 40
  obtain ⟨t, ht⟩ : ∃ t, Fi.cutS s 40 = t := ⟨_, rfl⟩
  have hts : t.size ≤ 40 := by rw [← ht]; exact Fi.cutS_size s 40
  have hcut' : ∀ W : World, Calls Tryz.prog 5 #[.string s, .int .i64 40] W fun e w' => e = .returned (.string t) ∧ W = w' := fun W => by rw [← ht]; exact hcut W hs
  obtain ⟨M, hM⟩ : ∃ M : Int, max 0 (min m 1000000000) = M := ⟨_, rfl⟩
  have M0 : 0 ≤ M := by omega
  have M1 : M ≤ 1000000000 := by omega
  -- the four answers
  obtain ⟨hx, hhx⟩ : ∃ x, Fi.hex t.data.toList = x := ⟨_, rfl⟩
  obtain ⟨nx, hnx⟩ : ∃ x, Fi.num t.data.toList M = x := ⟨_, rfl⟩
  have c1 : ∀ W : World, Calls Tryz.prog 6 #[.string t] W fun e w' => e = .returned (.tuple #[.int .i32 (hx.getD 0), .bool hx.isSome]) ∧ w' = W := fun W => by
    rw [← hhx]; exact Fi.hex_any t W
  have c2 : ∀ W : World, Fi.LaidF W → Calls Tryz.prog 7 #[.string t, .int .i64 M] W fun e w' => e = .returned (.tuple #[.int .i64 (nx.getD 0), .bool nx.isSome]) ∧ Below W.heap.size W w' := fun W hW => by
    rw [← hnx]; exact Fi.num_any t (by omega) M M1 W hW.2
  have c3 : ∀ W : World, Calls Tryz.prog 8 #[.string t] W fun e w' => e = .returned (.int .i64 (hx.getD (-1))) ∧ Below W.heap.size W w' := fun W => by
    rw [← hhx]; exact Fi.rhex_any t W
  have c4 : ∀ W : World, Calls Tryz.prog 9 #[.string t, .int .i64 M] W fun e w' => e = .returned (.int .i64 (nx.getD (-1))) ∧ Below W.heap.size W w' := fun W => by
    rw [← hnx]; exact Fi.rnum_any t M M1 W
  obtain ⟨bi, cv, xv, ebi, ecv, exv, f1, f2, f3, f4, f5⟩ : ∃ (bi : Bool) (cv xv : Int), hx.isSome = bi ∧ hx.getD 0 = cv ∧ hx.getD (-1) = xv ∧ decide (0 ≤ xv) = bi ∧ max xv 0 = cv ∧ 0 ≤ cv ∧ cv ≤ 1114111 ∧ -1 ≤ xv := by
    refine ⟨_, _, _, rfl, rfl, rfl, ?_⟩
    rcases hx with _ | v
    · exact ⟨by decide, by decide, by decide, by decide, by decide⟩
    · have := Fi.hex_bd hhx
      refine ⟨?_, ?_, this.1, this.2, ?_⟩
      · show decide (0 ≤ v) = true
        exact decide_eq_true this.1
      · show max v 0 = v
        omega
      · show -1 ≤ v; omega
  obtain ⟨bn, dv, yv, ebn, edv, eyv, g1, g2, g3, g4, g5⟩ : ∃ (bn : Bool) (dv yv : Int), nx.isSome = bn ∧ nx.getD 0 = dv ∧ nx.getD (-1) = yv ∧ decide (0 ≤ yv) = bn ∧ max yv 0 = dv ∧ 0 ≤ dv ∧ dv ≤ 1000000000 ∧ -1 ≤ yv := by
    refine ⟨_, _, _, rfl, rfl, rfl, ?_⟩
    rcases nx with _ | v
    · exact ⟨by decide, by decide, by decide, by decide, by decide⟩
    · have := Fi.num_bd hnx
      refine ⟨?_, ?_, this.1, show v ≤ 1000000000 by omega, ?_⟩
      · show decide (0 ≤ v) = true
        exact decide_eq_true this.1
      · show max v 0 = v
        omega
      · show -1 ≤ v; omega
  simp only [ebi, ecv, exv] at c1 c3
  simp only [ebn, edv, eyv] at c2 c4
  -- the words
  obtain ⟨L, hLL⟩ : ∃ L, Q.bas (Fi.spl 32 [] t.data.toList) = L := ⟨_, rfl⟩
  obtain ⟨n, hn⟩ : ∃ n, L.length = n := ⟨_, rfl⟩
  have hn41 : n ≤ 41 := by
    rw [← hn, ← hLL]
    unfold Q.bas
    rw [List.length_map]
    have := Fi.spl_len 32 t.data.toList []
    have e : t.data.toList.length = t.size := by simp
    omega
  have c5 : ∀ W : World, Calls Tryz.prog 10 #[.string t] W (Q.RetHexes L W) := fun W => by rw [← hLL]; exact Q.hexes_any t (by omega) W
  have c6 : ∀ W : World, Calls Tryz.prog 11 #[.string t, .int .u8 32] W fun e w' => ∃ A c, e = .returned (.slice A n c) ∧ Sl w' w'.heap.size A (L.map Value.string) ∧ Below W.heap.size W w' := fun W => by
    refine (Fi.rsplit_any 32 t (by omega) W).mono ?_
    rintro e w' ⟨A, k, c, rfl, hk, hS, hb⟩
    have hkn : k = n := by
      rw [← hk, ← hn, ← hLL]
      unfold Q.bas
      rw [List.length_map]
    subst hkn
    refine ⟨A, c, rfl, ?_, hb⟩
    rw [← hLL]
    unfold Q.bas
    rw [List.map_map]
    exact hS
  have hnp : 0 < L.length := by
    rw [← hLL]
    unfold Q.bas
    rw [List.length_map]
    rcases hq : Fi.spl 32 [] t.data.toList with _ | ⟨y, r⟩
    · exact absurd hq (Fi.spl_ne 32 _ _)
    · simp
  have HPOS := Lib.hid (hn ▸ hnp)
  have HN := Lib.hid hn
  clear hnp
  clear hcut ht hhx hnx hLL hn ebi ecv exv ebn edv eyv
  go_enter Tryz.func3, Tryz.ntmps3
  go_wp2_with fail
  refine (Fi.awake_any _ hL.1).mono ?_
  rintro e w1 ⟨rfl, hb1⟩
  have L1 := hL.next hb1
  go_wp2_with fail
  refine (hcut' _).mono ?_
  rintro e w2 ⟨rfl, rfl⟩
  go_wp2_with fail
  refine (c1 _).mono ?_
  rintro e w3 ⟨rfl, rfl⟩
  go_wp2_with fail
  refine (c2 _ L1).mono ?_
  rintro e w4 ⟨rfl, hb4⟩
  have L4 := L1.next hb4
  go_wp2_with fail
  refine (c3 _).mono ?_
  rintro e w5 ⟨rfl, hb5⟩
  go_wp2_with fail
  refine (c4 _).mono ?_
  rintro e w6 ⟨rfl, hb6⟩
  have hb16 := (hb4.trans (hb5.mono hb4.size)).trans (hb6.mono (Nat.le_trans hb4.size hb5.size))
  have HB16 := Lib.hid (hb1.trans (hb16.mono hb1.size))
  have hz16 := HB16.out.size
  clear hb1 hb4 hb5 hb6 hb16 L1 L4
  go_wp2_with fail
  refine (c5 _).mono ?_
  rintro e w7 hr
  have hpos : 0 < n := by have := HPOS.out; omega
  have hn0 : ¬ (n : Int) = 0 := by omega
  unfold Q.RetHexes at hr
  by_cases hall : L.all Q.ok = true
  · rw [if_pos hall] at hr
    obtain ⟨A, cp, rfl, hA, hb7⟩ := hr
    rw [HN.out]
    have HA := Lib.hid hA
    have HALL := Lib.hid hall
    clear hA hall
    go_wp2_with fail
    refine (c6 _).mono ?_
    rintro e w8 ⟨A2, cp2, rfl, hS, hb8⟩
    have HA8 := Lib.hid (HA.out.below hb8 hb8.size)
    have HS := Lib.hid hS
    have HB68 := Lib.hid ((HB16.out.trans (hb7.mono hz16)).trans (hb8.mono (Nat.le_trans hz16 hb7.size)))
    have hz8 := HB68.out.size
    clear hS hb7 hb8 HA
    go_wp2_with fail
    go_loopw [14, 73] (fun vg vi wr => ∃ i : Nat, i ≤ n ∧ vi = .int .i64 i ∧ vg = .bool true ∧ Below w8.heap.size w8 wr) (fun _ vi _ => n - (intOf vi).toNat)
    case atStart => exact ⟨0, by omega, rfl, rfl, Below.refl _ _⟩
    case round =>
      obtain ⟨i, hi, rfl, rfl, hbr⟩ := hrel
      obtain ⟨w9, rfl⟩ : ∃ w9 : World, w9 = wr := ⟨_, rfl⟩
      have hz9 := hbr.size
      by_cases hlt : (i : Int) < n
      · obtain ⟨x, hx⟩ : ∃ x, L[i]? = some x := ⟨_, List.getElem?_eq_getElem (by rw [HN.out]; omega)⟩
        obtain ⟨g, o, rfl, hg, hcell⟩ := HS.out (by rw [List.length_map, HN.out]; omega)
        have hc := hcell i (by rw [List.length_map, HN.out]; omega)
        rw [List.getElem?_map, hx, ← (bcell hbr).1 _ _ hg] at hc
        simp only [Option.map_some] at hc
        have n0 : (0 : Int) ≤ (i : Int) := by omega
        have hok : Q.ok x = true := List.all_eq_true.1 HALL.out x (List.mem_of_getElem? hx)
        have hge : decide (0 ≤ (Fi.hex x.data.toList).getD (-1)) = true := by rw [Fi.ref_ok, hok]
        have c7 := fun W => Fi.rhex_any x W
        obtain ⟨v, hv⟩ : ∃ v, (Fi.hex x.data.toList).getD (-1) = v := ⟨_, rfl⟩
        simp only [hv] at c7 hge
        have hge' := of_decide_eq_true hge
        have HBR := Lib.hid hbr
        clear hcell hx hok hge hv hbr
        go_wp2_with fail
        refine (c7 _).mono ?_
        rintro e wa ⟨rfl, hba⟩
        go_wp2_with fail
        exact ⟨⟨i + 1, by omega, by go_num, by rfl, HBR.out.trans (hba.mono hz9)⟩, by simp [intOf]; omega⟩
      · obtain rfl : i = n := by omega
        have HB9 := Lib.hid (HB68.out.trans (hbr.mono hz8))
        have HA9 := Lib.hid (HA8.out.below hbr hz9)
        have HS9 := Lib.hid (HS.out.below hbr hz9)
        have hz := HB9.out.size
        clear hbr
        go_wp2_with fail
        go_loopw [108] (fun vi wr => ∃ k : Nat, k ≤ i ∧ vi = .int .i64 k ∧ Below w9.heap.size w9 wr) (fun vi _ => i - (intOf vi).toNat)
        case atStart => exact ⟨0, by omega, rfl, Below.refl _ _⟩
        case round =>
          obtain ⟨k, hk, rfl, hbr⟩ := hrel
          obtain ⟨wb, rfl⟩ : ∃ wb : World, wb = wr := ⟨_, rfl⟩
          have hzb := hbr.size
          by_cases hlt2 : (k : Int) < i
          · obtain ⟨x, hx⟩ : ∃ x, L[k]? = some x := ⟨_, List.getElem?_eq_getElem (by rw [HN.out]; omega)⟩
            have hok : Q.ok x = true := List.all_eq_true.1 HALL.out x (List.mem_of_getElem? hx)
            obtain ⟨v, hv⟩ : ∃ v, Q.val x = v := ⟨_, rfl⟩
            have hvb := Fi.val_bd x
            rw [hv] at hvb
            obtain ⟨vb0, vb1⟩ := hvb
            obtain ⟨g, o, rfl, hg, hcell⟩ := HS9.out (by rw [List.length_map, HN.out]; omega)
            have hc := hcell k (by rw [List.length_map, HN.out]; omega)
            rw [List.getElem?_map, hx, ← (bcell hbr).1 _ _ hg] at hc
            simp only [Option.map_some] at hc
            obtain ⟨g2, o2, rfl, hg2, hcell2⟩ := HA9.out (by unfold Q.vals; rw [List.length_map, HN.out]; omega)
            have hc2 := hcell2 k (by unfold Q.vals; rw [List.length_map, HN.out]; omega)
            unfold Q.vals at hc2
            rw [List.getElem?_map, hx, Option.map_some, hv, ← (bcell hbr).1 _ _ hg2] at hc2
            have n0 : (0 : Int) ≤ (k : Int) := by omega
            have c7 : ∀ W : World, Calls Tryz.prog 8 #[.string x] W fun e w' => e = .returned (.int .i64 v) ∧ Below W.heap.size W w' := fun W => by
              have := Fi.rhex_any x W
              rw [Fi.ref_val x hok, hv] at this
              exact this
            have HBR := Lib.hid hbr
            have hg' : g < wb.heap.size := by omega
            have hg2' : g2 < wb.heap.size := by omega
            have hxx : Below wb.heap.size wb wb := Below.refl _ _
            have hwr : IntKind.i64.wrap v = v := by rw [IntKind.wrap_i64]; omega
            clear hcell hcell2 hx hok hv hbr
            go_wp2_with fail
            go_region_held3 (fun w' => w'.cell? ⟨g, o + k, none⟩ = some (.string x) ∧ w'.cell? ⟨g2, o2 + k, none⟩ = some (.int .i32 v) ∧ Below wb.heap.size wb w')
              (first
                | exact Fi.keep2 hc hc2 hg' hg2' hxx
                | exact Fi.keep2 hc hc2 hg' hg2' hxx.drew
                | exact Fi.keep2 hc hc2 hg' hg2' hbz9
                | fail)
              (first
                | (go_at_call 8; refine (c7 _).mono ?_; rintro e wq ⟨rfl, hbc⟩; have hbz9 := (Fi.third (W := wb) (by assumption)).trans (hbc.mono (Fi.third (W := wb) (by assumption)).size))
                | fail)
            all_goals
              have hbf := Fi.third (W := wb) (by assumption)
              go_wp2_with fail
              exact ⟨⟨k + 1, by omega, by go_num, HBR.out.trans (hbf.mono hzb)⟩, by simp [intOf]; omega⟩
          · obtain rfl : k = i := by omega
            have HB10 := Lib.hid (HB9.out.trans (hbr.mono hz))
            clear hbr
            go_wp2_with fail
            go_ret
            exact ⟨rfl, HB10.out⟩
  · rw [if_neg hall] at hr
    obtain ⟨rfl, hb7⟩ := hr
    have HALL := Lib.hid (show L.all Q.ok = false by simpa using hall)
    clear hall
    go_wp2_with fail
    refine (c6 _).mono ?_
    rintro e w8 ⟨A2, cp2, rfl, hS, hb8⟩
    have HS := Lib.hid hS
    have HB68 := Lib.hid ((HB16.out.trans (hb7.mono hz16)).trans (hb8.mono (Nat.le_trans hz16 hb7.size)))
    have hz8 := HB68.out.size
    clear hS hb7 hb8
    go_wp2_with fail
    go_loopw [14, 73] (fun vg vi wr => ∃ (i : Nat) (bg : Bool), i ≤ n ∧ vi = .int .i64 i ∧ vg = .bool bg ∧ (L.take i).all Q.ok = bg ∧ Below w8.heap.size w8 wr) (fun _ vi _ => n - (intOf vi).toNat)
    case atStart => exact ⟨0, true, by omega, rfl, rfl, rfl, Below.refl _ _⟩
    case round =>
      obtain ⟨i, bg, hi, rfl, rfl, hbg, hbr⟩ := hrel
      obtain ⟨w9, rfl⟩ : ∃ w9 : World, w9 = wr := ⟨_, rfl⟩
      have hz9 := hbr.size
      by_cases hlt : (i : Int) < n
      · obtain ⟨x, hx⟩ : ∃ x, L[i]? = some x := ⟨_, List.getElem?_eq_getElem (by rw [HN.out]; omega)⟩
        obtain ⟨g, o, rfl, hg, hcell⟩ := HS.out (by rw [List.length_map, HN.out]; omega)
        have hc := hcell i (by rw [List.length_map, HN.out]; omega)
        rw [List.getElem?_map, hx, ← (bcell hbr).1 _ _ hg] at hc
        simp only [Option.map_some] at hc
        have n0 : (0 : Int) ≤ (i : Int) := by omega
        have hstep := Fi.all_step hx
        rw [hbg] at hstep
        have hge := Fi.ref_ok x
        have c7 := fun W => Fi.rhex_any x W
        obtain ⟨v, hv⟩ : ∃ v, (Fi.hex x.data.toList).getD (-1) = v := ⟨_, rfl⟩
        simp only [hv] at c7 hge
        have HBR := Lib.hid hbr
        have HST := Lib.hid hstep
        rcases bg with _ | _
        · clear hcell hx hge hv hbr hbg hstep c7
          go_wp2_with fail
          exact ⟨⟨i + 1, false, by omega, by go_num, by rfl, by rw [HST.out]; rfl, HBR.out⟩, by simp [intOf]; omega⟩
        · have HGE := Lib.hid hge
          clear hcell hx hge hv hbr hbg hstep
          rcases Int.lt_or_le v 0 with hneg | hnn
          · have hneg' : decide (0 ≤ v) = false := decide_eq_false (by omega)
            have HK : Q.ok x = false := by rw [← HGE.out]; exact decide_eq_false (by omega)
            have HK := Lib.hid HK
            go_wp2_with fail
            refine (c7 _).mono ?_
            rintro e wa ⟨rfl, hba⟩
            go_wp2_with fail
            exact ⟨⟨i + 1, false, by omega, by go_num, by rfl, by rw [HST.out, HK.out]; rfl, HBR.out.trans (hba.mono hz9)⟩, by simp [intOf]; omega⟩
          · have hnn' : decide (0 ≤ v) = true := decide_eq_true hnn
            have HK : Q.ok x = true := by rw [← HGE.out]; exact decide_eq_true hnn
            have HK := Lib.hid HK
            go_wp2_with fail
            refine (c7 _).mono ?_
            rintro e wa ⟨rfl, hba⟩
            go_wp2_with fail
            exact ⟨⟨i + 1, true, by omega, by go_num, by rfl, by rw [HST.out, HK.out]; rfl, HBR.out.trans (hba.mono hz9)⟩, by simp [intOf]; omega⟩
      · obtain rfl : i = n := by omega
        have hf : bg = false := by
          rw [← hbg, List.take_of_length_le (by rw [HN.out]; exact Nat.le_refl _)]
          exact HALL.out
        subst hf
        have HB9 := Lib.hid (HB68.out.trans (hbr.mono hz8))
        clear hbr hbg
        go_wp2_with fail
        go_loop [108] (fun vi => vi = .int .i64 0) (fun vi => 0)
        case atStart => rfl
        case round =>
          obtain rfl := hrel
          go_wp2_with fail
          go_ret
          exact ⟨rfl, HB9.out⟩
end Go.Proofs.YtbhocnfjpiifiaaGreatDoor
