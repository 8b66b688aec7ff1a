/- The law RowsBack, by walking its text. -/
import Derived.Test.YtppmcnpjglackaaGreatDoorRbPlain
import Derived.Test.YtppmcnpjglackaaGreatDoorRwSame
import Derived.Test.YtppmcnpjglackaaGreatDoorRwOwn
import Derived.Test.YtppmcnpjglackaaGreatDoorRwPLine
import Derived.Test.YtppmcnpjglackaaGreatDoorRwRLine
import Derived.Test.YtppmcnpjglackaaGreatDoorStepCall
import Derived.Deep.RegionLaw
import Derived.Deep.RegionHeld3
import Derived.BigQuiet
import Derived.BigRegion
import Derived.Deep.RegionWith
namespace Go.Proofs.YtppmcnpjglackaaGreatDoor
open Go.RowKit
set_option linter.unusedSimpArgs false
set_option linter.unusedVariables false

theorem Rb.infoRow : (Tryz.prog.info? 27).map (fun i => (i.zero, i.size, i.bytes)) = some (some (.agg #[.int .i64 0, .int .i64 0, .slice none 0 0]), 3, 40) := by kernel_rfl
theorem Rb.txt_size (l : List Rw.Row) (h : ∀ r ∈ l, Rw.fine r) : (⟨(Rw.txt l).toArray⟩ : ByteArray).size ≤ 1001 * l.length := by
  rw [Rw.ba_size]
  exact Rw.txt_len l fun r hr => (h r hr).1
theorem Rb.line_size (r : Rw.Row) (h : Rw.fine r) : (⟨(Rw.line r).toArray⟩ : ByteArray).size ≤ 1000 := by
  rw [Rw.ba_size]
  exact Rw.line_len r h.1
theorem Rb.flI_app : ∀ (rs : List Rw.Row) (ads : List (Option Addr × Nat)) (r : Rw.Row) (a : Option Addr × Nat), ads.length = rs.length →
    Rw.flI (rs ++ [r]) (ads ++ [a]) = Rw.flI rs ads ++ [.int .i64 r.1, .int .i64 r.2.1, .slice a.1 r.2.2.length a.2]
  | [], [], r, a, _ => rfl
  | [], _ :: _, _, _, h => by simp at h
  | q :: rs, [], r, a, h => by simp at h
  | q :: rs, b :: ads, r, a, h => by
    simp only [List.cons_append, Rw.flI]
    rw [Rb.flI_app rs ads r a (by simpa using h)]
def Rb.Maps (w : World) (rs : List Rw.Row) (ads : List (Option Addr × Nat)) : Prop := ∀ (i : Nat) (r : Rw.Row) (a : Option Addr × Nat), rs[i]? = some r → ads[i]? = some a → Slt w 3 a.1 (r.2.2.map (Value.int .i64))
theorem Rb.Maps.app {w : World} {rs : List Rw.Row} {ads : List (Option Addr × Nat)} (h : Rb.Maps w rs ads) (hl : ads.length = rs.length) {r : Rw.Row} {a : Option Addr × Nat} (hr : Slt w 3 a.1 (r.2.2.map (Value.int .i64))) : Rb.Maps w (rs ++ [r]) (ads ++ [a]) := by
  intro i q x hq hx
  rcases Nat.lt_or_ge i rs.length with hi | hi
  · rw [List.getElem?_append_left hi] at hq
    rw [List.getElem?_append_left (by omega)] at hx
    exact h i q x hq hx
  · rw [List.getElem?_append_right hi] at hq
    rw [List.getElem?_append_right (by omega)] at hx
    obtain ⟨j, hj⟩ : ∃ j, i - rs.length = j := ⟨_, rfl⟩
    rw [hl, hj] at hx
    rw [hj] at hq
    rcases j with _ | j
    · simp at hq hx
      subst hq hx
      exact hr
    · simp at hq
theorem Rb.Maps.below {w w' : World} {rs : List Rw.Row} {ads : List (Option Addr × Nat)} (h : Rb.Maps w rs ads) (hb : Below w.heap.size w w') : Rb.Maps w' rs ads := fun i r a h1 h2 => (h i r a h1 h2).below hb
theorem Rb.Maps.grown {w w' : World} {rs : List Rw.Row} {ads : List (Option Addr × Nat)} {row : Option Nat} (h : Rb.Maps w rs ads) (hg : w.grownBy w' row) (hr : ∀ k, row = some k → ∀ cs z, w.heap[k]? ≠ some (.cells cs 3 z)) : Rb.Maps w' rs ads :=
  fun i r a h1 h2 => (h i r a h1 h2).grown hg hr
/-- The rows gathered so far. -/
def Rb.All (w : World) (base : Nat) (v : Value) (R : List Rw.Row) : Prop := ∃ ads, ads.length = R.length ∧ w.ownsRow base 27 3 v R.length (Rw.flI R ads) ∧ Rb.Maps w R ads
theorem Rb.All.below {w w' : World} {base : Nat} {v : Value} {R : List Rw.Row} (h : Rb.All w base v R) (hb : Below w.heap.size w w') : Rb.All w' base v R := by
  obtain ⟨ads, h1, h2, h3⟩ := h
  exact ⟨ads, h1, own_below h2 hb (Nat.le_refl _), h3.below hb⟩
theorem Rw.keep3 {W w' : World} {B b1 b2 b3 o1 o2 o3 : Nat} {v1 v2 v3 : Value} (d1 : W.cell? ⟨b1, o1, none⟩ = some v1) (d2 : W.cell? ⟨b2, o2, none⟩ = some v2) (h1 : b1 < B) (h2 : b2 < B) (h : Below B W w') :
    w'.cell? ⟨b1, o1, none⟩ = some v1 ∧ w'.cell? ⟨b2, o2, none⟩ = some v2 ∧ Below B W w' := ⟨((bcell h).1 _ _ h1).trans d1, ((bcell h).1 _ _ h2).trans d2, h⟩

set_option maxRecDepth 100000 in
set_option maxHeartbeats 4000000 in
theorem Rb.back_row (W : World) (A0 : Option Addr) (len cap : Nat) (l : List Rw.Row) (hI : Rw.IsRows W A0 len cap l) (hL : Rw.Laid W) :
    Calls Tryz.prog 3 #[.slice A0 len cap] W fun e w' => e = .returned (.bool true) ∧ Below W.heap.size W w' := by
  obtain ⟨ads, hads, hlen, hlc, hcm, hS, hSm, hbd⟩ := hI
  have hinv := Rb.inv_take l
  have hfl := Rw.flI_len l ads hads
  obtain ⟨j0, hj0, hy0, hy1, hy2⟩ := info_parts Rb.infoRow
  obtain ⟨i0, hi, hi0, hi1, hi2⟩ := info_parts infoInt
  unfold maxLen at hcm
  have hmlen : ∀ r ∈ l, r.2.2.length ≤ 9223372036854775807 := fun r hr => by
    have := (hbd r hr).2.2.1
    unfold maxLen at this
    exact this
  go_enter Tryz.func3, Tryz.ntmps3
  go_wp2_with fail
  refine (Rp.awake_any _ hL).mono ?_
  rintro e w1 ⟨rfl, hb1⟩
  have HL1 := Lib.hid (hL.next hb1)
  have HS1 := Lib.hid (hS.below hb1 hb1.size)
  have HSM := Lib.hid (show ∀ (i : Nat) (r : Rw.Row) (a : Option Addr × Nat), l[i]? = some r → ads[i]? = some a → Sl w1 w1.heap.size a.1 (r.2.2.map (Value.int .i64)) from fun i r a h1 h2 => (hSm i r a h1 h2).below hb1 hb1.size)
  have HB1 := Lib.hid hb1
  have HLEN := Lib.hid hlen
  have HFL := Lib.hid hfl
  have HADS := Lib.hid hads
  have HINV := Lib.hid hinv
  have HML := Lib.hid hmlen
  clear hS hSm hb1 hL hlen hfl hads hinv hbd hmlen
  go_wp2_with fail
  go_loopw [3, 4, 5, 6, 7, 8, 9] (fun v3 v4 v5 v6 _ _ _ wr => ∃ k : Nat, k ≤ len ∧ k ≤ 30 ∧ v6 = .int .i64 k ∧ Rb.All wr w1.heap.size v3 (Rb.fold (l.take k)).1 ∧ v4 = .string ⟨(Rw.txt (Rb.fold (l.take k)).1).toArray⟩ ∧ v5 = .int .i64 (Rb.fold (l.take k)).2 ∧ Below w1.heap.size w1 wr)
    (fun _ _ _ v6 _ _ _ _ => 30 - (intOf v6).toNat)
  case atStart => exact ⟨0, Nat.zero_le _, Nat.zero_le _, rfl, ⟨[], rfl, World.ownsRow_nil _ _ _ _, fun i r a h => by simp [Rb.fold] at h⟩, rfl, rfl, Below.refl _ _⟩
  case round =>
    obtain ⟨k, hk, hk30, rfl, hall, rfl, rfl, hbel⟩ := hrel
    obtain ⟨wo, hwo⟩ : ∃ wo : World, wo = wr := ⟨_, rfl⟩
    subst hwo
    have hin := HINV.out k (by rw [HLEN.out]; exact hk)
    have hz1 : w1.heap.size ≤ wo.heap.size := hbel.size
    by_cases hgo : k < len ∧ k < 30
    · obtain ⟨hlt, hlt30⟩ := hgo
      obtain ⟨r, hr⟩ : ∃ r, l[k]? = some r := ⟨_, List.getElem?_eq_getElem (by rw [HLEN.out]; exact hlt)⟩
      obtain ⟨ad, had⟩ : ∃ a, ads[k]? = some a := ⟨_, List.getElem?_eq_getElem (by rw [HADS.out, HLEN.out]; exact hlt)⟩
      obtain ⟨g, o, rfl, hg, hc⟩ := HS1.out (by rw [HFL.out, HLEN.out]; omega)
      obtain ⟨q0, q1, q2⟩ := Rw.flI_get l ads k r ad hr had
      have hSM := HSM.out k r ad hr had
      have hc0 := hc (k * 3) (by rw [HFL.out, HLEN.out]; omega)
      have hc1 := hc (k * 3 + 1) (by rw [HFL.out, HLEN.out]; omega)
      have hc2 := hc (k * 3 + 2) (by rw [HFL.out, HLEN.out]; omega)
      rw [q0, ← (bcell hbel).1 _ _ hg] at hc0
      rw [q1, ← (bcell hbel).1 _ _ hg, ← Nat.add_assoc] at hc1
      rw [q2, ← (bcell hbel).1 _ _ hg, ← Nat.add_assoc] at hc2
      have hstep : Rb.fold (l.take (k + 1)) = Rb.next (Rb.fold (l.take k)) r := by
        rw [List.take_add_one, hr]; exact Rb.fold_snoc _ _
      obtain ⟨st, hst⟩ : ∃ st, Rb.fold (l.take k) = st := ⟨_, rfl⟩
      rw [hst] at hin hstep hall ⊢
      have hmx := HML.out r (List.mem_of_getElem? hr)
      obtain ⟨x, cl, mm⟩ := r
      obtain ⟨Am, cm⟩ := ad
      simp only at hc0 hc1 hc2 hSM hmx
      have e1 := Ch.and_8 cl
      have b1 : 0 ≤ cl % 256 := by omega
      have b2 : cl % 256 ≤ 255 := by omega
      have b3 : 0 ≤ cl % 256 % 255 := by omega
      have b4 : cl % 256 % 255 ≤ 254 := by omega
      have e2 : (cl % 256).tmod 255 = cl % 256 % 255 := by rw [Int.tmod_eq_emod_of_nonneg b1]
      have hCH := Ch.char_any x
      have hkk := (Ch.isC_iff _).1 (Ch.K_is x)
      obtain ⟨c, hcc⟩ : ∃ c, Ch.K x = c := ⟨_, rfl⟩
      rw [hcc] at hkk
      simp only [hcc] at hCH
      have hk1 : c ≤ 1114111 := hkk.2.1
      have hk0 : 0 ≤ c := hkk.1
      have hltI : (k : Int) < len := by omega
      have hlt30I : (k : Int) < 30 := by omega
      have hgr : g < wo.heap.size := Nat.lt_of_lt_of_le hg hbel.size
      obtain ⟨R, code⟩ := st
      have e3 : IntKind.i64.wrap c = c := by rw [IntKind.wrap_i64]; omega
      have hco0 : -1 ≤ code := hin.c0
      have hco1 : code ≤ 1114111 := hin.c1
      obtain ⟨nm, hnm⟩ : ∃ q, mm.length = q := ⟨_, rfl⟩
      rw [hnm] at hc2 hmx
      have HNM := Lib.hid hnm
      have HST := Lib.hid hstep
      have HIN := Lib.hid hin
      have HBEL := Lib.hid hbel
      have HCC := Lib.hid hcc
      have HSMM := Lib.hid (hSM.below hbel (Nat.le_refl _))
      have HALL := Lib.hid hall
      clear hr had hc q0 q1 q2 hstep hin hbel hkk hcc hst hSM hnm hall
      go_upto_region 9 with (fail)
      go_cut [7] (fun s7 wx => s7 = .pointer (some ⟨wo.heap.size, 0, none⟩) ∧ Rw.At wx wo.heap.size 27 [.int .i64 c, .int .i64 (Rb.cl cl), .slice none 0 0] ∧ Below wo.heap.size wo wx)
      case first =>
        have hxx : Below wo.heap.size wo wo := Below.refl _ _
        go_region_held3 (fun w' => w'.cell? ⟨g, o + k * 3, none⟩ = some (.int .i64 x) ∧ w'.cell? ⟨g, o + k * 3 + 1, none⟩ = some (.int .i64 cl) ∧ Below wo.heap.size wo w')
          (first
            | exact Rw.keep2 hc0 hc1 hgr hgr hxx
            | exact Rw.keep2 hc0 hc1 hgr hgr hxx.drew
            | exact Rw.keep2 hc0 hc1 hgr hgr (hxx.alloc (Nat.le_refl _) _)
            | exact Rw.keep2 hc0 hc1 hgr hgr (hxx.alloc (Nat.le_refl _) _).drew
            | fail)
          (first
            | (go_at_call 6; refine (hCH _).mono ?_; rintro e wq ⟨rfl, rfl⟩)
            | fail)
        all_goals
          go_wp2_with fail
          go_meet
          exact ⟨rfl, Rw.At.new wo 27 [.int .i64 c, .int .i64 (cl % 256 % 255), .slice none 0 0], (hxx.alloc (Nat.le_refl _) _).drew⟩
      case rest =>
        obtain ⟨rfl, hatA, hbA⟩ := hcut
        obtain ⟨wA, rfl⟩ : ∃ wA : World, wA = wc := ⟨_, rfl⟩
        obtain ⟨d, hd⟩ : ∃ d, Rb.cl cl = d := ⟨_, rfl⟩
        have hdb := Rb.cl_bd cl
        rw [hd] at hatA hdb
        obtain ⟨hd0, hd1⟩ := hdb
        have HD := Lib.hid hd
        have hzA : wo.heap.size < wA.heap.size := hatA.lt
        clear hd e1 e2 e3 b1 b2 b3 b4 hc0 hc1 hCH
        go_wp2_with fail
        go_loopw [8] (fun v8 wz => ∃ (t : Nat) (v : Value), t ≤ nm ∧ t ≤ 2 ∧ v8 = .int .i64 t ∧ Rw.At wz wo.heap.size 27 [.int .i64 c, .int .i64 d, v] ∧ wz.ownsRow (wo.heap.size + 1) 3 1 v t (((mm.take t).map Ch.K).map (Value.int .i64)) ∧ Below wo.heap.size wo wz)
          (fun v8 _ => 2 - (intOf v8).toNat)
        case atStart => exact ⟨0, .slice none 0 0, Nat.zero_le _, Nat.zero_le _, rfl, hatA, World.ownsRow_nil _ _ _ _, hbA⟩
        case round =>
          obtain ⟨t, v, htn, ht2, rfl, hat, hown, hbz⟩ := hrel
          obtain ⟨wz, hwz⟩ : ∃ wz : World, wz = wr := ⟨_, rfl⟩
          subst hwz
          have hzz : wo.heap.size < wz.heap.size := hat.lt
          have hc2z := ((bcell hbz).1 _ _ hgr).trans hc2
          obtain ⟨m1, m2, m3, m4, m5, m6⟩ := hat.three
          have hgz : g < wz.heap.size := by omega
          by_cases htg : t < nm ∧ t < 2
          · obtain ⟨ht, ht'⟩ := htg
            obtain ⟨y, hy⟩ : ∃ y, mm[t]? = some y := ⟨_, List.getElem?_eq_getElem (by rw [HNM.out]; exact ht)⟩
            obtain ⟨ga, oa, rfl, hga, hca⟩ := HSMM.out (by rw [List.length_map, HNM.out]; omega)
            have hcy := hca t (by rw [List.length_map, HNM.out]; exact ht)
            rw [List.getElem?_map, hy, Option.map_some, ← (bcell hbz).1 _ _ (show ga < wo.heap.size by omega)] at hcy
            have hCY := Ch.char_any y
            have hyb := (Ch.isC_iff _).1 (Ch.K_is y)
            have hnext : ((mm.take (t + 1)).map Ch.K).map (Value.int .i64) = ((mm.take t).map Ch.K).map (Value.int .i64) ++ [.int .i64 (Ch.K y)] := by
              rw [List.take_add_one, hy]; simp
            obtain ⟨cy, hcye⟩ : ∃ q, Ch.K y = q := ⟨_, rfl⟩
            rw [hcye] at hyb hnext
            simp only [hcye] at hCY
            have ey : IntKind.i64.wrap cy = cy := by rw [IntKind.wrap_i64]; omega
            have tI : (t : Int) < nm := by omega
            have tI2 : (t : Int) < 2 := by omega
            have t0 : (0 : Int) ≤ (t : Int) := by omega
            have hgaz : ga < wz.heap.size := by omega
            have hne := Rw.own_ne hown wo.heap.size (Nat.lt_succ_self _)
            have hownd := (hown.alloc (.cells #[.int .i64 cy] 3)).drew
            have hatd : Rw.At (wz.alloc (.cells #[.int .i64 cy] 3)).drew wo.heap.size 27 [.int .i64 c, .int .i64 d, v] := hat.alloc _
            have hcl := cell1 wz (.int .i64 cy) 3 wz.heap.size rfl
            have hbase : wo.heap.size + 1 ≤ (wz.alloc (.cells #[.int .i64 cy] 3)).drew.heap.size := by simp; omega
            have HOWN := Lib.hid hownd
            have HNX := Lib.hid hnext
            have HBZ := Lib.hid hbz
            have HNE := Lib.hid hne
            have HNG := Lib.hid (Rw.own_ne hown g (by omega))
            have HNGA := Lib.hid (Rw.own_ne hown ga (by omega))
            have bzd : Below wz.heap.size wz (wz.alloc (.cells #[.int .i64 cy] 3)).drew := ((Below.refl _ _).alloc (Nat.le_refl _) _).drew
            have HC2D := Lib.hid (((bcell bzd).1 _ _ hgz).trans hc2z)
            have HCYD := Lib.hid (((bcell bzd).1 _ _ hgaz).trans hcy)
            have HBZD := Lib.hid bzd
            clear bzd hy hca hyb hnext hcye hownd hbz hne hown
            go_wp2_with fail
            go_region_law
              (first
                | (refine step_quiet _ rfl 6 _ _ rfl (enters_of Tryz.func6 (by kernel_rfl) rfl) (.int .i64 y) rfl _ (hCY _) ?_)
                | (refine step_push1 _ rfl _ _ _ rfl (wo.heap.size + 1) 3 i0 _ 8 Tryz.underlying25 hi hi0 hi1 hi2 rfl v t _ rfl HOWN.out _ rfl wz.heap.size rfl hcl (by simp only [maxLen]; omega) (by omega) hbase ?_; intro v1 w4 hown4 hb4 hgrow; have hat4 := hatd.grown hgrow HNE.out; obtain ⟨z1, z2, z3, z4, z5, z6⟩ := hat4.three; obtain ⟨A6, c6, rfl⟩ := own_form hown4; have zg := (hgrow.cell_far (a := ⟨g, o + k * 3 + 2, none⟩) (by show g < _; simp; omega) (Ne.symm HNG.out)).trans HC2D.out; have zga := (hgrow.cell_far (a := ⟨ga, oa + t, none⟩) (by show ga < _; simp; omega) (Ne.symm HNGA.out)).trans HCYD.out)
                | fail)
            all_goals
              go_wp2_with fail
              exact ⟨⟨t + 1, _, by omega, by omega, by go_num, hat4.set 2 _, by rw [HNX.out]; exact Rw.own_grown hown4 (Nat.lt_succ_self _) (Rw.grown_set _ 2 _),
                ((HBZ.out.trans (HBZD.out.mono (Nat.le_of_lt hzz))).trans (hb4.mono (Nat.le_succ _))).setCell (p := ⟨wo.heap.size, 2, none⟩) (Nat.le_refl _) _⟩, by simp [intOf]; omega⟩
          · have hM : (mm.take t).map Ch.K = Rb.map mm := by
              unfold Rb.map
              by_cases h2 : t = 2
              · rw [h2]
              · rw [List.take_of_length_le (by rw [HNM.out]; omega), List.take_of_length_le (by rw [HNM.out]; omega)]
            have hMl : (Rb.map mm).length = t := by
              rw [← hM, List.length_map, List.length_take, HNM.out]
              omega
            rw [hM] at hown
            have hMb := Rb.map_bd mm
            have hfn : Rw.fine (c, d, Rb.map mm) := by
              have := Rb.fine_new x cl mm
              rw [HCC.out, HD.out] at this
              exact this
            have hstep := HST.out
            unfold Rb.next at hstep
            simp only [HCC.out, HD.out] at hstep
            obtain ⟨M, hMe⟩ : ∃ M, Rb.map mm = M := ⟨_, rfl⟩
            rw [hMe] at hown hMl hMb hfn hstep
            obtain ⟨sk, hsk⟩ : ∃ sk, Rb.skip c d M code = sk := ⟨_, rfl⟩
            rw [hsk] at hstep
            obtain ⟨A6, c6, rfl⟩ := own_form hown
            have hallz := HALL.out.below hbz
            have hlz := HL1.out.next (HBEL.out.trans (hbz.mono HBEL.out.size))
            have hsplit : (¬ (t : Int) < nm) ∨ ((t : Int) < nm ∧ ¬ (t : Int) < 2) := by omega
            have HSK := Lib.hid hsk
            have HSTEP := Lib.hid hstep
            have HFN := Lib.hid hfn
            have HMB := Lib.hid hMb
            have HML2 := Lib.hid hMl
            have HOWN := Lib.hid hown
            have HALLZ := Lib.hid hallz
            have HLZ := Lib.hid hlz
            have HBZ := Lib.hid (HBEL.out.trans (hbz.mono HBEL.out.size))
            clear hM hMe hMl hMb hfn hstep hsk hown hallz hlz hbz HNM HSMM hatA hc2 hbA
            rcases hsplit with hs1 | ⟨hs1, hs2⟩
            all_goals
              go_upto_region 14 with (fail)
              go_cut [82] (fun s wx => s = .bool sk ∧ wx = wz)
              case first =>
                have hsk := HSK.out
                unfold Rb.skip at hsk
                rw [HML2.out] at hsk
                by_cases q1 : c ≤ code
                · rw [decide_eq_true q1, Bool.true_or] at hsk
                  subst hsk
                  go_wp2_with fail
                  go_meet
                  exact ⟨rfl, rfl⟩
                · rw [decide_eq_false q1, Bool.false_or] at hsk
                  by_cases q2 : d = 0
                  · rw [decide_eq_true q2, Bool.true_and] at hsk
                    have q2' : (d == 0) = true := by simp [q2]
                    by_cases q3 : t = 0
                    · rw [decide_eq_true q3] at hsk
                      have q3' : ((t : Int) == 0) = true := by simp [q3]
                      subst hsk
                      clear q2 q3
                      go_wp2_with fail
                      go_meet
                      exact ⟨rfl, rfl⟩
                    · rw [decide_eq_false q3] at hsk
                      have q3' : ((t : Int) == 0) = false := by simp; omega
                      subst hsk
                      clear q2 q3
                      go_wp2_with fail
                      go_meet
                      exact ⟨rfl, rfl⟩
                  · rw [decide_eq_false q2, Bool.false_and] at hsk
                    have q2' : (d == 0) = false := by simp [q2]
                    subst hsk
                    go_wp2_with fail
                    go_meet
                    exact ⟨rfl, rfl⟩
              case rest =>
                obtain ⟨rfl, rfl⟩ := hcut
                obtain ⟨wz, rfl⟩ : ∃ wz : World, wz = wc := ⟨_, rfl⟩
                rcases sk with _ | _
                · have hres := HSTEP.out
                  rw [if_neg (by decide)] at hres
                  obtain ⟨adsR, haR, hownR, hmapR⟩ := HALLZ.out
                  have hltR : ∀ q, u3.ownBlock = some q → q < wo.heap.size := by
                    obtain ⟨_, _, h2, _⟩ := HALL.out
                    exact fun q hq => (h2.lt q hq).2
                  have nR : R.length ≤ k := HIN.out.n1
                  have hbz5 : Below wz.heap.size wz (wz.alloc (.cells #[.int .i64 c, .int .i64 d, .slice A6 t c6] 27)) := (Below.refl _ _).alloc (Nat.le_refl _) _
                  have hownR5 := hownR.alloc (.cells #[.int .i64 c, .int .i64 d, .slice A6 t c6] 27)
                  have hnew := Lib.hid (Sl.lit (w := wz.alloc (.cells #[.int .i64 c, .int .i64 d, .slice A6 t c6] 27)) (A := some ⟨wz.heap.size, 0, none⟩) (xs := [.int .i64 c, .int .i64 d, .slice A6 t c6]) rfl 27 (0, 0) (heap_alloc_new wz _))
                  have hat5' : Rw.At (wz.alloc (.cells #[.int .i64 c, .int .i64 d, .slice A6 t c6] 27)) wo.heap.size 27 [.int .i64 c, .int .i64 d, .slice A6 t c6] := hat.alloc _
                  have hbase : w1.heap.size ≤ (wz.alloc (.cells #[.int .i64 c, .int .i64 d, .slice A6 t c6] 27)).heap.size := by simp; omega
                  have HLTR := Lib.hid hltR
                  have HRES := Lib.hid hres
                  have HOWNR := Lib.hid hownR5
                  have HMAPR := Lib.hid hmapR
                  have HBZ5 := Lib.hid hbz5
                  clear hres hltR hownR hownR5 hmapR hbz5
                  go_wp2_with (first | (at_builtin; refine wpList_appendSl _ rfl _ _ _ rfl w1.heap.size 27 j0 _ 3 40 Tryz.underlying22 hj0 hy0 hy1 hy2 rfl (by omega) _ R.length _ rfl HOWNR.out _ (some ⟨wz.heap.size, 0, none⟩) 1 1 [.int .i64 c, .int .i64 d, .slice A6 t c6] rfl rfl hnew.out (by simp [Value.oneCell']) (by simp only [maxLen]; omega) (by omega) hbase ?_; intro v5 w5 hown5 hb5 hgrow5; have hat5 := hat5'.grown hgrow5 (fun hq => by have := HLTR.out _ hq; omega); obtain ⟨z1, z2, z3, z4, z5, z6⟩ := hat5.three) | fail)
                  have hS6 := ((Slt.of_own HOWN.out).below HBZ5.out).grown hgrow5 (Rw.own_not HOWNR.out (by decide))
                  have hM6 := (HMAPR.out.below HBZ5.out).grown hgrow5 (Rw.own_not HOWNR.out (by decide))
                  have hB5 : Below w1.heap.size w1 w5 := HBZ.out.trans ((HBZ5.out.mono (by omega)).trans hb5)
                  have hall5 : Rb.All w5 w1.heap.size v5 (R ++ [(c, d, M)]) := by
                    refine ⟨adsR ++ [(A6, c6)], by simp [haR], ?_, hM6.app haR hS6⟩
                    rw [Rb.flI_app R adsR (c, d, M) (A6, c6) haR, List.length_append]
                    show w5.ownsRow _ _ _ _ (R.length + 1) (Rw.flI R adsR ++ [.int .i64 c, .int .i64 d, .slice A6 M.length c6])
                    rw [HML2.out]
                    exact hown5
                  have hl5 := HL1.out.next hB5
                  have hMb32 : ∀ x ∈ M, -2147483648 ≤ x ∧ x ≤ 2147483647 := fun x hx => by have := HMB.out x hx; omega
                  have hOwn := Rw.own_any c d A6 M t c6 w5.heap.size w5 (by omega) (by omega) HML2.out (by omega) hMb32 (Nat.le_refl _) hS6.sl
                  have HS6 := Lib.hid hS6
                  have HB5 := Lib.hid hB5
                  have HALL5 := Lib.hid hall5
                  have HL5 := Lib.hid hl5
                  have hz5 : w1.heap.size ≤ w5.heap.size := hB5.size
                  clear hS6 hM6 hB5 hall5 hl5 hMb32 hown5 hb5 hgrow5 m1 m2 m3 m4 m5 m6
                  refine hOwn.mono ?_
                  rintro e w6 ⟨A7, n7, c7, rfl, hn7, hS7, hb6⟩
                  have hn7t : n7 = t := by rw [← hn7]; exact HML2.out
                  have hl6 := HL5.out.next hb6
                  have hPL := Rw.pline_any c d A7 M n7 c7 w6.heap.size w6 hk0 hk1 hd0 hd1 hn7 (by omega) (fun x hx => HMB.out x hx) (Nat.le_refl _) hS7.sl hl6
                  have hz6 : w5.heap.size ≤ w6.heap.size := hb6.size
                  have hat6 := hat5.below hb6
                  have HS6b := Lib.hid (HS6.out.below hb6)
                  have HB6 := Lib.hid (HB5.out.trans (hb6.mono hz5))
                  have HALL6 := Lib.hid (HALL5.out.below hb6)
                  obtain ⟨y1, hy1⟩ : ∃ y : ByteArray, ⟨(Rw.line (c, d, M)).toArray⟩ = y := ⟨_, rfl⟩
                  rw [hy1] at hPL
                  have HY1 := Lib.hid hy1
                  clear hn7 hn7t hS7 hb6 hl6 hOwn hy1
                  go_wp2_with fail
                  refine hPL.mono ?_
                  rintro e w7 ⟨rfl, hb7⟩
                  have hat7 := hat6.below hb7
                  have hS7 := HS6b.out.below hb7
                  have hRL := Rw.rline_any c d A6 M t c6 w7.heap.size w7 hk0 (by omega) hd0 (by omega) HML2.out (by omega) (fun x hx => by have := HMB.out x hx; omega) (Nat.le_refl _) hS7.sl
                  rw [HY1.out] at hRL
                  have hz7 : w6.heap.size ≤ w7.heap.size := hb7.size
                  have HB7 := Lib.hid (HB6.out.trans (hb7.mono (by omega)))
                  have HALL7 := Lib.hid (HALL6.out.below hb7)
                  obtain ⟨p1, p2, p3, _, _, _⟩ := hat7.three
                  clear z1 z2 z3 z4 z5 z6 hat5 hat6 hb7 hPL hS7
                  go_wp2_with fail
                  refine hRL.mono ?_
                  rintro e w8 ⟨rfl, hb8⟩
                  have HB8 := Lib.hid (HB7.out.trans (hb8.mono (by omega)))
                  have HALL8 := Lib.hid (HALL7.out.below hb8)
                  clear hb8 hRL p1 p2 p3
                  have sR := Rb.txt_size R HIN.out.f1
                  have s1 := Rb.line_size _ HFN.out
                  rw [HY1.out] at s1
                  have w1' : (⟨(Rw.txt R).toArray⟩ ++ (y1 ++ ⟨#[10]⟩) : ByteArray) = ⟨(Rw.txt (R ++ [(c, d, M)])).toArray⟩ := by
                    rw [Rw.txt_app, Rw.txt_one, ← HY1.out, show (⟨#[10]⟩ : ByteArray) = ⟨[10].toArray⟩ from rfl]
                    simp only [Fi.ba_app]
                  obtain ⟨tR, htR⟩ : ∃ y : ByteArray, ⟨(Rw.txt R).toArray⟩ = y := ⟨_, rfl⟩
                  rw [htR] at sR w1' ⊢
                  have z10 : (⟨#[10]⟩ : ByteArray).size = 1 := rfl
                  have k1 : ¬ 9223372036854775807 < y1.size + (⟨#[10]⟩ : ByteArray).size := by omega
                  have k3 : ¬ 9223372036854775807 < tR.size + (y1 ++ ⟨#[10]⟩).size := by rw [ByteArray.size_append]; omega
                  have HW1 := Lib.hid w1'
                  clear sR s1 htR w1' z10
                  go_wp2_with fail
                  exact ⟨⟨k + 1, by omega, by omega, by go_num, by rw [HRES.out]; exact HALL8.out, by rw [HRES.out, ← HW1.out], by rw [HRES.out], HB8.out⟩, by simp [intOf]; omega⟩
                · have hres := HSTEP.out
                  rw [if_pos rfl] at hres
                  have HRES := Lib.hid hres
                  clear hres
                  go_wp2_with fail
                  exact ⟨⟨k + 1, by omega, by omega, by go_num, by rw [HRES.out]; exact HALLZ.out, by rw [HRES.out], by rw [HRES.out], HBZ.out⟩, by simp [intOf]; omega⟩
    · obtain ⟨st, hst⟩ : ∃ st, Rb.fold (l.take k) = st := ⟨_, rfl⟩
      rw [hst] at hin hall ⊢
      have hp := Rb.parse hin (by omega)
      obtain ⟨R, code⟩ := st
      simp only at hp hall ⊢
      have sR := Rb.txt_size R hin.f1
      have nR : R.length ≤ k := hin.n1
      have hP := Rw.parse_any ⟨(Rw.txt R).toArray⟩ (by omega) R hp
      have hfine : ∀ r ∈ R, (-2147483648 ≤ r.1 ∧ r.1 ≤ 2147483647) ∧ r.2.2.length ≤ 1000000 ∧ ∀ x ∈ r.2.2, -2147483648 ≤ x ∧ x ≤ 2147483647 := by
        intro r hr
        obtain ⟨⟨a0, a1, _, _, a4, a5⟩, _⟩ := hin.f1 r hr
        exact ⟨⟨by omega, by omega⟩, by omega, fun x hx => by have := a5 x hx; omega⟩
      obtain ⟨tR, htR⟩ : ∃ y : ByteArray, ⟨(Rw.txt R).toArray⟩ = y := ⟨_, rfl⟩
      rw [htR] at hP ⊢
      have hLr := HL1.out.next hbel
      obtain ⟨adsR, haR, hownR, hmapR⟩ := hall
      obtain ⟨A3, c3, rfl⟩ := own_form hownR
      have hsee : Rw.SeesI wo A3 R := ⟨adsR, haR, Sl.of_own hownR, fun i r a h1 h2 => (hmapR i r a h1 h2).sl⟩
      have HSEE := Lib.hid hsee
      have HBR := Lib.hid (HB1.out.trans (hbel.mono HB1.out.size))
      have HLr := Lib.hid hLr
      have HF := Lib.hid hfine
      have hR60 : R.length ≤ 60 := by omega
      have hsplit : (¬ (k : Int) < len ∧ (k : Int) < 31) ∨ ((k : Int) < len ∧ ¬ (k : Int) < 30) := by omega
      clear hst hin sR hp htR hbel hLr nR hownR hmapR haR hsee hfine
      rcases hsplit with ⟨hs1, hs2⟩ | ⟨hs1, hs2⟩
      all_goals
        go_wp2_with fail
        refine (hP _ HLr.out).mono ?_
        rintro e w2 ⟨A1, c1, rfl, hT1, hb2⟩
        have hSm := Rw.same_any A1 A3 R.length c1 c3 R w2 rfl (by omega) HF.out hT1.sees (HSEE.out.below hb2)
        have HB2 := Lib.hid (HBR.out.trans (hb2.mono HBR.out.size))
        clear hb2 hT1 hP
        go_wp2_with fail
        refine hSm.mono ?_
        rintro e w3 ⟨rfl, hb3⟩
        have HB3 := Lib.hid (HB2.out.trans (hb3.mono HB2.out.size))
        clear hb3 hSm
        go_wp2_with fail
        go_ret
        exact ⟨rfl, HB3.out⟩
end Go.Proofs.YtppmcnpjglackaaGreatDoor
