/- The law RowsPlain, by walking its text. -/
import Derived.Test.YtppmcnpjglackaaDoorRpAwake
import Derived.Test.YtppmcnpjglackaaDoorRwOpen
import Derived.Test.YtppmcnpjglackaaDoorRwRLine
import Derived.Deep.RegionWith
namespace Go.Proofs.YtppmcnpjglackaaDoor
open Go.RowKit
set_option linter.unusedSimpArgs false
set_option linter.unusedVariables false

theorem Rw.txt_size (l : List Rw.Row) (h : ∀ r ∈ l, Rw.fine r) : (⟨(Rw.txt l).toArray⟩ : ByteArray).size ≤ 1001 * l.length := by
  rw [Rw.ba_size]
  exact Rw.txt_len l fun r hr => (h r hr).1
theorem Rw.line_size (r : Rw.Row) (h : Rw.fine r) : (⟨(Rw.line r).toArray⟩ : ByteArray).size ≤ 1000 := by
  rw [Rw.ba_size]
  exact Rw.line_len r h.1

set_option maxRecDepth 100000 in
set_option maxHeartbeats 4000000 in
theorem Rp.plain_row (W : World) (A0 : Option Addr) (len cap : Nat) (l : List Rw.Row) (hI : Rw.IsRows W A0 len cap l) (hL : Rw.Laid W) :
    Calls Tryd.prog 3 #[.slice A0 len cap] W fun e w' => e = .returned (.bool true) ∧ Below W.heap.size W w' := by
  obtain ⟨ads, hads, hlen, hlc, hcm, hS, _, hbd⟩ := hI
  have hinv := Rp.inv_take l
  have hfl := Rw.flI_len l ads hads
  unfold maxLen at hcm
  go_enter Tryd.func3, Tryd.ntmps3
  go_wp2_with fail
  refine (Rp.awake_any _ hL).mono ?_
  rintro e w1 ⟨rfl, hb1⟩
  have HL1 := Lib.hid (hL.next hb1)
  have HS1 := Lib.hid (hS.below hb1 hb1.size)
  have HB1 := Lib.hid hb1
  have HLEN := Lib.hid hlen
  have HFL := Lib.hid hfl
  have HADS := Lib.hid hads
  have HINV := Lib.hid hinv
  clear hS hb1 hL hlen hfl hads hinv hbd
  go_wp2_with fail
  go_loopw [3, 4, 5, 6, 7] (fun v3 v4 v5 v6 _ wr => ∃ k : Nat, k ≤ len ∧ k ≤ 20 ∧ v6 = .int .i64 k ∧ v3 = .string ⟨(Rw.txt (Rp.fold (l.take k)).1).toArray⟩ ∧ v4 = .string ⟨(Rw.txt (Rp.fold (l.take k)).2.1).toArray⟩ ∧ v5 = .int .i64 (Rp.fold (l.take k)).2.2 ∧ Below w1.heap.size w1 wr)
    (fun _ _ _ v6 _ _ => 20 - (intOf v6).toNat)
  case atStart => exact ⟨0, Nat.zero_le _, Nat.zero_le _, rfl, rfl, rfl, rfl, Below.refl _ _⟩
  case round =>
    obtain ⟨k, hk, hk20, rfl, rfl, rfl, rfl, hbel⟩ := hrel
    have hin := HINV.out k (by rw [HLEN.out]; exact hk)
    by_cases hgo : k < len ∧ k < 20
    · obtain ⟨hlt, hlt20⟩ := hgo
      obtain ⟨r, hr⟩ : ∃ r, l[k]? = some r := ⟨_, List.getElem?_eq_getElem (by rw [HLEN.out]; exact hlt)⟩
      obtain ⟨ad, had⟩ : ∃ a, ads[k]? = some a := ⟨_, List.getElem?_eq_getElem (by rw [HADS.out, HLEN.out]; exact hlt)⟩
      obtain ⟨g, o, rfl, hg, hc⟩ := HS1.out (by rw [HFL.out, HLEN.out]; omega)
      obtain ⟨q0, q1, q2⟩ := Rw.flI_get l ads k r ad hr had
      have hc0 := hc (k * 3) (by rw [HFL.out, HLEN.out]; omega)
      have hc1 := hc (k * 3 + 1) (by rw [HFL.out, HLEN.out]; omega)
      rw [q0, ← (bcell hbel).1 _ _ hg] at hc0
      rw [q1, ← (bcell hbel).1 _ _ hg, ← Nat.add_assoc] at hc1
      have hstep : Rp.fold (l.take (k + 1)) = Rp.next (Rp.fold (l.take k)) r := by
        rw [List.take_add_one, hr]; exact Rp.fold_snoc _ _
      obtain ⟨st, hst⟩ : ∃ st, Rp.fold (l.take k) = st := ⟨_, rfl⟩
      rw [hst] at hin hstep ⊢
      obtain ⟨x, cl, mm⟩ := r
      simp only at hc0 hc1
      have e1 := Ch.and_8 cl
      have b1 : 0 ≤ cl % 256 := by omega
      have b2 : cl % 256 ≤ 255 := by omega
      have b3 : 0 ≤ cl % 256 % 254 := by omega
      have b4 : cl % 256 % 254 ≤ 253 := by omega
      have e2 : (cl % 256).tmod 254 = cl % 256 % 254 := by rw [Int.tmod_eq_emod_of_nonneg b1]
      have e4 : IntKind.i64.wrap (1 + cl % 256 % 254) = 1 + cl % 256 % 254 := by rw [IntKind.wrap_i64]; omega
      have hCH := Ch.char_any x
      have hkk := (Ch.isC_iff _).1 (Ch.K_is x)
      obtain ⟨c, hcc⟩ : ∃ c, Ch.K x = c := ⟨_, rfl⟩
      rw [hcc] at hkk
      simp only [hcc] at hCH
      have hk1 : c ≤ 1114111 := hkk.2.1
      have hk0 : 0 ≤ c := hkk.1
      have hltI : (k : Int) < len := by omega
      have hlt20I : (k : Int) < 20 := by omega
      have hgr : g < wr.heap.size := Nat.lt_of_lt_of_le hg hbel.size
      obtain ⟨R, M, code⟩ := st
      have e3 : IntKind.i64.wrap c = c := by rw [IntKind.wrap_i64]; omega
      have hco0 : -1 ≤ code := hin.c0
      have hco1 : code ≤ 1114111 := hin.c1
      have HST := Lib.hid hstep
      have HIN := Lib.hid hin
      have HBEL := Lib.hid hbel
      have HCC := Lib.hid hcc
      clear hr had hc q0 q1 q2 hstep hin hbel hkk hcc hst
      go_wp2_with fail
      have hxx : Below wr.heap.size wr wr := Below.refl _ _
      go_region_held3 (fun w' => w'.cell? ⟨g, o + k * 3, none⟩ = some (.int .i64 x) ∧ w'.cell? ⟨g, o + k * 3 + 1, none⟩ = some (.int .i64 cl) ∧ Below wr.heap.size wr w')
        (first
          | exact Rw.keep2 hc0 hc1 hgr hgr hxx
          | exact Rw.keep2 hc0 hc1 hgr hgr hxx.drew
          | exact Rw.keep2 hc0 hc1 hgr hgr (hxx.alloc (Nat.le_refl _) _)
          | exact Rw.keep2 hc0 hc1 hgr hgr (hxx.alloc (Nat.le_refl _) _).drew
          | fail)
        (first
          | (go_at_call 6; refine (hCH _).mono ?_; rintro e wq ⟨rfl, rfl⟩)
          | fail)
      all_goals
        clear hc0 hc1 hgr hxx e3
        obtain ⟨d, hd⟩ : ∃ d, 1 + cl % 256 % 254 = d := ⟨_, rfl⟩
        have hd0 : 0 ≤ d := by omega
        have hd1 : d < 1000000000 := by omega
        rw [hd] at e4
        simp only [hd]
        have HD := Lib.hid hd
        clear e1 e2 e4 b1 b2 b3 b4 hd
        obtain ⟨wA, hwA⟩ : ∃ wA, (wr.alloc (.cells #[.int .i64 c, .int .i64 d, .slice none 0 0] 27)).drew = wA := ⟨_, rfl⟩
        have hbA : Below wr.heap.size wr wA := by rw [← hwA]; exact ((Below.refl _ _).alloc (Nat.le_refl _) _).drew
        have hatA : Rw.At wA wr.heap.size 27 [.int .i64 c, .int .i64 d, .slice none 0 0] := by rw [← hwA]; exact Rw.At.new wr 27 [.int .i64 c, .int .i64 d, .slice none 0 0]
        rw [hwA]
        obtain ⟨m1, m2, m3, m4, m5, m6⟩ := hatA.three
        clear hwA m4 m5 m6
        by_cases hq : c ≤ code + 1
        · have hres : Rp.fold (l.take (k + 1)) = (R, M, code) := by
            rw [HST.out]
            unfold Rp.next
            rw [if_pos (by rw [HCC.out]; exact hq)]
          have HRES := Lib.hid hres
          have HBA := Lib.hid hbA
          clear hres hbA hatA
          go_wp2_with fail
          exact ⟨⟨k + 1, by omega, by omega, by go_num, by rw [HRES.out], by rw [HRES.out], by rw [HRES.out], HBEL.out.trans (HBA.out.mono HBEL.out.size)⟩, by simp [intOf]; omega⟩
        · have hfq := Rp.fine_quiet code hco0 (by omega)
          have hfn : Rw.fine (c, d, []) := by
            have := Rp.fine_new x cl
            unfold Rp.cl at this
            rw [HD.out, HCC.out] at this
            exact this
          have hl0 := Rw.rline_any (code + 1) 0 none [] 0 0 0
          have hl1 := Rw.rline_any c d none [] 0 0 0
          have sR := Rw.txt_size R HIN.out.f1
          have sM := Rw.txt_size M HIN.out.f2
          have s0 := Rw.line_size _ hfq
          have s1 := Rw.line_size _ hfn
          have nR : R.length ≤ k := HIN.out.n1
          have nM : M.length ≤ 2 * k := HIN.out.n2
          have hres : Rp.fold (l.take (k + 1)) = (R ++ [(c, d, [])], M ++ [(code + 1, 0, []), (c, d, [])], c) := by
            rw [HST.out]
            unfold Rp.next Rp.cl
            rw [if_neg (by rw [HCC.out]; exact hq), HCC.out, HD.out]
          have w1 : (⟨(Rw.txt R).toArray⟩ ++ (⟨(Rw.line (c, d, [])).toArray⟩ ++ ⟨#[10]⟩) : ByteArray) = ⟨(Rw.txt (R ++ [(c, d, [])])).toArray⟩ := by
            rw [Rw.txt_app, Rw.txt_one, show (⟨#[10]⟩ : ByteArray) = ⟨[10].toArray⟩ from rfl]
            simp only [Fi.ba_app]
          have w2 : (⟨(Rw.txt M).toArray⟩ ++ (⟨(Rw.line (code + 1, 0, [])).toArray⟩ ++ ⟨#[10]⟩) ++ (⟨(Rw.line (c, d, [])).toArray⟩ ++ ⟨#[10]⟩) : ByteArray) = ⟨(Rw.txt (M ++ [(code + 1, 0, []), (c, d, [])])).toArray⟩ := by
            rw [show M ++ [(code + 1, 0, []), (c, d, [])] = M ++ [(code + 1, 0, [])] ++ [(c, d, [])] by simp, Rw.txt_app, Rw.txt_app, Rw.txt_one, Rw.txt_one, show (⟨#[10]⟩ : ByteArray) = ⟨[10].toArray⟩ from rfl]
            simp only [Fi.ba_app]
          obtain ⟨tR, htR⟩ : ∃ y : ByteArray, ⟨(Rw.txt R).toArray⟩ = y := ⟨_, rfl⟩
          obtain ⟨tM, htM⟩ : ∃ y : ByteArray, ⟨(Rw.txt M).toArray⟩ = y := ⟨_, rfl⟩
          obtain ⟨y0, hy0⟩ : ∃ y : ByteArray, ⟨(Rw.line (code + 1, 0, [])).toArray⟩ = y := ⟨_, rfl⟩
          obtain ⟨y1, hy1⟩ : ∃ y : ByteArray, ⟨(Rw.line (c, d, [])).toArray⟩ = y := ⟨_, rfl⟩
          rw [htR] at sR w1 ⊢
          rw [htM] at sM w2 ⊢
          rw [hy0] at s0 w2
          rw [hy1] at s1 w1 w2
          have z10 : (⟨#[10]⟩ : ByteArray).size = 1 := rfl
          have k0 : ¬ 9223372036854775807 < y0.size + (⟨#[10]⟩ : ByteArray).size := by omega
          have k1 : ¬ 9223372036854775807 < y1.size + (⟨#[10]⟩ : ByteArray).size := by omega
          have k2 : ¬ 9223372036854775807 < tM.size + (y0 ++ ⟨#[10]⟩).size := by rw [ByteArray.size_append]; omega
          have k3 : ¬ 9223372036854775807 < tR.size + (y1 ++ ⟨#[10]⟩).size := by rw [ByteArray.size_append]; omega
          have k4 : ¬ 9223372036854775807 < (tM ++ (y0 ++ ⟨#[10]⟩)).size + (y1 ++ ⟨#[10]⟩).size := by rw [ByteArray.size_append, ByteArray.size_append, ByteArray.size_append]; omega
          have hL0 : ∀ W : World, Calls Tryd.prog 7 #[.agg #[.int .i64 (code + 1), .int .i64 0, .slice none 0 0]] W fun e w' => e = .returned (.string y0) ∧ Below W.heap.size W w' := fun W => by
            rw [← hy0]; exact hl0 W (by omega) (by omega) (by omega) (by omega) rfl (by omega) (by simp) (Nat.zero_le _) (Sl.nil _ _ _)
          have hL1 : ∀ W : World, Calls Tryd.prog 7 #[.agg #[.int .i64 c, .int .i64 d, .slice none 0 0]] W fun e w' => e = .returned (.string y1) ∧ Below W.heap.size W w' := fun W => by
            rw [← hy1]; exact hl1 W (by omega) (by omega) (by omega) (by omega) rfl (by omega) (by simp) (Nat.zero_le _) (Sl.nil _ _ _)
          have HRES := Lib.hid hres
          have HW1 := Lib.hid w1
          have HW2 := Lib.hid w2
          have hbw : wr.heap.size < wA.heap.size := hatA.lt
          clear hres w1 w2 htR htM hy0 hy1 hl0 hl1 hfq hfn sR sM s0 s1 nR nM z10
          go_wp2_with fail
          refine (hL0 _).mono ?_
          rintro e wB ⟨rfl, hbB⟩
          have hatB := hatA.below hbB
          obtain ⟨n1, n2, n3, _, _, _⟩ := hatB.three
          have HBB := Lib.hid (hbA.trans (hbB.mono (Nat.le_of_lt hbw)))
          clear hbB m1 m2 m3
          go_wp2_with fail
          refine (hL1 _).mono ?_
          rintro e wC ⟨rfl, hbC⟩
          have hatC := hatB.below hbC
          obtain ⟨p1, p2, p3, _, _, _⟩ := hatC.three
          have HBC := Lib.hid (HBB.out.trans (hbC.mono HBB.out.size))
          clear hbC n1 n2 n3
          go_wp2_with fail
          refine (hL1 _).mono ?_
          rintro e wD ⟨rfl, hbD⟩
          have HBD := Lib.hid (HBC.out.trans (hbD.mono HBC.out.size))
          clear hbD p1 p2 p3
          go_wp2_with fail
          exact ⟨⟨k + 1, by omega, by omega, by go_num, by rw [HRES.out, ← HW1.out], by rw [HRES.out, ← HW2.out], by rw [HRES.out], HBEL.out.trans (HBD.out.mono HBEL.out.size)⟩, by simp [intOf]; omega⟩
    · obtain ⟨st, hst⟩ : ∃ st, Rp.fold (l.take k) = st := ⟨_, rfl⟩
      rw [hst] at hin ⊢
      obtain ⟨R, M, code⟩ := st
      simp only
      have sR := Rw.txt_size R hin.f1
      have sM := Rw.txt_size M hin.f2
      have nR : R.length ≤ k := hin.n1
      have nM : M.length ≤ 2 * k := hin.n2
      have p1 : Rw.parse (⟨(Rw.txt R).toArray⟩ : ByteArray).data.toList = some R := by
        show Rw.parse (Rw.txt R) = some R
        rw [Rw.parse_txt R hin.f1 hin.r1 (by omega)]
        exact congrArg some hin.g1
      have p2 : Rw.parse (⟨(Rw.txt M).toArray⟩ : ByteArray).data.toList = some R := by
        show Rw.parse (Rw.txt M) = some R
        rw [Rw.parse_txt M hin.f2 hin.r2 (by omega)]
        exact congrArg some hin.g2
      have hP1 := Rw.parse_any ⟨(Rw.txt R).toArray⟩ (by omega) R p1
      have hP2 := Rw.parse_any ⟨(Rw.txt M).toArray⟩ (by omega) R p2
      obtain ⟨tR, htR⟩ : ∃ y : ByteArray, ⟨(Rw.txt R).toArray⟩ = y := ⟨_, rfl⟩
      obtain ⟨tM, htM⟩ : ∃ y : ByteArray, ⟨(Rw.txt M).toArray⟩ = y := ⟨_, rfl⟩
      rw [htR] at hP1 ⊢
      rw [htM] at hP2 ⊢
      have hLr := HL1.out.next hbel
      have HBR := Lib.hid (HB1.out.trans (hbel.mono HB1.out.size))
      have HLr := Lib.hid hLr
      have hR60 : R.length ≤ 60 := by omega
      have hsplit : (¬ (k : Int) < len ∧ (k : Int) < 21) ∨ ((k : Int) < len ∧ ¬ (k : Int) < 20) := by omega
      clear hst hin sR sM nM p1 p2 htR htM hbel hLr nR
      rcases hsplit with ⟨hs1, hs2⟩ | ⟨hs1, hs2⟩
      all_goals
        go_wp2_with fail
        refine (hP1 _ HLr.out).mono ?_
        rintro e w2 ⟨A1, c1, rfl, hT1, hb2⟩
        have hL2 := HLr.out.next hb2
        have HB2 := Lib.hid (HBR.out.trans (hb2.mono HBR.out.size))
        clear hb2
        go_wp2_with fail
        refine (hP2 _ hL2).mono ?_
        rintro e w3 ⟨A2, c2, rfl, hT2, hb3⟩
        have HT1 := Lib.hid (hT1.below hb3)
        have HT2 := Lib.hid hT2
        have HB3 := Lib.hid (HB2.out.trans (hb3.mono HB2.out.size))
        obtain ⟨n, hn⟩ : ∃ n, R.length = n := ⟨_, rfl⟩
        rw [hn] at hR60 ⊢
        have HN := Lib.hid hn
        clear hb3 hT1 hT2 hL2 hn hP1 hP2
        go_wp2_with fail
        go_loopw [12, 90] (fun _ vi wz => ∃ j : Nat, j ≤ n ∧ vi = .int .i64 j ∧ Below w3.heap.size w3 wz) (fun _ vi _ => n - (intOf vi).toNat)
        case atStart => exact ⟨0, Nat.zero_le _, rfl, Below.refl _ _⟩
        case round =>
          obtain ⟨j, hj, rfl, hbz⟩ := hrel
          obtain ⟨wz, hwz⟩ : ∃ wz : World, wz = wr := ⟨_, rfl⟩
          subst hwz
          by_cases hlt : j < n
          · obtain ⟨r, hr⟩ : ∃ r, R[j]? = some r := ⟨_, List.getElem?_eq_getElem (by rw [HN.out]; exact hlt)⟩
            obtain ⟨g1, o1, a1, rfl, gl1, x1, x2, x3, _⟩ := (HT1.out.below hbz).row hr
            obtain ⟨g2, o2, a2, rfl, gl2, y1, y2, y3, _⟩ := (HT2.out.below hbz).row hr
            have jI : (j : Int) < n := by omega
            have j0 : (0 : Int) ≤ (j : Int) := by omega
            have HBZ := Lib.hid hbz
            clear hbz hr
            go_wp2_with fail
            go_quiet (fail)
            go_wp2_with fail
            exact ⟨⟨j + 1, by omega, by go_num, below_drewN HBZ.out _⟩, by simp [intOf]; omega⟩
          · obtain rfl : j = n := by omega
            have jI : ¬ (j : Int) < j := by omega
            have HF := Lib.hid (HB3.out.trans (hbz.mono HB3.out.size))
            clear hbz
            go_wp2_with fail
            go_ret
            exact ⟨rfl, HF.out⟩
end Go.Proofs.YtppmcnpjglackaaDoor
