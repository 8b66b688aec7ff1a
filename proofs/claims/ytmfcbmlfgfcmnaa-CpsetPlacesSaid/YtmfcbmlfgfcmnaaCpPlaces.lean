/- The law CpsetPlaces, by walking its text. -/
import Derived.Test.YtmfcbmlfgfcmnaaCpSet
import Derived.Test.YtmfcbmlfgfcmnaaCpFind
import Derived.Deep.DeepCutAuto
import Derived.Test.YtmfcbmlfgfcmnaaPairs
namespace Go.Proofs.Ytmfcbmlfgfcmnaa
open Go.RowKit
set_option linter.unusedSimpArgs false
set_option linter.unusedVariables false

theorem C.idx_mono : ∀ (l : List Int), C.srt l → ∀ (x y : Int), x ≤ y → C.idx l x ≤ C.idx l y
  | [], _, _, _, _ => Int.le_refl _
  | [a], _, _, _, _ => Int.le_refl _
  | a :: b :: t, hs, x, y, h => by
    have := C.idx_mono t (C.srt_tail (C.srt_tail hs)) x y h
    have hab := C.srt_head hs b (by simp)
    show (if a < x then min x b - a else 0) + C.idx t x ≤ (if a < y then min y b - a else 0) + C.idx t y
    split <;> split <;> omega
theorem C.idx_lt {l : List Int} (h : C.ok l) {x y : Int} (hm : C.mem l x = true) (hxy : x < y) : C.idx l x + 1 ≤ C.idx l y := by
  have h1 := C.idx_step l h.1 h.2.2 x
  rw [hm] at h1
  have h2 := C.idx_mono l h.1 (x + 1) y (by omega)
  simp at h1
  omega
theorem C.idx_bd {l : List Int} (h : C.ok l) (x : Int) : 0 ≤ C.idx l x ∧ C.idx l x ≤ C.count l := by
  constructor
  · rcases Int.lt_or_le x 0 with hx | hx
    · rw [C.idx_low l x (fun z hz => by have := h.2.1 z hz; omega)]; omega
    · have := C.idx_mono l h.1 0 x hx
      rw [C.idx_low l 0 (fun z hz => (h.2.1 z hz).1)] at this
      exact this
  · rcases Int.lt_or_le x 1114112 with hx | hx
    · have := C.idx_mono l h.1 x 1114112 (by omega)
      rw [C.idx_count l 1114112 h.1 (fun z hz => (h.2.1 z hz).2)] at this
      exact this
    · rw [C.idx_count l x h.1 (fun z hz => by have := h.2.1 z hz; omega)]; omega
theorem C.at_in {l : List Int} (h : C.ok l) {i : Int} (h0 : 0 ≤ i) (h1 : i < C.count l) : ∃ d, C.at l i = (d, true) ∧ C.mem l d = true ∧ C.idx l d = i ∧ 0 ≤ d ∧ d ≤ 1114111 := by
  obtain ⟨a1, a2, a3, ⟨z, hz, hz'⟩, ⟨z2, hz2, hz2'⟩⟩ := C.atK_yes l i h.1 h.2.2 h0 h1
  have := h.2.1 z hz
  have := h.2.1 z2 hz2
  refine ⟨(C.atK l i).1, ?_, a2, a3, by omega, by omega⟩
  rw [C.at_pos l (by omega), ← a1]
theorem C.at_out {l : List Int} (h : C.ok l) {i : Int} (h1 : ¬ (0 ≤ i ∧ i < C.count l)) : C.at l i = (0, false) := by
  rcases Int.lt_or_le i 0 with h0 | h0
  · exact C.at_neg l h0
  · rw [C.at_pos l (by omega)]
    exact C.atK_no l i h.1 h.2.2 (by omega)

set_option maxRecDepth 100000 in
set_option maxHeartbeats 4000000 in
theorem C.places_law (A : Option Addr) (len cap B : Nat) (rs : List (Int × Int)) (i x : Int) (w : World) (hl : rs.length = len) (hc : len ≤ cap) (hcap : cap ≤ maxLen) (hi1 : -9223372036854775808 ≤ i) (hi2 : i ≤ 9223372036854775807) (hB : B ≤ w.heap.size) (hA : Sl w B A (C.fl .i64 rs)) :
    Calls Try.prog 6 #[.slice A len cap, .int .i64 i, .int .i64 x] w fun e w' => e = .returned (.bool true) ∧ Below w.heap.size w w' := by
  have HL := Lib.hid hl
  clear hl
  have HGD := Lib.hid (C.right_good rs)
  have HRL : (C.right rs).length ≤ 12 := by unfold C.right; rw [List.length_map, List.length_take]; omega
  obtain ⟨m, hm⟩ : ∃ m, (C.right rs).length = m := ⟨_, rfl⟩
  rw [hm] at HRL
  have HM := Lib.hid hm
  obtain ⟨hok, hsl⟩ := C.ofS_ok HGD.out
  rw [hm] at hsl
  obtain ⟨S, hS⟩ : ∃ S, C.ofS (C.right rs) = S := ⟨_, rfl⟩
  have HS := Lib.hid hS
  rw [hS] at hok hsl
  obtain ⟨n, hn⟩ : ∃ n, S.length = n := ⟨_, rfl⟩
  rw [hn] at hsl
  have HN := Lib.hid hn
  have HOK := Lib.hid hok
  have hn' : n ≤ 1000000 := by omega
  obtain ⟨cn1, cn2⟩ := C.count_bd hok
  obtain ⟨N, hN⟩ : ∃ N, C.count S = N := ⟨_, rfl⟩
  rw [hN] at cn1 cn2
  have HCN := Lib.hid hN
  have hax := and_21 x
  have hn1 : (0 : Int) ≤ x % 2097152 := by omega
  have xb1 : -1 ≤ (x % 2097152 % 1114112 - 1) := by omega
  have xb2 : (x % 2097152 % 1114112 - 1) ≤ 1114110 := by omega
  clear hm hS hn hok hN
  go_enter Try.func6, Try.ntmps6
  go_wp2_with fail
  refine (C.awake_any _).mono ?_
  rintro e w1 ⟨rfl, hb1⟩
  go_wp2_with fail
  refine (C.right_any A len cap B rs _ HL.out hc hcap (Nat.le_trans hB hb1.size) (hA.belowN hb1 hB (Nat.le_refl _))).mono ?_
  rintro e w2 ⟨A2, c2, rfl, hown2, hb2⟩
  rw [HM.out] at hown2 ⊢
  have hS2 := Lib.hid (Sl.of_own hown2)
  have hb02 := hb1.trans (hb2.mono hb1.size)
  go_wp2_with fail
  refine (C.set_any A2 c2 m _ (C.right rs) _ HM.out (by omega) HGD.out (Nat.le_refl _) hS2.out).mono ?_
  rintro e w3 ⟨A3, c3, rfl, hown3, hb3⟩
  rw [HS.out, HN.out] at hown3
  rw [HS.out, HN.out]
  have hS3 := Lib.hid (Sl.of_own hown3)
  have hb03 := hb02.trans (hb3.mono hb02.size)
  clear hown2 hown3
  have hb4 : Below w3.heap.size (w3.alloc (.cells #[.slice A3 n c3] 26)) (w3.alloc (.cells #[.slice A3 n c3] 26)) := Below.refl _ _
  have hblk := heap_alloc_new w3 (.cells #[.slice A3 n c3] 26)
  obtain ⟨d0, _⟩ := blk_cell hblk 0
  simp only [List.getElem?_toArray, List.getElem?_cons_zero] at d0
  clear hblk
  have hbz : Below w3.heap.size w3 (w3.alloc (.cells #[.slice A3 n c3] 26)) := (Below.refl _ _).alloc (Nat.le_refl _) _
  have HSZ := Lib.hid (hS3.out.belowN hbz (Nat.le_refl _) (Nat.le_refl _))
  have hbZ : Below (w3.heap.size + 1) (w3.alloc (.cells #[.slice A3 n c3] 26)) (w3.alloc (.cells #[.slice A3 n c3] 26)) := Below.refl _ _
  have z0 : w3.heap.size + 1 ≤ (w3.alloc (.cells #[.slice A3 n c3] 26)).heap.size := by simp
  have hS0 : Hid (Sl (w3.alloc (.cells #[.slice A3 n c3] 26)) (w3.heap.size + 1) A3 (S.map (Value.int .i32))) := HSZ.out.more (by omega)
  have D0 := Lib.hid d0
  obtain ⟨d, hd⟩ : ∃ d, (C.at S i).1 = d := ⟨_, rfl⟩
  obtain ⟨is, his⟩ : ∃ is, (C.at S i).2 = is := ⟨_, rfl⟩
  have HD := Lib.hid hd
  have HIS := Lib.hid his
  clear hd his
  go_wp2_with fail
  refine (C.count_any A3 c3 n (w3.heap.size + 1) S _ HN.out hn' HOK.out z0 hS0.out).mono ?_
  rintro e w5 ⟨rfl, hb5⟩
  have hZ5 := hbZ.trans (hb5.mono z0)
  have z5 := Nat.le_trans z0 hb5.size
  have d5 := ((bcell hb5).1 w3.heap.size 0 (by omega)).trans d0
  have hS5 := Lib.hid (hS0.out.belowN hb5 z0 (Nat.le_refl _))
  rw [HCN.out]
  clear d0
  go_wp2_with fail
  refine (C.at_any A3 c3 n (w3.heap.size + 1) S i _ HN.out hn' HOK.out (by omega) (by omega) z5 hS5.out).mono ?_
  rintro e w6 ⟨rfl, hb6⟩
  have hZ6 := hZ5.trans (hb6.mono z5)
  have z6 := Nat.le_trans z5 hb6.size
  have d6 := ((bcell hb6).1 w3.heap.size 0 (by omega)).trans d5
  have hS6 := Lib.hid (hS5.out.belowN hb6 z5 (Nat.le_refl _))
  clear d5
  rw [HD.out, HIS.out]
  go_upto_region 7 with (fail)
  go_cut [62] (fun s62 wx => s62 = .bool false ∧ w3.heap.size + 1 ≤ wx.heap.size ∧ Below (w3.heap.size + 1) (w3.alloc (.cells #[.slice A3 n c3] 26)) wx)
  case first =>
    by_cases hin : 0 ≤ i ∧ i < N
    · obtain ⟨hin1, hin2⟩ := hin
      obtain ⟨d', hd, hdm, hdi, hd1, hd2⟩ := C.at_in HOK.out hin1 (show i < C.count S by rw [HCN.out]; exact hin2)
      have e1 := HD.out
      have e2 := HIS.out
      rw [hd] at e1 e2
      obtain rfl : d' = d := e1
      obtain rfl : true = is := e2
      have HDM := Lib.hid hdm
      have HDI := Lib.hid hdi
      clear hd hdm hdi
      go_wp2_with fail
      refine (C.has_any A3 c3 n (w3.heap.size + 1) S d' _ HN.out hn' HOK.out.1 z6 hS6.out).mono ?_
      rintro e w7 ⟨rfl, hb7⟩
      have hZ7 := hZ6.trans (hb7.mono z6)
      have z7 := Nat.le_trans z6 hb7.size
      have d7 := ((bcell hb7).1 w3.heap.size 0 (by omega)).trans d6
      have hS7 := Lib.hid (hS6.out.belowN hb7 z6 (Nat.le_refl _))
      clear d6
      rw [HDM.out]
      go_wp2_with fail
      refine (C.index_any A3 c3 n (w3.heap.size + 1) S d' _ HN.out hn' HOK.out (by omega) (by omega) z7 hS7.out).mono ?_
      rintro e w8 ⟨rfl, hb8⟩
      have hZ8 := hZ7.trans (hb8.mono z7)
      have z8 := Nat.le_trans z7 hb8.size
      have d8 := ((bcell hb8).1 w3.heap.size 0 (by omega)).trans d7
      have hS8 := Lib.hid (hS7.out.belowN hb8 z7 (Nat.le_refl _))
      clear d7
      rw [HDI.out]
      go_wp2_with fail
      go_meet
      exact ⟨by first | rfl | (rw [decide_eq_false (by omega)]), z8, hZ8⟩
    · have hd := C.at_out HOK.out (i := i) (by rw [HCN.out]; omega)
      have e1 := HD.out
      have e2 := HIS.out
      rw [hd] at e1 e2
      obtain rfl : 0 = d := e1
      obtain rfl : false = is := e2
      clear hd
      by_cases hneg : 0 ≤ i
      · have hge : ¬ i < N := by omega
        go_wp2_with fail
        go_meet
        exact ⟨by first | rfl | (rw [decide_eq_false (by omega)]), z6, hZ6⟩
      · go_wp2_with fail
        go_meet
        exact ⟨by first | rfl | (rw [decide_eq_false (by omega)]), z6, hZ6⟩
  case rest =>
    clear d6 hS6 z6 hZ6 hb6 hS5 z5 hZ5 hb5
    obtain ⟨rfl, z10, hZ10⟩ := hcut
    have d10 := ((bcell hZ10).1 w3.heap.size 0 (by omega)).trans D0.out
    have hS10 := Lib.hid (hS0.out.belowN hZ10 (Nat.le_refl _) (Nat.le_refl _))
    go_wp2_with fail
    refine (C.index_any A3 c3 n (w3.heap.size + 1) S (x % 2097152 % 1114112 - 1) _ HN.out hn' HOK.out (by omega) (by omega) z10 hS10.out).mono ?_
    rintro e w11 ⟨rfl, hb11⟩
    have hZ11 := hZ10.trans (hb11.mono z10)
    have z11 := Nat.le_trans z10 hb11.size
    have d11 := ((bcell hb11).1 w3.heap.size 0 (by omega)).trans d10
    have hS11 := Lib.hid (hS10.out.belowN hb11 z10 (Nat.le_refl _))
    clear d10
    have kb := C.idx_bd HOK.out (x % 2097152 % 1114112 - 1)
    obtain ⟨K, hK⟩ : ∃ K, C.idx S (x % 2097152 % 1114112 - 1) = K := ⟨_, rfl⟩
    rw [hK, HCN.out] at kb
    obtain ⟨kb1, kb2⟩ := kb
    rw [hK]
    have HK := Lib.hid hK
    clear hK
    obtain ⟨q, hq⟩ : ∃ q, (C.at S K).1 = q := ⟨_, rfl⟩
    obtain ⟨so, hso⟩ : ∃ so, (C.at S K).2 = so := ⟨_, rfl⟩
    have HQ := Lib.hid hq
    have HSO := Lib.hid hso
    clear hq hso
    go_wp2_with fail
    refine (C.at_any A3 c3 n (w3.heap.size + 1) S K _ HN.out hn' HOK.out (by omega) (by omega) z11 hS11.out).mono ?_
    rintro e w12 ⟨rfl, hb12⟩
    have hZ12 := hZ11.trans (hb12.mono z11)
    have z12 := Nat.le_trans z11 hb12.size
    have d12 := ((bcell hb12).1 w3.heap.size 0 (by omega)).trans d11
    have hS12 := Lib.hid (hS11.out.belowN hb12 z11 (Nat.le_refl _))
    clear d11
    rw [HQ.out, HSO.out]
    go_upto_region 12 with (fail)
    go_cut [108] (fun s108 wx => s108 = .bool false ∧ w3.heap.size + 1 ≤ wx.heap.size ∧ Below (w3.heap.size + 1) (w3.alloc (.cells #[.slice A3 n c3] 26)) wx)
    case first =>
      by_cases hkn : K < N
      · obtain ⟨q', hq, hqm, hqi, hq1, hq2⟩ := C.at_in HOK.out kb1 (show K < C.count S by rw [HCN.out]; exact hkn)
        have e1 := HQ.out
        have e2 := HSO.out
        rw [hq] at e1 e2
        obtain rfl : q' = q := e1
        obtain rfl : true = so := e2
        have hge : (x % 2097152 % 1114112 - 1) ≤ q' := by
          rcases Int.lt_or_le q' (x % 2097152 % 1114112 - 1) with hlt | hle
          · have := C.idx_lt HOK.out hqm hlt
            rw [hqi, HK.out] at this
            omega
          · exact hle
        have HQI := Lib.hid hqi
        clear hq hqm hqi
        rcases hmc : C.mem S (x % 2097152 % 1114112 - 1) with _ | _
        · have HMC := Lib.hid hmc
          clear hmc
          go_wp2_with fail
          refine (C.has_any A3 c3 n (w3.heap.size + 1) S (x % 2097152 % 1114112 - 1) _ HN.out hn' HOK.out.1 z12 hS12.out).mono ?_
          rintro e w13 ⟨rfl, hb13⟩
          have hZ13 := hZ12.trans (hb13.mono z12)
          have z13 := Nat.le_trans z12 hb13.size
          have d13 := ((bcell hb13).1 w3.heap.size 0 (by omega)).trans d12
          have hS13 := Lib.hid (hS12.out.belowN hb13 z12 (Nat.le_refl _))
          clear d12
          rw [HMC.out]
          go_wp2_with fail
          go_meet
          exact ⟨by first | rfl | (rw [decide_eq_false (by omega)]), z13, hZ13⟩
        · have heq : q' = (x % 2097152 % 1114112 - 1) := by
            rcases Int.lt_or_le (x % 2097152 % 1114112 - 1) q' with hlt | hle
            · have := C.idx_lt HOK.out hmc hlt
              rw [HQI.out, HK.out] at this
              omega
            · omega
          subst heq
          have HMC := Lib.hid hmc
          clear hmc
          go_wp2_with fail
          refine (C.has_any A3 c3 n (w3.heap.size + 1) S (x % 2097152 % 1114112 - 1) _ HN.out hn' HOK.out.1 z12 hS12.out).mono ?_
          rintro e w13 ⟨rfl, hb13⟩
          have hZ13 := hZ12.trans (hb13.mono z12)
          have z13 := Nat.le_trans z12 hb13.size
          have d13 := ((bcell hb13).1 w3.heap.size 0 (by omega)).trans d12
          have hS13 := Lib.hid (hS12.out.belowN hb13 z12 (Nat.le_refl _))
          clear d12
          rw [HMC.out]
          go_wp2_with fail
          go_meet
          exact ⟨by first | rfl | (rw [decide_eq_false (by omega)]), z13, hZ13⟩
      · have hq := C.at_out HOK.out (i := K) (by rw [HCN.out]; omega)
        have e1 := HQ.out
        have e2 := HSO.out
        rw [hq] at e1 e2
        obtain rfl : 0 = q := e1
        obtain rfl : false = so := e2
        clear hq
        have hmc : C.mem S (x % 2097152 % 1114112 - 1) = false := by
          rcases hmc : C.mem S (x % 2097152 % 1114112 - 1) with _ | _
          · rfl
          · have h1 := C.idx_lt HOK.out hmc (show (x % 2097152 % 1114112 - 1) < 1114112 by omega)
            have h2 := (C.idx_bd HOK.out 1114112).2
            rw [HK.out] at h1
            rw [HCN.out] at h2
            omega
        have HMC := Lib.hid hmc
        obtain rfl : K = N := by omega
        clear hmc
        go_wp2_with fail
        refine (C.has_any A3 c3 n (w3.heap.size + 1) S (x % 2097152 % 1114112 - 1) _ HN.out hn' HOK.out.1 z12 hS12.out).mono ?_
        rintro e w13 ⟨rfl, hb13⟩
        have hZ13 := hZ12.trans (hb13.mono z12)
        have z13 := Nat.le_trans z12 hb13.size
        have d13 := ((bcell hb13).1 w3.heap.size 0 (by omega)).trans d12
        have hS13 := Lib.hid (hS12.out.belowN hb13 z12 (Nat.le_refl _))
        clear d12
        rw [HMC.out]
        go_wp2_with fail
        go_meet
        exact ⟨by first | rfl | (rw [decide_eq_false (by omega)]), z13, hZ13⟩
    case rest =>
      clear d12 hS12 z12 hZ12 hb12 hS11 z11 hZ11 hb11
      obtain ⟨rfl, z20, hZ20⟩ := hcut
      have d20 := ((bcell hZ20).1 w3.heap.size 0 (by omega)).trans D0.out
      have hS20 := Lib.hid (hS0.out.belowN hZ20 (Nat.le_refl _) (Nat.le_refl _))
      by_cases hk0 : 0 < K
      · obtain ⟨p, hp, hpm, hpi, hp1, hp2⟩ := C.at_in HOK.out (i := K - 1) (by omega) (by rw [HCN.out]; omega)
        have hlt : p < (x % 2097152 % 1114112 - 1) := by
          rcases Int.lt_or_le p (x % 2097152 % 1114112 - 1) with hlt | hle
          · exact hlt
          · have := C.idx_mono S HOK.out.1 (x % 2097152 % 1114112 - 1) p hle
            rw [hpi, HK.out] at this
            omega
        have HP := Lib.hid hp
        clear hp hpm hpi
        go_wp2_with fail
        refine (C.at_any A3 c3 n (w3.heap.size + 1) S (K - 1) _ HN.out hn' HOK.out (by omega) (by omega) z20 hS20.out).mono ?_
        rintro e w21 ⟨rfl, hb21⟩
        have hZ21 := hZ20.trans (hb21.mono z20)
        have z21 := Nat.le_trans z20 hb21.size
        have d21 := ((bcell hb21).1 w3.heap.size 0 (by omega)).trans d20
        have hS21 := Lib.hid (hS20.out.belowN hb21 z20 (Nat.le_refl _))
        clear d20
        rw [HP.out]
        go_wp2
        go_ret
        exact ⟨rfl, (hb03.trans (hbz.mono hb03.size)).trans (hZ21.mono (by have := hb03.size; omega))⟩
      · go_wp2
        go_ret
        exact ⟨rfl, (hb03.trans (hbz.mono hb03.size)).trans (hZ20.mono (by have := hb03.size; omega))⟩

theorem C.places_row (w : World) (a : Option Addr) (len cap : Nat) (rs : List (Int × Int)) (h : IsPairs w a len cap rs) (i : Int) (i1 : -9223372036854775808 ≤ i) (i2 : i ≤ 9223372036854775807) (x : Int) (_ : -9223372036854775808 ≤ x) (_ : x ≤ 9223372036854775807) :
    Calls Try.prog 6 #[.slice a len cap, .int .i64 i, .int .i64 x] w fun e w' => e = .returned (.bool true) ∧ Below w.heap.size w w' :=
  C.places_law a len cap w.heap.size rs i x w h.1 h.2.1 h.2.2.1 i1 i2 (Nat.le_refl _) h.2.2.2.1
end Go.Proofs.Ytmfcbmlfgfcmnaa
