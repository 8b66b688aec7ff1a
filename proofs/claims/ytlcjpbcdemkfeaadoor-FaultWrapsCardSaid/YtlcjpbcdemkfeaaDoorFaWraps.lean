/- The law FaultWraps, by walking its text. -/
import Derived.Test.YtlcjpbcdemkfeaaDoorFaTells
namespace Go.Proofs.YtlcjpbcdemkfeaaDoor
open Go.RowKit Go.Stop
set_option linter.unusedSimpArgs false
set_option linter.unusedVariables false

set_option maxRecDepth 100000 in
set_option maxHeartbeats 8000000 in
theorem F.wraps_law (A : Option Addr) (cap N B : Nat) (l0 : List (Int × Int × ByteArray)) (A' : Option Addr) (cap' N' : Nat) (ns : List ByteArray) (w : World) (hl : l0.length = N) (hN : N ≤ maxLen) (hB : B ≤ w.heap.size) (hA : Sl w B A (F.fl l0))
    (hwf : ∀ x ∈ l0, (-9223372036854775808 ≤ x.1 ∧ x.1 ≤ 9223372036854775807) ∧ (-9223372036854775808 ≤ x.2.1 ∧ x.2.1 ≤ 9223372036854775807) ∧ x.2.2.size ≤ maxLen)
    (hn' : ns.length = N') (hN' : N' ≤ maxLen) (hA' : Sl w B A' (ns.map Value.string)) (hwf' : ∀ x ∈ ns, x.size ≤ maxLen) (hL : F.Laid w) :
    Calls Tryd.prog 3 #[.slice A N cap, .slice A' N' cap'] w fun e w' => e = .returned (.bool true) ∧ Below w.heap.size w w' := by
  obtain ⟨j0, hj0, hy0, hy1, hy2⟩ := info_parts infoLink
  have HAW := Lib.hid (F.awake_any w hL)
  have HFEW := Lib.hid (fun w' hB' hA' => F.few_any A cap N B l0 w' hl hN hB' hA' hwf)
  have HA := Lib.hid hA
  have HA' := Lib.hid hA'
  have HN' := Lib.hid hn'
  have HWF' := Lib.hid hwf'
  have HL := Lib.hid hL
  unfold maxLen at hN'
  clear hl hN hA hwf hL hn' hA' hwf'
  go_enter Tryd.func3, Tryd.ntmps3
  go_wp2_with fail
  refine HAW.out.mono ?_
  rintro e w1 ⟨rfl, hb1⟩
  have HL1 := Lib.hid (HL.out.next hb1)
  have HA1 := Lib.hid (HA.out.belowN hb1 hB (Nat.le_refl _))
  have HB1 := Lib.hid hb1
  have hs1 := hb1.size
  clear hb1
  go_wp2_with fail
  refine (HFEW.out _ (by omega) HA1.out).mono ?_
  rintro e w2 ⟨A2, c2, l, rfl, hl12, hokf, hS2, hb2⟩
  obtain ⟨m, hm⟩ : ∃ m, l.length = m := ⟨_, rfl⟩
  rw [hm] at hl12 ⊢
  have HM := Lib.hid hm
  have HOK := Lib.hid hokf
  have HS2 := Lib.hid hS2
  have hs2 := hb2.size
  have HL2 := Lib.hid (HL1.out.next hb2)
  have HB2 : Hid (Below w.heap.size w w2) := Lib.hid (HB1.out.trans (hb2.mono hs1))
  clear hm hokf hS2 hb2 HAW HFEW HA HA1 HL1 HB1
  go_wp2_with fail
  refine (F.mkchain_any A2 c2 m w2.heap.size l _ HM.out (by omega) (Nat.le_refl _) HS2.out).mono ?_
  rintro e w3 ⟨q, v, rfl, hlk, hch, hb3⟩
  have HLK := Lib.hid hlk
  have HQ3 := Lib.hid hch
  have HS3 := Lib.hid (HS2.out.belowN hb3 (Nat.le_refl _) hb3.size)
  have HL3 := Lib.hid (HL2.out.next hb3)
  have HB3 : Hid (Below w.heap.size w w3) := Lib.hid (HB2.out.trans (hb3.mono HB2.out.size))
  clear hlk hch hb3 HS2 HL2 HB2
  go_wp2
  go_loopw [0, 5, 6] (fun vl ve vi wr => ∃ (i : Nat) (l : List (Int × Int × ByteArray)) (q : List (Nat × Int × Int × ByteArray)) (A2 : Option Addr) (c2 m : Nat), i ≤ N' ∧ i ≤ 10 ∧ vi = .int .i64 i ∧ vl = .slice A2 m c2 ∧ l.length = m ∧ m ≤ 12 + i ∧ F.okF l ∧ F.lk q = l ∧ F.Ch wr wr.heap.size q ve ∧ Sl wr wr.heap.size A2 (F.fl l) ∧ Below w.heap.size w wr) (fun _ _ vi _ => 10 - (intOf vi).toNat)
  case atStart => exact ⟨0, l, q, A2, c2, m, by omega, by omega, rfl, rfl, HM.out, by omega, HOK.out, HLK.out, HQ3.out, HS3.out, HB3.out⟩
  case round =>
    clear HM HOK HLK HQ3 HS3 HL3 HB3 hl12 hs2 hs1
    obtain ⟨i, l, q, A2, c2, m, hi, hi10, rfl, rfl, hlm, hm, hok, hlk, hch, hS, hbr⟩ := hrel
    obtain ⟨w4, rfl⟩ : ∃ w4 : World, w4 = wr := ⟨_, rfl⟩
    have HLM := Lib.hid hlm
    have HOK := Lib.hid hok
    have HLK := Lib.hid hlk
    have HCH := Lib.hid hch
    have HS := Lib.hid hS
    have HBR := Lib.hid hbr
    have HL4 := Lib.hid (HL.out.next hbr)
    have hs4 := hbr.size
    clear hlm hok hlk hch hS hbr
    by_cases hlt : (i : Int) < N'
    · by_cases hlt2 : (i : Int) < 10
      · obtain ⟨s, hx⟩ : ∃ s, ns[i]? = some s := ⟨_, List.getElem?_eq_getElem (by rw [HN'.out]; omega)⟩
        have hsb := HWF'.out s (List.mem_of_getElem? hx)
        unfold maxLen at hsb
        obtain ⟨g, o, rfl, hg, hcell⟩ := HA'.out (by rw [List.length_map, HN'.out]; omega)
        have hc := hcell i (by rw [List.length_map, HN'.out]; omega)
        rw [List.getElem?_map, hx, ← (bcell HBR.out).1 _ _ (by omega)] at hc
        simp only [Option.map_some] at hc
        have n0 : (0 : Int) ≤ (i : Int) := by omega
        clear hcell hx
        by_cases hs : (20 : Int) < s.size
        · have hs2 : (s.extract 0 20).size ≤ 20 := by rw [ByteArray.size_extract]; omega
          have HS2 := Lib.hid hs2
          clear hs2
          go_wp2_with fail
          refine (F.wrap_any w4.heap.size q _ (s.extract 0 20) _ HL4.out (Nat.le_refl _) HCH.out).mono ?_
          rw [HLK.out]
          rintro e w5 ⟨q5, v5, rfl, hl5, hch5, hb5⟩
          have HS5 := Lib.hid (HS.out.belowN hb5 (Nat.le_refl _) hb5.size)
          have HB5 : Hid (Below w.heap.size w w5) := Lib.hid (HBR.out.trans (hb5.mono hs4))
          have HL5 := Lib.hid hl5
          have HC5 := Lib.hid hch5
          have hs5 := hb5.size
          have hws5 := HB5.out.size
          clear hl5 hch5 hb5
          rcases Nat.eq_zero_or_pos m with hm0 | hmp
          · obtain rfl : l = [] := List.eq_nil_of_length_eq_zero (by rw [HLM.out]; exact hm0)
            subst hm0
            go_wp2
            exact ⟨⟨i + 1, [], q5, A2, c2, 0, by omega, by omega, by go_num, rfl, rfl, by omega, HOK.out, by rw [HL5.out]; rfl, HC5.out, HS5.out, HB5.out⟩, by simp [intOf]; omega⟩
          · have hne : l ≠ [] := by intro h; have := HLM.out; rw [h] at this; simp at this; omega
            have hl6 : F.lk q5 = (F.code l, 0, s.extract 0 20) :: l := by rw [HL5.out, if_neg hne]
            have hcd : 1 ≤ F.code l ∧ F.code l ≤ 16 := by
              rcases l with _ | ⟨x, t⟩
              · exact absurd rfl hne
              · exact (HOK.out x (by simp)).1
            have hmI : (m : Int) > 0 := by omega
            have HRC := Lib.hid (F.rcode_any A2 c2 m w5.heap.size l w5 HLM.out HS5.out)
            obtain ⟨cv, hcv⟩ : ∃ cv, F.code l = cv := ⟨_, rfl⟩
            rw [hcv] at hl6 hcd HRC
            have HL6 := Lib.hid hl6
            have HCD := Lib.hid hcd
            clear hl6 hcd hcv hne
            have hal2 : Below w5.heap.size w5 (w5.alloc (.cells #[.int .i64 cv, .int .i64 0, .string (s.extract 0 20)] 32)) := (Below.refl _ _).alloc (Nat.le_refl _) _
            have hnl2 := heap_alloc_new w5 (.cells #[.int .i64 cv, .int .i64 0, .string (s.extract 0 20)] 32)
            have hown10 : (w5.alloc (.cells #[.int .i64 cv, .int .i64 0, .string (s.extract 0 20)] 32)).ownsRow w5.heap.size 32 3 (.slice (some ⟨w5.heap.size, 0, none⟩) 1 1) 1 [.int .i64 cv, .int .i64 0, .string (s.extract 0 20)] :=
              ⟨rfl, .inr ⟨w5.heap.size, 1, _, rfl, Nat.le_refl _, hnl2, Nat.le_refl _, by decide, rfl, rfl⟩⟩
            have HO10 := Lib.hid hown10
            have HS10 := Lib.hid (HS5.out.belowN hal2 (Nat.le_refl _) hal2.size)
            have HAL2 := Lib.hid hal2
            have hs102 : w5.heap.size ≤ (w5.alloc (.cells #[.int .i64 cv, .int .i64 0, .string (s.extract 0 20)] 32)).heap.size := hal2.size
            clear hal2 hnl2 hown10
            go_wp2_with (first
              | (go_at_call 12; refine HRC.out.mono ?_; rintro e w' ⟨rfl, rfl⟩)
              | (at_builtin; refine wpList_appendSl _ rfl _ _ _ rfl w5.heap.size 32 j0 _ 3 32 Tryd.underlying22 hj0 hy0 hy1 hy2 rfl (by omega) _ 1 _ rfl HO10.out _ A2 m c2 (F.fl l) rfl (by rw [F.fl_len, HLM.out]; omega) HS10.out (F.fl_one l) (by simp only [maxLen]; omega) (by omega) hs102 ?_; intro v1 w11 hown11 hb11 _; obtain ⟨A11, c11, rfl⟩ := own_form hown11; have HO11 := Lib.hid (Sl.of_own hown11); have HB11 := Lib.hid (HAL2.out.trans hb11); clear hown11 hb11))
            have hs11 := HB11.out.size
            refine ⟨⟨i + 1, (cv, 0, s.extract 0 20) :: l, q5, A11, c11, 1 + m, by omega, by omega, by go_num, rfl, by rw [List.length_cons, HLM.out]; omega, by omega, ?_, HL6.out, HC5.out.below HB11.out (Nat.le_refl _) hs11, HO11.out, HB5.out.trans (HB11.out.mono hws5)⟩, by simp [intOf]; omega⟩
            intro x hx
            rcases List.mem_cons.1 hx with rfl | hx
            · exact ⟨HCD.out, ⟨by show (-9223372036854775808 : Int) ≤ 0; decide, by show (0 : Int) ≤ 9223372036854775807; decide⟩, HS2.out⟩
            · exact HOK.out x hx
        · have hs2 : (s).size ≤ 20 := by omega
          have HS2 := Lib.hid hs2
          clear hs2
          go_wp2_with fail
          refine (F.wrap_any w4.heap.size q _ (s) _ HL4.out (Nat.le_refl _) HCH.out).mono ?_
          rw [HLK.out]
          rintro e w5 ⟨q5, v5, rfl, hl5, hch5, hb5⟩
          have HS5 := Lib.hid (HS.out.belowN hb5 (Nat.le_refl _) hb5.size)
          have HB5 : Hid (Below w.heap.size w w5) := Lib.hid (HBR.out.trans (hb5.mono hs4))
          have HL5 := Lib.hid hl5
          have HC5 := Lib.hid hch5
          have hs5 := hb5.size
          have hws5 := HB5.out.size
          clear hl5 hch5 hb5
          rcases Nat.eq_zero_or_pos m with hm0 | hmp
          · obtain rfl : l = [] := List.eq_nil_of_length_eq_zero (by rw [HLM.out]; exact hm0)
            subst hm0
            go_wp2
            exact ⟨⟨i + 1, [], q5, A2, c2, 0, by omega, by omega, by go_num, rfl, rfl, by omega, HOK.out, by rw [HL5.out]; rfl, HC5.out, HS5.out, HB5.out⟩, by simp [intOf]; omega⟩
          · have hne : l ≠ [] := by intro h; have := HLM.out; rw [h] at this; simp at this; omega
            have hl6 : F.lk q5 = (F.code l, 0, s) :: l := by rw [HL5.out, if_neg hne]
            have hcd : 1 ≤ F.code l ∧ F.code l ≤ 16 := by
              rcases l with _ | ⟨x, t⟩
              · exact absurd rfl hne
              · exact (HOK.out x (by simp)).1
            have hmI : (m : Int) > 0 := by omega
            have HRC := Lib.hid (F.rcode_any A2 c2 m w5.heap.size l w5 HLM.out HS5.out)
            obtain ⟨cv, hcv⟩ : ∃ cv, F.code l = cv := ⟨_, rfl⟩
            rw [hcv] at hl6 hcd HRC
            have HL6 := Lib.hid hl6
            have HCD := Lib.hid hcd
            clear hl6 hcd hcv hne
            have hal2 : Below w5.heap.size w5 (w5.alloc (.cells #[.int .i64 cv, .int .i64 0, .string (s)] 32)) := (Below.refl _ _).alloc (Nat.le_refl _) _
            have hnl2 := heap_alloc_new w5 (.cells #[.int .i64 cv, .int .i64 0, .string (s)] 32)
            have hown10 : (w5.alloc (.cells #[.int .i64 cv, .int .i64 0, .string (s)] 32)).ownsRow w5.heap.size 32 3 (.slice (some ⟨w5.heap.size, 0, none⟩) 1 1) 1 [.int .i64 cv, .int .i64 0, .string (s)] :=
              ⟨rfl, .inr ⟨w5.heap.size, 1, _, rfl, Nat.le_refl _, hnl2, Nat.le_refl _, by decide, rfl, rfl⟩⟩
            have HO10 := Lib.hid hown10
            have HS10 := Lib.hid (HS5.out.belowN hal2 (Nat.le_refl _) hal2.size)
            have HAL2 := Lib.hid hal2
            have hs102 : w5.heap.size ≤ (w5.alloc (.cells #[.int .i64 cv, .int .i64 0, .string (s)] 32)).heap.size := hal2.size
            clear hal2 hnl2 hown10
            go_wp2_with (first
              | (go_at_call 12; refine HRC.out.mono ?_; rintro e w' ⟨rfl, rfl⟩)
              | (at_builtin; refine wpList_appendSl _ rfl _ _ _ rfl w5.heap.size 32 j0 _ 3 32 Tryd.underlying22 hj0 hy0 hy1 hy2 rfl (by omega) _ 1 _ rfl HO10.out _ A2 m c2 (F.fl l) rfl (by rw [F.fl_len, HLM.out]; omega) HS10.out (F.fl_one l) (by simp only [maxLen]; omega) (by omega) hs102 ?_; intro v1 w11 hown11 hb11 _; obtain ⟨A11, c11, rfl⟩ := own_form hown11; have HO11 := Lib.hid (Sl.of_own hown11); have HB11 := Lib.hid (HAL2.out.trans hb11); clear hown11 hb11))
            have hs11 := HB11.out.size
            refine ⟨⟨i + 1, (cv, 0, s) :: l, q5, A11, c11, 1 + m, by omega, by omega, by go_num, rfl, by rw [List.length_cons, HLM.out]; omega, by omega, ?_, HL6.out, HC5.out.below HB11.out (Nat.le_refl _) hs11, HO11.out, HB5.out.trans (HB11.out.mono hws5)⟩, by simp [intOf]; omega⟩
            intro x hx
            rcases List.mem_cons.1 hx with rfl | hx
            · exact ⟨HCD.out, ⟨by show (-9223372036854775808 : Int) ≤ 0; decide, by show (0 : Int) ≤ 9223372036854775807; decide⟩, HS2.out⟩
            · exact HOK.out x hx
      · have hql : q.length ≤ 1000 := by rw [F.lk_len' HLK.out, HLM.out]; omega
        have HOKQ : Hid (F.okL (F.lk q)) := Lib.hid (by rw [HLK.out]; exact HOK.out.ok)
        have hlq := F.lk_len' HLK.out
        rw [HLM.out] at hlq
        have HLQ := Lib.hid hlq
        clear hlq
        rcases hq0 : q with _ | ⟨⟨b0, c0, n0, s0⟩, t0⟩
        · have hch := HCH.out
          rw [hq0] at hch
          obtain rfl := hch
          have hm0 := HLQ.out
          rw [hq0] at hm0
          have HQ0 := Lib.hid hq0
          clear hq0
          obtain rfl : m = 0 := by simpa using hm0.symm
          go_wp2_with fail
          refine (F.text_any w4.heap.size q _ _ HL4.out (Nat.le_refl _) HCH.out hql HOKQ.out).mono ?_
          rw [HLK.out]
          rintro e w5 ⟨rfl, hb5⟩
          have HS5 := Lib.hid (HS.out.belowN hb5 (Nat.le_refl _) (Nat.le_refl _))
          have HB5 : Hid (Below w.heap.size w w5) := Lib.hid (HBR.out.trans (hb5.mono hs4))
          have hs5 := hb5.size
          clear hb5
          go_wp2_with fail
          refine (F.rtext_any A2 c2 _ w4.heap.size l _ HLM.out (by omega) hs5 HS5.out HOK.out.ok).mono ?_
          rintro e w6 ⟨rfl, hb6⟩
          obtain ⟨T, hT⟩ : ∃ T, F.text l = T := ⟨_, rfl⟩
          rw [hT]
          clear hT
          go_wp2
          go_ret
          exact ⟨rfl, HB5.out.trans (hb6.mono HB5.out.size)⟩

        · have hch := HCH.out
          rw [hq0] at hch
          obtain ⟨rfl, _⟩ := hch
          have hm0 := HLQ.out
          rw [hq0] at hm0
          have HQ0 := Lib.hid hq0
          clear hq0
          have hmne : ¬ (m : Int) = 0 := by simp at hm0; omega
          have hmb : ((m : Int) == 0) = false := by simpa using hmne
          clear hm0
          go_wp2_with fail
          refine (F.text_any w4.heap.size q _ _ HL4.out (Nat.le_refl _) HCH.out hql HOKQ.out).mono ?_
          rw [HLK.out]
          rintro e w5 ⟨rfl, hb5⟩
          have HS5 := Lib.hid (HS.out.belowN hb5 (Nat.le_refl _) (Nat.le_refl _))
          have HB5 : Hid (Below w.heap.size w w5) := Lib.hid (HBR.out.trans (hb5.mono hs4))
          have hs5 := hb5.size
          clear hb5
          go_wp2_with fail
          refine (F.rtext_any A2 c2 _ w4.heap.size l _ HLM.out (by omega) hs5 HS5.out HOK.out.ok).mono ?_
          rintro e w6 ⟨rfl, hb6⟩
          obtain ⟨T, hT⟩ : ∃ T, F.text l = T := ⟨_, rfl⟩
          rw [hT]
          clear hT
          go_wp2
          go_ret
          exact ⟨rfl, HB5.out.trans (hb6.mono HB5.out.size)⟩
    · have hql : q.length ≤ 1000 := by rw [F.lk_len' HLK.out, HLM.out]; omega
      have HOKQ : Hid (F.okL (F.lk q)) := Lib.hid (by rw [HLK.out]; exact HOK.out.ok)
      have hlq := F.lk_len' HLK.out
      rw [HLM.out] at hlq
      have HLQ := Lib.hid hlq
      clear hlq
      rcases hq0 : q with _ | ⟨⟨b0, c0, n0, s0⟩, t0⟩
      · have hch := HCH.out
        rw [hq0] at hch
        obtain rfl := hch
        have hm0 := HLQ.out
        rw [hq0] at hm0
        have HQ0 := Lib.hid hq0
        clear hq0
        obtain rfl : m = 0 := by simpa using hm0.symm
        go_wp2_with fail
        refine (F.text_any w4.heap.size q _ _ HL4.out (Nat.le_refl _) HCH.out hql HOKQ.out).mono ?_
        rw [HLK.out]
        rintro e w5 ⟨rfl, hb5⟩
        have HS5 := Lib.hid (HS.out.belowN hb5 (Nat.le_refl _) (Nat.le_refl _))
        have HB5 : Hid (Below w.heap.size w w5) := Lib.hid (HBR.out.trans (hb5.mono hs4))
        have hs5 := hb5.size
        clear hb5
        go_wp2_with fail
        refine (F.rtext_any A2 c2 _ w4.heap.size l _ HLM.out (by omega) hs5 HS5.out HOK.out.ok).mono ?_
        rintro e w6 ⟨rfl, hb6⟩
        obtain ⟨T, hT⟩ : ∃ T, F.text l = T := ⟨_, rfl⟩
        rw [hT]
        clear hT
        go_wp2
        go_ret
        exact ⟨rfl, HB5.out.trans (hb6.mono HB5.out.size)⟩

      · have hch := HCH.out
        rw [hq0] at hch
        obtain ⟨rfl, _⟩ := hch
        have hm0 := HLQ.out
        rw [hq0] at hm0
        have HQ0 := Lib.hid hq0
        clear hq0
        have hmne : ¬ (m : Int) = 0 := by simp at hm0; omega
        have hmb : ((m : Int) == 0) = false := by simpa using hmne
        clear hm0
        go_wp2_with fail
        refine (F.text_any w4.heap.size q _ _ HL4.out (Nat.le_refl _) HCH.out hql HOKQ.out).mono ?_
        rw [HLK.out]
        rintro e w5 ⟨rfl, hb5⟩
        have HS5 := Lib.hid (HS.out.belowN hb5 (Nat.le_refl _) (Nat.le_refl _))
        have HB5 : Hid (Below w.heap.size w w5) := Lib.hid (HBR.out.trans (hb5.mono hs4))
        have hs5 := hb5.size
        clear hb5
        go_wp2_with fail
        refine (F.rtext_any A2 c2 _ w4.heap.size l _ HLM.out (by omega) hs5 HS5.out HOK.out.ok).mono ?_
        rintro e w6 ⟨rfl, hb6⟩
        obtain ⟨T, hT⟩ : ∃ T, F.text l = T := ⟨_, rfl⟩
        rw [hT]
        clear hT
        go_wp2
        go_ret
        exact ⟨rfl, HB5.out.trans (hb6.mono HB5.out.size)⟩

theorem F.wraps_row (w : World) (a : Option Addr) (len cap : Nat) (l : List (Int × Int × ByteArray)) (h : IsLinks w a len cap l) (a' : Option Addr) (len' cap' : Nat) (ns : List ByteArray) (h' : IsStrs w a' len' cap' ns) (hL : F.Laid w) :
    Calls Tryd.prog 3 #[.slice a len cap, .slice a' len' cap'] w fun e w' => e = .returned (.bool true) ∧ Below w.heap.size w w' :=
  F.wraps_law a cap len w.heap.size l a' cap' len' ns w h.1 (Nat.le_trans h.2.1 h.2.2.1) (Nat.le_refl _) h.2.2.2.1 h.2.2.2.2 h'.1 (Nat.le_trans h'.2.1 h'.2.2.1) h'.2.2.2.1 h'.2.2.2.2 hL
end Go.Proofs.YtlcjpbcdemkfeaaDoor
