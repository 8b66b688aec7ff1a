/- The law FaultTells, by walking its text. -/
import Derived.Test.YtlcjpbcdemkfeaaDoorFaLinks2
import Derived.Test.YtlcjpbcdemkfeaaDoorFaCauses
import Derived.Test.YtlcjpbcdemkfeaaDoorFaOpen
namespace Go.Proofs.YtlcjpbcdemkfeaaDoor
open Go.RowKit Go.Stop
set_option linter.unusedSimpArgs false
set_option linter.unusedVariables false

theorem F.lk_len' {q : List (Nat × Int × Int × ByteArray)} {l : List (Int × Int × ByteArray)} (h : F.lk q = l) : q.length = l.length := by rw [← h, F.lk_len]
theorem F.error_any (B b : Nat) (q : List (Nat × Int × Int × ByteArray)) (w : World) (hL : F.Laid w) (hB : B ≤ w.heap.size) (hq : F.Ch w B q (.iface 42 (.pointer (some ⟨b, 0, none⟩)))) (hlen : q.length ≤ 1000) (hok : F.okL (F.lk q)) :
    Calls Tryd.prog 21 #[.pointer (some ⟨b, 0, none⟩)] w fun e w' => e = .returned (.string (F.text (F.lk q))) ∧ Below w.heap.size w w' := by
  have HT := Lib.hid (F.text_any B q _ w hL hB hq hlen hok)
  clear hL hq hok
  go_enter Tryd.func21, Tryd.ntmps21
  go_wp2_with fail
  refine HT.out.mono ?_
  rintro e w1 ⟨rfl, hb⟩
  go_wp2
  go_ret
  exact ⟨rfl, hb⟩
theorem F.unwrapM_any (b : Nat) (c n : Int) (s : ByteArray) (v : Value) (w : World) (hbl : w.heap[b]? = some (.cells #[.int .i64 c, .int .i64 n, .string s, v] 44 (0, 0))) :
    Calls Tryd.prog 22 #[.pointer (some ⟨b, 0, none⟩)] w fun e w' => e = .returned v ∧ w = w' := by
  obtain ⟨d3, _⟩ := blk_cell hbl 3
  simp only [List.getElem?_toArray, List.getElem?_cons_zero, List.getElem?_cons_succ] at d3
  go_enter Tryd.func22, Tryd.ntmps22
  go_wp2
  go_ret
  exact ⟨rfl, rfl⟩

theorem F.Ch.cells {w : World} {B : Nat} {q : List (Nat × Int × Int × ByteArray)} {v : Value} (h : F.Ch w B q v) : v.cells = #[v] := by
  rcases q with _ | ⟨⟨b, c, n, s⟩, t⟩
  · obtain rfl : v = .nilIface := h
    rfl
  · obtain ⟨rfl, _⟩ := h
    rfl

set_option maxRecDepth 100000 in
set_option maxHeartbeats 8000000 in
theorem F.tells_law (A : Option Addr) (cap N B : Nat) (l0 : List (Int × Int × ByteArray)) (w : World) (hl : l0.length = N) (hN : N ≤ maxLen) (hB : B ≤ w.heap.size) (hA : Sl w B A (F.fl l0))
    (hwf : ∀ x ∈ l0, (-9223372036854775808 ≤ x.1 ∧ x.1 ≤ 9223372036854775807) ∧ (-9223372036854775808 ≤ x.2.1 ∧ x.2.1 ≤ 9223372036854775807) ∧ x.2.2.size ≤ maxLen) (hL : F.Laid w) :
    Calls Tryd.prog 4 #[.slice A N cap] w fun e w' => e = .returned (.bool true) ∧ Below w.heap.size w w' := by
  obtain ⟨j0, hj0, hy0, hy1, hy2⟩ := info_parts infoLink
  have HAW := Lib.hid (F.awake_any w hL)
  have HFEW := Lib.hid (fun w' hB' hA' => F.few_any A cap N B l0 w' hl hN hB' hA' hwf)
  have HA := Lib.hid hA
  have HL := Lib.hid hL
  clear hl hN hA hwf hL
  go_enter Tryd.func4, Tryd.ntmps4
  go_wp2_with fail
  refine HAW.out.mono ?_
  rintro e w1 ⟨rfl, hb1⟩
  have HL1 := Lib.hid (HL.out.next hb1)
  have HA1 := Lib.hid (HA.out.belowN hb1 hB (Nat.le_refl _))
  have HB1 := Lib.hid hb1
  have hs1 := hb1.size
  clear hb1
  go_wp2_with fail
  refine (HFEW.out _ (by omega) HA1.out).mono ?_
  rintro e w2 ⟨A2, c2, l, rfl, hl12, hokf, hS2, hb2⟩
  obtain ⟨m, hm⟩ : ∃ m, l.length = m := ⟨_, rfl⟩
  rw [hm] at hl12 ⊢
  have HM := Lib.hid hm
  have HOK := Lib.hid hokf.ok
  have HS2 := Lib.hid hS2
  have hs2 := hb2.size
  have HL2 := Lib.hid (HL1.out.next hb2)
  have HB2 : Hid (Below w.heap.size w w2) := Lib.hid (HB1.out.trans (hb2.mono hs1))
  clear hm hokf hS2 hb2 HAW HFEW HA HA1 HL1 HB1
  go_wp2_with fail
  refine (F.mkchain_any A2 c2 m w2.heap.size l _ HM.out (by omega) (Nat.le_refl _) HS2.out).mono ?_
  rintro e w3 ⟨q, v, rfl, hlk, hch, hb3⟩
  have HLK := Lib.hid hlk
  have hql : q.length ≤ 12 := by rw [F.lk_len' hlk, HM.out]; exact hl12
  have HQ3 := Lib.hid hch
  have HS3 := Lib.hid (HS2.out.belowN hb3 (Nat.le_refl _) hb3.size)
  have HL3 := Lib.hid (HL2.out.next hb3)
  have HB3 : Hid (Below w.heap.size w w3) := Lib.hid (HB2.out.trans (hb3.mono HB2.out.size))
  have HOKQ : Hid (F.okL (F.lk q)) := Lib.hid (by rw [hlk]; exact HOK.out)
  clear hlk hch hb3 HS2 HL2 HB2
  go_wp2_with fail
  refine (F.code_any w3.heap.size q v _ HL3.out (Nat.le_refl _) HQ3.out).mono ?_
  rw [HLK.out]
  rintro e w4 ⟨rfl, hb4⟩
  have HW4 := Lib.hid hb4
  have hs4 := hb4.size
  clear hb4
  go_wp2_with fail
  refine (F.rcode_any A2 c2 m w3.heap.size l _ HM.out (HS3.out.belowN HW4.out (Nat.le_refl _) (Nat.le_refl _))).mono ?_
  rintro e w' ⟨rfl, rfl⟩
  go_wp2_with fail
  refine (F.line_any w3.heap.size q v _ hs4 (HQ3.out.below HW4.out (Nat.le_refl _) (Nat.le_refl _)) (by omega)).mono ?_
  rw [HLK.out]
  rintro e w5 ⟨rfl, hb5⟩
  have HW5 := Lib.hid (HW4.out.trans (hb5.mono hs4))
  have hs5 := HW5.out.size
  clear hb5
  go_wp2_with fail
  refine (F.rline_any A2 c2 m w3.heap.size l _ HM.out (by omega) hs5 (HS3.out.belowN HW5.out (Nat.le_refl _) (Nat.le_refl _))).mono ?_
  rintro e w6 ⟨rfl, hb6⟩
  have HW6 := Lib.hid (HW5.out.trans (hb6.mono hs5))
  have hs6 := HW6.out.size
  clear hb6
  go_wp2_with fail
  refine (F.notes_any w3.heap.size q v _ hs6 (HQ3.out.below HW6.out (Nat.le_refl _) (Nat.le_refl _)) (by omega)).mono ?_
  rw [HLK.out]
  rintro e w7 ⟨A7, c7, rfl, hown7, hb7⟩
  have HN7 := Lib.hid (Sl.of_own hown7)
  have HW7 := Lib.hid (HW6.out.trans (hb7.mono hs6))
  have hs7 := HW7.out.size
  clear hown7 hb7
  go_wp2_with fail
  refine (F.rnotes_any A2 c2 m w3.heap.size l _ HM.out (by omega) hs7 (HS3.out.belowN HW7.out (Nat.le_refl _) (Nat.le_refl _))).mono ?_
  rintro e w8 ⟨A8, c8, rfl, hown8, hb8⟩
  have HN8 := Lib.hid (Sl.of_own hown8)
  have HN78 := Lib.hid (HN7.out.belowN hb8 (Nat.le_refl _) hb8.size)
  have HW8 := Lib.hid (HW7.out.trans (hb8.mono hs7))
  have hs8 := HW8.out.size
  have hnl := F.notes_len l
  rw [HM.out] at hnl
  obtain ⟨nn, hnn⟩ : ∃ nn, (F.notes l).length = nn := ⟨_, rfl⟩
  rw [hnn] at hnl ⊢
  have HNN := Lib.hid hnn
  clear hown8 hb8 HN7 hnn
  go_wp2_with fail
  refine (F.same_any A7 A8 c7 c8 nn w8.heap.size _ _ HNN.out (by omega) HN78.out HN8.out).mono ?_
  rintro e w9 ⟨rfl, hb9⟩
  have HW9 := Lib.hid (HW8.out.trans (hb9.mono hs8))
  have hs9 := HW9.out.size
  clear hb9 HN78 HN8
  have hvv : v = .nilIface ∨ ∃ b0, v = .iface 42 (.pointer (some ⟨b0, 0, none⟩)) := by
    have h := HQ3.out
    rcases q with _ | ⟨⟨b0, c0, n0, s0⟩, t0⟩
    · exact .inl h
    · exact .inr ⟨b0, h.1⟩
  rcases hvv with rfl | ⟨b0, rfl⟩
  · have hal1 : Below w9.heap.size w9 (w9.alloc (.cells #[.int .i64 8, .int .i64 3, .string ⟨#[120]⟩, .nilIface] 44)) := (Below.refl _ _).alloc (Nat.le_refl _) _
    have hnf := heap_alloc_new w9 (.cells #[.int .i64 8, .int .i64 3, .string ⟨#[120]⟩, .nilIface] 44)
    have hzf : (w9.alloc (.cells #[.int .i64 8, .int .i64 3, .string ⟨#[120]⟩, .nilIface] 44)).heap.size = w9.heap.size + 1 := by simp
    obtain ⟨w10, hw10⟩ : ∃ w10, w9.alloc (.cells #[.int .i64 8, .int .i64 3, .string ⟨#[120]⟩, .nilIface] 44) = w10 := ⟨_, rfl⟩
    rw [hw10] at hal1 hnf hzf
    have HX10 := Lib.hid hw10
    have HW10 := Lib.hid (HW9.out.trans (hal1.mono hs9))
    have hs10 := HW10.out.size
    have HNF := Lib.hid hnf
    have hl910 : w9.heap.size < w10.heap.size := by omega
    clear hal1 hnf hw10 hzf
    go_upto_region 8 with (fail)
    rw [HX10.out]
    have hal2 : Below w10.heap.size w10 (w10.alloc (.cells #[.int .i64 8, .int .i64 3, .string ⟨#[120]⟩] 32)) := (Below.refl _ _).alloc (Nat.le_refl _) _
    have hnl2 := heap_alloc_new w10 (.cells #[.int .i64 8, .int .i64 3, .string ⟨#[120]⟩] 32)
    have hown10 : (w10.alloc (.cells #[.int .i64 8, .int .i64 3, .string ⟨#[120]⟩] 32)).ownsRow w10.heap.size 32 3 (.slice (some ⟨w10.heap.size, 0, none⟩) 1 1) 1 [.int .i64 8, .int .i64 3, .string ⟨#[120]⟩] :=
      ⟨rfl, .inr ⟨w10.heap.size, 1, _, rfl, Nat.le_refl _, hnl2, Nat.le_refl _, by decide, rfl, rfl⟩⟩
    have HO10 := Lib.hid hown10
    have HS10 := Lib.hid ((HS3.out.belowN HW10.out (Nat.le_refl _) hs10).belowN hal2 (Nat.le_refl _) hal2.size)
    have HAL2 := Lib.hid hal2
    have hs102 : w10.heap.size ≤ (w10.alloc (.cells #[.int .i64 8, .int .i64 3, .string ⟨#[120]⟩] 32)).heap.size := hal2.size
    clear hal2 hnl2 hown10
    go_upto_region 9 with (at_builtin; refine wpList_appendSl _ rfl _ _ _ rfl w10.heap.size 32 j0 _ 3 32 Tryd.underlying22 hj0 hy0 hy1 hy2 rfl (by omega) _ 1 _ rfl HO10.out _ A2 m c2 (F.fl l) rfl (by rw [F.fl_len, HM.out]; omega) HS10.out (F.fl_one l) (by simp only [maxLen]; omega) (by omega) hs102 ?_; intro v1 w11 hown11 hb11 _; obtain ⟨A11, c11, rfl⟩ := own_form hown11; have HO11 := Lib.hid (Sl.of_own hown11); have HB11 := Lib.hid (HAL2.out.trans hb11); clear hown11 hb11)
    have hs11 := HB11.out.size
    have HW11 := Lib.hid (HW10.out.trans (HB11.out.mono hs10))
    have hs311 := HW11.out.size
    have HBw : Hid (Below w.heap.size w w11) := Lib.hid (HB3.out.trans (HW11.out.mono HB3.out.size))
    have HL11 := Lib.hid (HL3.out.next HW11.out)
    have HQ11 := Lib.hid (HQ3.out.below HW11.out (Nat.le_refl _) (Nat.le_refl _))
    have HS11 := Lib.hid (HS3.out.belowN HW11.out (Nat.le_refl _) (Nat.le_refl _))
    have hnf11 := (HB11.out.block w9.heap.size hl910).trans HNF.out
    have HNF11 := Lib.hid hnf11
    have hchF : F.Ch w11 w11.heap.size ((w9.heap.size, 8, 3, ⟨#[120]⟩) :: q) (.iface 42 (.pointer (some ⟨w9.heap.size, 0, none⟩))) := ⟨rfl, by omega, _, hnf11, HQ11.out.below (Below.refl _ _) (Nat.le_refl _) hs311⟩
    have HCF := Lib.hid hchF
    have HTX : Hid (F.lk ((w9.heap.size, 8, 3, ⟨#[120]⟩) :: q) = (8, 3, ⟨#[120]⟩) :: l) := Lib.hid (by rw [← HLK.out]; rfl)
    have hokx : F.okL ((8, 3, ⟨#[120]⟩) :: l) := by
      intro x hx
      rcases List.mem_cons.1 hx with rfl | hx
      · exact ⟨by decide, by decide, by decide⟩
      · exact HOK.out x hx
    have HOKX := Lib.hid hokx
    clear hnf11 hchF hokx
    go_wp2_with fail
    refine (F.text_any w3.heap.size q _ _ HL11.out hs311 HQ11.out (by omega) HOKQ.out).mono ?_
    rw [HLK.out]
    rintro e w12 ⟨rfl, hb12⟩
    have HV12 := Lib.hid hb12
    have hs12 := hb12.size
    clear hb12
    go_wp2_with fail
    refine (F.rtext_any A2 c2 m w3.heap.size l _ HM.out (by omega) (by omega) (HS11.out.belowN HV12.out (by omega) (Nat.le_refl _)) HOK.out).mono ?_
    rintro e w13 ⟨rfl, hb13⟩
    have HV13 := Lib.hid (HV12.out.trans (hb13.mono hs12))
    have hs13 := HV13.out.size
    clear hb13
    obtain ⟨T, hT⟩ : ∃ T, F.text l = T := ⟨_, rfl⟩
    rw [hT]
    have HT := Lib.hid hT
    clear hT
    have HL13 := Lib.hid (HL11.out.next HV13.out)
    go_wp2_with fail
    refine (F.error_any w11.heap.size w9.heap.size _ _ HL13.out hs13 (HCF.out.below HV13.out (Nat.le_refl _) (Nat.le_refl _)) (by simp; omega) (by rw [HTX.out]; exact HOKX.out)).mono ?_
    rw [HTX.out]
    rintro e w14 ⟨rfl, hb14⟩
    have HV14 := Lib.hid (HV13.out.trans (hb14.mono hs13))
    have hs14 := HV14.out.size
    clear hb14
    go_wp2_with fail
    refine (F.rtext_any A11 c11 (1 + m) w11.heap.size ((8, 3, ⟨#[120]⟩) :: l) _ (by rw [List.length_cons, HM.out]; omega) (by omega) hs14 (HO11.out.belowN HV14.out (Nat.le_refl _) (Nat.le_refl _)) HOKX.out).mono ?_
    rintro e w15 ⟨rfl, hb15⟩
    have HV15 := Lib.hid (HV14.out.trans (hb15.mono hs14))
    have hs15 := HV15.out.size
    clear hb15
    obtain ⟨T2, hT2⟩ : ∃ T2, F.text ((8, 3, ⟨#[120]⟩) :: l) = T2 := ⟨_, rfl⟩
    rw [hT2]
    clear hT2
    go_wp2_with fail
    refine (F.unwrapM_any w9.heap.size 8 3 ⟨#[120]⟩ (.nilIface) _ ((HV15.out.block w9.heap.size (by omega)).trans HNF11.out)).mono ?_
    rintro e w' ⟨rfl, rfl⟩
    have HL15 := Lib.hid (HL11.out.next HV15.out)
    go_wp2_with fail
    refine (F.text_any w3.heap.size q _ _ HL15.out (by omega) (HQ11.out.below HV15.out hs311 (Nat.le_refl _)) (by omega) HOKQ.out).mono ?_
    rw [HLK.out, HT.out]
    rintro e w16 ⟨rfl, hb16⟩
    have HV16 := Lib.hid (HV15.out.trans (hb16.mono hs15))
    have hs16 := HV16.out.size
    clear hb16
    go_wp2_with fail
    refine (F.rtext_any A2 c2 m w3.heap.size l _ HM.out (by omega) (by omega) (HS11.out.belowN HV16.out (by omega) (Nat.le_refl _)) HOK.out).mono ?_
    rw [HT.out]
    rintro e w17 ⟨rfl, hb17⟩
    go_wp2
    go_ret
    exact ⟨rfl, HBw.out.trans ((HV16.out.trans (hb17.mono hs16)).mono HBw.out.size)⟩
  · have hal1 : Below w9.heap.size w9 (w9.alloc (.cells #[.int .i64 8, .int .i64 3, .string ⟨#[120]⟩, .iface 42 (.pointer (some ⟨b0, 0, none⟩))] 44)) := (Below.refl _ _).alloc (Nat.le_refl _) _
    have hnf := heap_alloc_new w9 (.cells #[.int .i64 8, .int .i64 3, .string ⟨#[120]⟩, .iface 42 (.pointer (some ⟨b0, 0, none⟩))] 44)
    have hzf : (w9.alloc (.cells #[.int .i64 8, .int .i64 3, .string ⟨#[120]⟩, .iface 42 (.pointer (some ⟨b0, 0, none⟩))] 44)).heap.size = w9.heap.size + 1 := by simp
    obtain ⟨w10, hw10⟩ : ∃ w10, w9.alloc (.cells #[.int .i64 8, .int .i64 3, .string ⟨#[120]⟩, .iface 42 (.pointer (some ⟨b0, 0, none⟩))] 44) = w10 := ⟨_, rfl⟩
    rw [hw10] at hal1 hnf hzf
    have HX10 := Lib.hid hw10
    have HW10 := Lib.hid (HW9.out.trans (hal1.mono hs9))
    have hs10 := HW10.out.size
    have HNF := Lib.hid hnf
    have hl910 : w9.heap.size < w10.heap.size := by omega
    clear hal1 hnf hw10 hzf
    go_upto_region 8 with (fail)
    rw [HX10.out]
    have hal2 : Below w10.heap.size w10 (w10.alloc (.cells #[.int .i64 8, .int .i64 3, .string ⟨#[120]⟩] 32)) := (Below.refl _ _).alloc (Nat.le_refl _) _
    have hnl2 := heap_alloc_new w10 (.cells #[.int .i64 8, .int .i64 3, .string ⟨#[120]⟩] 32)
    have hown10 : (w10.alloc (.cells #[.int .i64 8, .int .i64 3, .string ⟨#[120]⟩] 32)).ownsRow w10.heap.size 32 3 (.slice (some ⟨w10.heap.size, 0, none⟩) 1 1) 1 [.int .i64 8, .int .i64 3, .string ⟨#[120]⟩] :=
      ⟨rfl, .inr ⟨w10.heap.size, 1, _, rfl, Nat.le_refl _, hnl2, Nat.le_refl _, by decide, rfl, rfl⟩⟩
    have HO10 := Lib.hid hown10
    have HS10 := Lib.hid ((HS3.out.belowN HW10.out (Nat.le_refl _) hs10).belowN hal2 (Nat.le_refl _) hal2.size)
    have HAL2 := Lib.hid hal2
    have hs102 : w10.heap.size ≤ (w10.alloc (.cells #[.int .i64 8, .int .i64 3, .string ⟨#[120]⟩] 32)).heap.size := hal2.size
    clear hal2 hnl2 hown10
    go_upto_region 9 with (at_builtin; refine wpList_appendSl _ rfl _ _ _ rfl w10.heap.size 32 j0 _ 3 32 Tryd.underlying22 hj0 hy0 hy1 hy2 rfl (by omega) _ 1 _ rfl HO10.out _ A2 m c2 (F.fl l) rfl (by rw [F.fl_len, HM.out]; omega) HS10.out (F.fl_one l) (by simp only [maxLen]; omega) (by omega) hs102 ?_; intro v1 w11 hown11 hb11 _; obtain ⟨A11, c11, rfl⟩ := own_form hown11; have HO11 := Lib.hid (Sl.of_own hown11); have HB11 := Lib.hid (HAL2.out.trans hb11); clear hown11 hb11)
    have hs11 := HB11.out.size
    have HW11 := Lib.hid (HW10.out.trans (HB11.out.mono hs10))
    have hs311 := HW11.out.size
    have HBw : Hid (Below w.heap.size w w11) := Lib.hid (HB3.out.trans (HW11.out.mono HB3.out.size))
    have HL11 := Lib.hid (HL3.out.next HW11.out)
    have HQ11 := Lib.hid (HQ3.out.below HW11.out (Nat.le_refl _) (Nat.le_refl _))
    have HS11 := Lib.hid (HS3.out.belowN HW11.out (Nat.le_refl _) (Nat.le_refl _))
    have hnf11 := (HB11.out.block w9.heap.size hl910).trans HNF.out
    have HNF11 := Lib.hid hnf11
    have hchF : F.Ch w11 w11.heap.size ((w9.heap.size, 8, 3, ⟨#[120]⟩) :: q) (.iface 42 (.pointer (some ⟨w9.heap.size, 0, none⟩))) := ⟨rfl, by omega, _, hnf11, HQ11.out.below (Below.refl _ _) (Nat.le_refl _) hs311⟩
    have HCF := Lib.hid hchF
    have HTX : Hid (F.lk ((w9.heap.size, 8, 3, ⟨#[120]⟩) :: q) = (8, 3, ⟨#[120]⟩) :: l) := Lib.hid (by rw [← HLK.out]; rfl)
    have hokx : F.okL ((8, 3, ⟨#[120]⟩) :: l) := by
      intro x hx
      rcases List.mem_cons.1 hx with rfl | hx
      · exact ⟨by decide, by decide, by decide⟩
      · exact HOK.out x hx
    have HOKX := Lib.hid hokx
    clear hnf11 hchF hokx
    go_wp2_with fail
    refine (F.text_any w3.heap.size q _ _ HL11.out hs311 HQ11.out (by omega) HOKQ.out).mono ?_
    rw [HLK.out]
    rintro e w12 ⟨rfl, hb12⟩
    have HV12 := Lib.hid hb12
    have hs12 := hb12.size
    clear hb12
    go_wp2_with fail
    refine (F.rtext_any A2 c2 m w3.heap.size l _ HM.out (by omega) (by omega) (HS11.out.belowN HV12.out (by omega) (Nat.le_refl _)) HOK.out).mono ?_
    rintro e w13 ⟨rfl, hb13⟩
    have HV13 := Lib.hid (HV12.out.trans (hb13.mono hs12))
    have hs13 := HV13.out.size
    clear hb13
    obtain ⟨T, hT⟩ : ∃ T, F.text l = T := ⟨_, rfl⟩
    rw [hT]
    have HT := Lib.hid hT
    clear hT
    have HL13 := Lib.hid (HL11.out.next HV13.out)
    go_wp2_with fail
    refine (F.error_any w11.heap.size w9.heap.size _ _ HL13.out hs13 (HCF.out.below HV13.out (Nat.le_refl _) (Nat.le_refl _)) (by simp; omega) (by rw [HTX.out]; exact HOKX.out)).mono ?_
    rw [HTX.out]
    rintro e w14 ⟨rfl, hb14⟩
    have HV14 := Lib.hid (HV13.out.trans (hb14.mono hs13))
    have hs14 := HV14.out.size
    clear hb14
    go_wp2_with fail
    refine (F.rtext_any A11 c11 (1 + m) w11.heap.size ((8, 3, ⟨#[120]⟩) :: l) _ (by rw [List.length_cons, HM.out]; omega) (by omega) hs14 (HO11.out.belowN HV14.out (Nat.le_refl _) (Nat.le_refl _)) HOKX.out).mono ?_
    rintro e w15 ⟨rfl, hb15⟩
    have HV15 := Lib.hid (HV14.out.trans (hb15.mono hs14))
    have hs15 := HV15.out.size
    clear hb15
    obtain ⟨T2, hT2⟩ : ∃ T2, F.text ((8, 3, ⟨#[120]⟩) :: l) = T2 := ⟨_, rfl⟩
    rw [hT2]
    clear hT2
    go_wp2_with fail
    refine (F.unwrapM_any w9.heap.size 8 3 ⟨#[120]⟩ (.iface 42 (.pointer (some ⟨b0, 0, none⟩))) _ ((HV15.out.block w9.heap.size (by omega)).trans HNF11.out)).mono ?_
    rintro e w' ⟨rfl, rfl⟩
    have HL15 := Lib.hid (HL11.out.next HV15.out)
    go_wp2_with fail
    refine (F.text_any w3.heap.size q _ _ HL15.out (by omega) (HQ11.out.below HV15.out hs311 (Nat.le_refl _)) (by omega) HOKQ.out).mono ?_
    rw [HLK.out, HT.out]
    rintro e w16 ⟨rfl, hb16⟩
    have HV16 := Lib.hid (HV15.out.trans (hb16.mono hs15))
    have hs16 := HV16.out.size
    clear hb16
    go_wp2_with fail
    refine (F.rtext_any A2 c2 m w3.heap.size l _ HM.out (by omega) (by omega) (HS11.out.belowN HV16.out (by omega) (Nat.le_refl _)) HOK.out).mono ?_
    rw [HT.out]
    rintro e w17 ⟨rfl, hb17⟩
    go_wp2
    go_ret
    exact ⟨rfl, HBw.out.trans ((HV16.out.trans (hb17.mono hs16)).mono HBw.out.size)⟩

theorem F.tells_row (w : World) (a : Option Addr) (len cap : Nat) (l : List (Int × Int × ByteArray)) (h : IsLinks w a len cap l) (hL : F.Laid w) :
    Calls Tryd.prog 4 #[.slice a len cap] w fun e w' => e = .returned (.bool true) ∧ Below w.heap.size w w' :=
  F.tells_law a cap len w.heap.size l w h.1 (Nat.le_trans h.2.1 h.2.2.1) (Nat.le_refl _) h.2.2.2.1 h.2.2.2.2 hL
end Go.Proofs.YtlcjpbcdemkfeaaDoor
