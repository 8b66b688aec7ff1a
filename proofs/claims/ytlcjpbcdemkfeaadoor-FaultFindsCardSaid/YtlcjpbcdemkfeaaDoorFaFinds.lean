/- The law FaultFinds, by walking its text. -/
import Derived.Test.YtlcjpbcdemkfeaaDoorFaNew
namespace Go.Proofs.YtlcjpbcdemkfeaaDoor
open Go.RowKit Go.Stop
set_option linter.unusedSimpArgs false
set_option linter.unusedVariables false

set_option maxRecDepth 100000 in
set_option maxHeartbeats 1000000 in
theorem F.at_new (c n : Int) (s : ByteArray) (w : World) (hc : c ≠ 0) :
    Calls Tryd.prog 23 #[.int .i64 c, .int .i64 n, .string s] w fun e w' => e = .returned (.iface 42 (.pointer (some ⟨w.heap.size, 0, none⟩))) ∧ w.alloc (.cells #[.int .i64 c, .int .i64 n, .string s, .nilIface] 44) = w' := by
  go_enter Tryd.func23, Tryd.ntmps23
  go_wp2
  go_ret
  exact ⟨rfl, rfl⟩
theorem F.of_new (c : Int) (w : World) (hc : c ≠ 0) :
    Calls Tryd.prog 24 #[.int .i64 c] w fun e w' => e = .returned (.iface 42 (.pointer (some ⟨w.heap.size, 0, none⟩))) ∧ w.alloc (.cells #[.int .i64 c, .int .i64 0, .string ⟨#[]⟩, .nilIface] 44) = w' := by
  have HA := Lib.hid (F.at_new c 0 ⟨#[]⟩ w hc)
  go_enter Tryd.func24, Tryd.ntmps24
  go_wp2_with fail
  refine HA.out.mono ?_
  rintro e w1 ⟨rfl, rfl⟩
  go_wp2
  go_ret
  exact ⟨rfl, rfl⟩
theorem F.of_ex (c : Int) (w : World) (hc : c ≠ 0) :
    Calls Tryd.prog 24 #[.int .i64 c] w fun e w' => ∃ bt, e = .returned (.iface 42 (.pointer (some ⟨bt, 0, none⟩))) ∧ w'.heap[bt]? = some (.cells #[.int .i64 c, .int .i64 0, .string ⟨#[]⟩, .nilIface] 44 (0, 0)) ∧ w.heap.size ≤ bt ∧ Below w.heap.size w w' := by
  refine (F.of_new c w hc).mono ?_
  rintro e w' ⟨rfl, rfl⟩
  exact ⟨_, rfl, heap_alloc_new w _, Nat.le_refl _, (Below.refl _ _).alloc (Nat.le_refl _) _⟩
theorem F.at_ex (c n : Int) (s : ByteArray) (w : World) (hc : c ≠ 0) :
    Calls Tryd.prog 23 #[.int .i64 c, .int .i64 n, .string s] w fun e w' => ∃ bt, e = .returned (.iface 42 (.pointer (some ⟨bt, 0, none⟩))) ∧ w'.heap[bt]? = some (.cells #[.int .i64 c, .int .i64 n, .string s, .nilIface] 44 (0, 0)) ∧ w.heap.size ≤ bt ∧ Below w.heap.size w w' := by
  refine (F.at_new c n s w hc).mono ?_
  rintro e w' ⟨rfl, rfl⟩
  exact ⟨_, rfl, heap_alloc_new w _, Nat.le_refl _, (Below.refl _ _).alloc (Nat.le_refl _) _⟩
def F.held (bf b g o : Nat) (c n : Int) (s : ByteArray) (v : Value) (w' : World) : Prop :=
  w'.cell? ⟨bf, 0, none⟩ = some (.pointer (some ⟨b, 0, none⟩)) ∧ w'.heap[b]? = some (.cells #[.int .i64 c, .int .i64 n, .string s, v] 44 (0, 0))
theorem F.keepF {W w' : World} {bf b g o : Nat} {x1 x2 x3 x4 y1 y2 y3 : Value} {cs : Array Value} {B : Nat}
    (h1 : W.cell? ⟨bf, 0, none⟩ = some x1) (h2 : W.cell? ⟨b, 0, none⟩ = some x2) (h3 : W.cell? ⟨b, 1, none⟩ = some x3) (h4 : W.cell? ⟨b, 2, none⟩ = some x4)
    (i1 : W.cell? ⟨g, o, none⟩ = some y1) (i2 : W.cell? ⟨g, o + 1, none⟩ = some y2) (i3 : W.cell? ⟨g, o + 2, none⟩ = some y3) (hb : W.heap[b]? = some (.cells cs 44 (0, 0)))
    (l1 : bf < B) (l2 : b < B) (l3 : g < B) (h : Below B W w') :
    w'.cell? ⟨bf, 0, none⟩ = some x1 ∧ w'.cell? ⟨b, 0, none⟩ = some x2 ∧ w'.cell? ⟨b, 1, none⟩ = some x3 ∧ w'.cell? ⟨b, 2, none⟩ = some x4 ∧ w'.cell? ⟨g, o, none⟩ = some y1 ∧ w'.cell? ⟨g, o + 1, none⟩ = some y2 ∧ w'.cell? ⟨g, o + 2, none⟩ = some y3 ∧ w'.heap[b]? = some (.cells cs 44 (0, 0)) ∧ Below B W w' :=
  ⟨((bcell h).1 _ _ l1).trans h1, ((bcell h).1 _ _ l2).trans h2, ((bcell h).1 _ _ l2).trans h3, ((bcell h).1 _ _ l2).trans h4, ((bcell h).1 _ _ l3).trans i1, ((bcell h).1 _ _ l3).trans i2, ((bcell h).1 _ _ l3).trans i3, (h.block b l2).trans hb, h⟩
theorem F.ninth {P1 P2 P3 P4 P5 P6 P7 P8 : Prop} {W w' : World} {B : Nat} (h : P1 ∧ P2 ∧ P3 ∧ P4 ∧ P5 ∧ P6 ∧ P7 ∧ P8 ∧ Below B W w') : Below B W w' := h.2.2.2.2.2.2.2.2
theorem F.eighth {P1 P2 P3 P4 P5 P6 P7 P8 P9 : Prop} (h : P1 ∧ P2 ∧ P3 ∧ P4 ∧ P5 ∧ P6 ∧ P7 ∧ P8 ∧ P9) : P8 := h.2.2.2.2.2.2.2.1
theorem F.any_lk (q : List (Nat × Int × Int × ByteArray)) (c : Int) : (q.any fun x => x.2.1 == c) = (F.lk q).any fun x => x.1 == c := by
  unfold F.lk; rw [List.any_map]; rfl

set_option maxRecDepth 100000 in
set_option maxHeartbeats 8000000 in
theorem F.finds_law (A : Option Addr) (cap N B : Nat) (l0 : List (Int × Int × ByteArray)) (c0 : Int) (w : World) (hl : l0.length = N) (hN : N ≤ maxLen) (hB : B ≤ w.heap.size) (hA : Sl w B A (F.fl l0))
    (hwf : ∀ x ∈ l0, (-9223372036854775808 ≤ x.1 ∧ x.1 ≤ 9223372036854775807) ∧ (-9223372036854775808 ≤ x.2.1 ∧ x.2.1 ≤ 9223372036854775807) ∧ x.2.2.size ≤ maxLen) (hc1 : -9223372036854775808 ≤ c0) (hc2 : c0 ≤ 9223372036854775807) (hL : F.Laid w) :
    Calls Tryd.prog 7 #[.slice A N cap, .int .i64 c0] w fun e w' => e = .returned (.bool true) ∧ Below w.heap.size w w' := by
  have HAW := Lib.hid (F.awake_any w hL)
  have HFEW := Lib.hid (fun w' hB' hA' => F.few_any A cap N B l0 w' hl hN hB' hA' hwf)
  have HA := Lib.hid hA
  have HL := Lib.hid hL
  have HMOD := Lib.hid (F.mod16 c0 hc1 hc2)
  clear hl hN hA hwf hL hc1 hc2
  go_enter Tryd.func7, Tryd.ntmps7
  go_wp2_with fail
  refine HAW.out.mono ?_
  rintro e w1 ⟨rfl, hb1⟩
  have HL1 := Lib.hid (HL.out.next hb1)
  have HA1 := Lib.hid (HA.out.belowN hb1 hB (Nat.le_refl _))
  have HB1 := Lib.hid hb1
  have hs1 := hb1.size
  clear hb1
  go_wp2_with fail
  refine (HFEW.out _ (by omega) HA1.out).mono ?_
  rintro e w2 ⟨A2, c2, l, rfl, hl12, hokf, hS2, hb2⟩
  obtain ⟨m, hm⟩ : ∃ m, l.length = m := ⟨_, rfl⟩
  rw [hm] at hl12 ⊢
  have HM := Lib.hid hm
  have HOK := Lib.hid hokf
  have HS2 := Lib.hid hS2
  have hs2 := hb2.size
  have HL2 := Lib.hid (HL1.out.next hb2)
  have HB2 : Hid (Below w.heap.size w w2) := Lib.hid (HB1.out.trans (hb2.mono hs1))
  clear hm hokf hS2 hb2 HAW HFEW HA HA1 HL1 HB1
  go_wp2_with fail
  refine (F.mkchain_any A2 c2 m w2.heap.size l _ HM.out (by omega) (Nat.le_refl _) HS2.out).mono ?_
  rintro e w3 ⟨q, v, rfl, hlk, hch, hb3⟩
  have HLK := Lib.hid hlk
  have hql : q.length ≤ 12 := by rw [F.lk_len' hlk, HM.out]; exact hl12
  have HQ3 := Lib.hid hch
  have HS3 := Lib.hid (HS2.out.belowN hb3 (Nat.le_refl _) hb3.size)
  have HL3 := Lib.hid (HL2.out.next hb3)
  have HB3 : Hid (Below w.heap.size w w3) := Lib.hid (HB2.out.trans (hb3.mono HB2.out.size))
  clear hlk hch hb3 HS2 HL2 HB2
  go_upto_region 6 with (fail)
  obtain ⟨c1, hc1e⟩ : ∃ c1, (wrap64 (1 + (wrap64 (c0.tmod 16 + 16)).tmod 16)) = c1 := ⟨_, rfl⟩
  rw [hc1e] at HMOD
  obtain ⟨k1, k2⟩ := HMOD.out
  rw [hc1e]
  clear hc1e
  go_wp2
  go_loopw [6, 23] (fun vh vi wr => ∃ i : Nat, i ≤ m ∧ vi = .int .i64 i ∧ vh = .bool ((l.take i).any fun x => x.1 == c1) ∧ Below w3.heap.size w3 wr) (fun _ vi _ => m - (intOf vi).toNat)
  case atStart => exact ⟨0, by omega, rfl, rfl, Below.refl _ _⟩
  case round =>
    obtain ⟨i, hi, rfl, hvh, hbr⟩ := hrel
    obtain ⟨h, hh⟩ : ∃ h, ((l.take i).any fun x => x.1 == c1) = h := ⟨_, rfl⟩
    rw [hh] at hvh
    subst hvh
    obtain ⟨w4, rfl⟩ : ∃ w4 : World, w4 = wr := ⟨_, rfl⟩
    have hs4 := hbr.size
    have HBR := Lib.hid hbr
    have HH := Lib.hid hh
    clear hbr hh
    by_cases hlt : (i : Int) < m
    · obtain ⟨⟨c, n, s⟩, hx⟩ : ∃ x, l[i]? = some x := ⟨_, List.getElem?_eq_getElem (by rw [HM.out]; omega)⟩
      have htk : ((l.take (i + 1)).any fun x => x.1 == c1) = (h || (c == c1)) := by rw [List.take_add_one, hx, List.any_append, HH.out]; simp
      obtain ⟨b, o, rfl, hb, d0, d1, d2⟩ := F.link HS3.out hx
      rw [← (bcell HBR.out).1 _ _ hb] at d0 d1 d2
      have n0 : (0 : Int) ≤ (i : Int) := by omega
      have HT := Lib.hid htk
      have HAL := Lib.hid (HBR.out.alloc hs4 (.cells #[.int .i64 c, .int .i64 n, .string s] 32))
      clear hx htk
      rcases h with _ | _
      · go_wp2
        exact ⟨⟨i + 1, by omega, by go_num, by rw [HT.out]; rfl, HAL.out⟩, by simp [intOf]; omega⟩
      · go_wp2
        exact ⟨⟨i + 1, by omega, by go_num, by rw [HT.out]; rfl, HAL.out⟩, by simp [intOf]; omega⟩
    · obtain rfl : i = m := by omega
      have hany : (q.any fun x => x.2.1 == c1) = h := by rw [F.any_lk, HLK.out, ← HH.out, List.take_of_length_le (by rw [HM.out]; exact Nat.le_refl _)]
      have HANY := Lib.hid hany
      clear hany
      have HQ4 := Lib.hid (HQ3.out.below HBR.out (Nat.le_refl _) (Nat.le_refl _))
      have HS4 := Lib.hid (HS3.out.belowN HBR.out (Nat.le_refl _) (Nat.le_refl _))
      have HL4 := Lib.hid (HL3.out.next HBR.out)
      have HB4 : Hid (Below w.heap.size w w4) := Lib.hid (HB3.out.trans (HBR.out.mono HB3.out.size))
      have hcne : c1 ≠ 0 := by omega
      have hhh : (h != h) = false := by cases h <;> rfl
      have hs04 := HB4.out.size
      clear HQ3 HS3 HL3 HB3 HBR
      go_wp2_with fail
      refine (F.of_ex c1 _ hcne).mono ?_
      rintro e w5 ⟨bt, rfl, hbt, hge, hb5⟩
      have HBT := Lib.hid hbt
      have HV5 := Lib.hid hb5
      have hs5 := hb5.size
      clear hbt hb5
      go_wp2_with fail
      refine (F.Is_any (fun c => c == c1) w3.heap.size bt c1 0 ⟨#[]⟩ .nilIface q v _ (by omega) (HQ4.out.below HV5.out hs4 (Nat.le_refl _)) HBT.out (fun b c n s v' w' hb ht => F.fis_bare b bt c c1 n s v' w' hb ht)).mono ?_
      rw [HANY.out]
      rintro e w6 ⟨rfl, hb6⟩
      have HV6 := Lib.hid (HV5.out.trans (hb6.mono hs5))
      have hs6 := HV6.out.size
      clear hb6
      go_wp2_with fail
      refine (F.at_ex c1 4 ⟨#[101, 108, 115, 101, 119, 104, 101, 114, 101]⟩ _ hcne).mono ?_
      rintro e w7 ⟨bt2, rfl, hbt2, hge2, hb7⟩
      have HBT2 := Lib.hid hbt2
      have HV7 := Lib.hid (HV6.out.trans (hb7.mono hs6))
      have hs7 := HV7.out.size
      clear hbt2 hb7
      go_wp2_with fail
      refine (F.Is_any (fun _ => false) w3.heap.size bt2 c1 4 _ .nilIface q v _ (by omega) (HQ4.out.below HV7.out hs4 (Nat.le_refl _)) HBT2.out (fun b c n s v' w' hb ht => F.fis_not b bt2 c c1 n 4 s _ v' _ w' (by decide) hb ht)).mono ?_
      rw [show (q.any fun x => (fun (_ : Int) => false) x.2.1) = false by simp]
      rintro e w8 ⟨rfl, hb8⟩
      have HV8 := Lib.hid (HV7.out.trans (hb8.mono hs7))
      have hs8 := HV8.out.size
      have hal : Below w8.heap.size w8 (w8.alloc (.cells #[.pointer none] 42)) := (Below.refl _ _).alloc (Nat.le_refl _) _
      have hn := heap_alloc_new w8 (.cells #[.pointer none] 42)
      have hz9 : (w8.alloc (.cells #[.pointer none] 42)).heap.size = w8.heap.size + 1 := by simp
      obtain ⟨w9, hw9⟩ : ∃ w9, w8.alloc (.cells #[.pointer none] 42) = w9 := ⟨_, rfl⟩
      rw [hw9] at hal hn hz9
      obtain ⟨p0, f0⟩ := blk_cell hn 0
      simp only [List.getElem?_toArray, List.getElem?_cons_zero] at p0
      have HV9 := Lib.hid (HV8.out.trans (hal.mono hs8))
      have HX9 := Lib.hid hw9
      have hs9 := HV9.out.size
      have hl89 : w8.heap.size < w9.heap.size := by omega
      have HL9 := Lib.hid (HL4.out.next HV9.out)
      have HQ9 := Lib.hid (HQ4.out.below HV9.out hs4 (Nat.le_refl _))
      have HS9 := Lib.hid (HS4.out.belowN HV9.out hs4 (Nat.le_refl _))
      have HB9 : Hid (Below w.heap.size w w9) := Lib.hid (HB4.out.trans (HV9.out.mono HB4.out.size))
      clear hb8 hal hn hz9 hw9 HQ4 HS4 HL4 HB4 HBT HBT2 HV5 HV6 HV7 HV8
      go_upto_region 15 with (fail)
      rw [HX9.out]
      rcases hq0 : q with _ | ⟨⟨b, c, n, s⟩, t⟩
      · have hl0 : l = [] := by rw [← HLK.out, hq0]; rfl
        have hm0 : i = 0 := by rw [← HM.out, hl0]; rfl
        subst hm0
        have hv := HQ9.out
        rw [hq0] at hv
        obtain rfl : v = .nilIface := hv
        clear hq0 hl0
        go_wp2_with fail
        refine (F.as_nil _ _).mono ?_
        rintro e w' ⟨rfl, rfl⟩
        go_wp2_with fail
        refine (F.new_any ⟨#[120]⟩ _).mono ?_
        rintro e w10 ⟨b1, rfl, hb10⟩
        have HW10 := Lib.hid hb10
        clear hb10
        go_wp2_with fail
        refine (F.code_new b1 _ (HL9.out.next HW10.out)).mono ?_
        rintro e w11 ⟨rfl, hb11⟩
        have HW11 := Lib.hid (HW10.out.trans (hb11.mono HW10.out.size))
        clear hb11
        go_wp2_with fail
        refine (F.new_any ⟨#[120]⟩ _).mono ?_
        rintro e w12 ⟨b2, rfl, hb12⟩
        have HW12 := Lib.hid (HW11.out.trans (hb12.mono HW11.out.size))
        clear hb12
        go_wp2_with fail
        refine (F.line_new b2 _).mono ?_
        rintro e w13 ⟨rfl, hb13⟩
        have HW13 := Lib.hid (HW12.out.trans (hb13.mono HW12.out.size))
        clear hb13
        go_wp2_with fail
        refine (F.new_any ⟨#[120]⟩ _).mono ?_
        rintro e w14 ⟨b3, rfl, hb14⟩
        have HW14 := Lib.hid (HW13.out.trans (hb14.mono HW13.out.size))
        clear hb14
        go_wp2_with fail
        refine (F.notes_new b3 _).mono ?_
        rintro e w15 ⟨rfl, hb15⟩
        have HW15 := Lib.hid (HW14.out.trans (hb15.mono HW14.out.size))
        clear hb15
        go_wp2
        go_ret
        exact ⟨rfl, HB9.out.trans (HW15.out.mono HB9.out.size)⟩
      · have hl0 : l = (c, n, s) :: F.lk t := by rw [← HLK.out, hq0]; rfl
        have hmI : (i : Int) > 0 := by rw [← HM.out, hl0, List.length_cons]; omega
        have hmI2 : ¬ (i : Int) = 0 := by omega
        have hmN : 0 < i := by omega
        have hmB : ((i : Int) == 0) = false := by simpa using hmI2
        have hcr := (HOK.out (c, n, s) (by rw [hl0]; simp)).1
        have hcn : c ≠ 0 := by simp only at hcr; omega
        have HCN := Lib.hid hcn
        have hv := HQ9.out
        rw [hq0] at hv
        obtain ⟨rfl, hb, ev, hbl, _⟩ := hv
        obtain ⟨g, o, rfl, hg, i1, i2, i3⟩ := F.link HS9.out (i := 0) (c := c) (n := n) (s := s) (by rw [hl0]; rfl)
        simp only [Nat.zero_mul, Nat.add_zero] at i1 i2 i3
        have HBL := Lib.hid hbl
        clear hq0 hl0 hcr hcn hbl
        go_wp2_with fail
        refine (F.as_hit' ⟨b, 0, none⟩ ⟨w8.heap.size, 0, none⟩ (.pointer none) _ HL9.out p0 f0).mono ?_
        rintro e w10 ⟨rfl, hp, hb10'⟩
        have hb10 : Below w8.heap.size w9 w10 := hb10'
        clear hb10'
        have hbl10 := (hb10.block b (by omega)).trans HBL.out
        rw [← (bcell hb10).1 _ _ (by omega)] at i1 i2 i3
        obtain ⟨d0, _⟩ := blk_cell hbl10 0
        obtain ⟨d1, _⟩ := blk_cell hbl10 1
        obtain ⟨d2, _⟩ := blk_cell hbl10 2
        simp only [List.getElem?_toArray, List.getElem?_cons_zero, List.getElem?_cons_succ] at d0 d1 d2
        have hs10 := hb10.size
        have hk1 : w8.heap.size < w10.heap.size := by omega
        have hk2 : b < w10.heap.size := by omega
        have hk3 : g < w10.heap.size := by omega
        have hxx : Below w10.heap.size w10 w10 := Below.refl _ _
        have HBL10 := Lib.hid hbl10
        have HB10 : Hid (Below w.heap.size w w10) := Lib.hid (HB9.out.trans (hb10.mono (by omega)))
        have hcc : (c == c) = true := by simp
        clear hb10 hbl10 p0 f0
        go_wp2_with fail
        go_region_held3 (fun w' => w'.cell? ⟨w8.heap.size, 0, none⟩ = some (.pointer (some ⟨b, 0, none⟩)) ∧ w'.cell? ⟨b, 0, none⟩ = some (.int .i64 c) ∧ w'.cell? ⟨b, 1, none⟩ = some (.int .i64 n) ∧ w'.cell? ⟨b, 2, none⟩ = some (.string s) ∧ w'.cell? ⟨g, o, none⟩ = some (.int .i64 c) ∧ w'.cell? ⟨g, o + 1, none⟩ = some (.int .i64 n) ∧ w'.cell? ⟨g, o + 2, none⟩ = some (.string s) ∧ w'.heap[b]? = some (.cells #[.int .i64 c, .int .i64 n, .string s, ev] 44 (0, 0)) ∧ Below w10.heap.size w10 w')
          (first
            | exact F.keepF hp d0 d1 d2 i1 i2 i3 HBL10.out hk1 hk2 hk3 hxx
            | exact F.keepF hp d0 d1 d2 i1 i2 i3 HBL10.out hk1 hk2 hk3 hxx.drew
            | exact F.keepF hp d0 d1 d2 i1 i2 i3 HBL10.out hk1 hk2 hk3 hbz9
            | fail)
          (first
            | (go_at_call 24; refine (F.of_ex c _ HCN.out).mono ?_; rintro e wo ⟨bo, rfl, hbo, _, hbc⟩; have HBO := Lib.hid hbo; clear hbo; have hbz9 := (F.ninth (W := w10) (by assumption)).trans (hbc.mono (F.ninth (W := w10) (by assumption)).size))
            | (go_at_call 29; refine (F.new_any ⟨#[120]⟩ _).mono ?_; rintro e wn ⟨bn, rfl, hbc⟩; have hbz9 := (F.ninth (W := w10) (by assumption)).trans (hbc.mono (F.ninth (W := w10) (by assumption)).size))
            | (go_at_call 30; (with_reducible refine (F.fis_bare b bo c c n s ev _ (F.eighth (by assumption)) HBO.out).mono ?_); rw [hcc]; rintro e wi ⟨rfl, hbc⟩; have hbz9 := (F.ninth (W := w10) (by assumption)).trans (hbc.mono (F.ninth (W := w10) (by assumption)).size))
            | (go_at_call 30; (with_reducible refine (F.fis_new b _ _).mono ?_); rintro e wi ⟨rfl, hbc⟩; have hbz9 := (F.ninth (W := w10) (by assumption)).trans (hbc.mono (F.ninth (W := w10) (by assumption)).size))
            | fail)
        all_goals
          go_wp2_with fail
          go_ret
          exact ⟨rfl, HB10.out.trans (hbz9.mono (by have := HB10.out.size; omega))⟩

theorem F.finds_row (w : World) (a : Option Addr) (len cap : Nat) (l : List (Int × Int × ByteArray)) (h : IsLinks w a len cap l) (c : Int) (h1 : -9223372036854775808 ≤ c) (h2 : c ≤ 9223372036854775807) (hL : F.Laid w) :
    Calls Tryd.prog 7 #[.slice a len cap, .int .i64 c] w fun e w' => e = .returned (.bool true) ∧ Below w.heap.size w w' :=
  F.finds_law a cap len w.heap.size l c w h.1 (Nat.le_trans h.2.1 h.2.2.1) (Nat.le_refl _) h.2.2.2.1 h.2.2.2.2 h1 h2 hL
end Go.Proofs.YtlcjpbcdemkfeaaDoor
