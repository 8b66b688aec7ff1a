/- The law CedillaChars, by walking its text. -/
import Derived.Test.YtgfkcbckddpbaaaDoorTopCharsPlain
import Derived.Test.YtgfkcbckddpbaaaDoorCpChars
import Derived.Test.YtgfkcbckddpbaaaDoorCpSame
import Derived.Test.YtgfkcbckddpbaaaDoorCpOf
import Derived.Test.YtgfkcbckddpbaaaDoorCpXor
import Derived.Test.YtgfkcbckddpbaaaDoorUtfJ
import Derived.Deep.RegionHeld3
import Derived.Deep.DeepCutAuto
namespace Go.Proofs.YtgfkcbckddpbaaaDoor
open Go.RowKit
set_option linter.unusedSimpArgs false
set_option linter.unusedVariables false

theorem TC.dec_self {cs : List Int} (h : ∀ c ∈ cs, U.isC c = true) : U.Dec (⟨(U.encs cs).toArray⟩ : ByteArray).data.toList cs [] := ⟨by simp, h, U.nextK_nil⟩
theorem TC.keep1 {W w' : World} {B b1 : Nat} {v1 : Value} (d1 : W.cell? ⟨b1, 0, none⟩ = some v1) (h1 : b1 < B) (h : Below B W w') :
    w'.cell? ⟨b1, 0, none⟩ = some v1 ∧ Below B W w' := ⟨((bcell h).1 _ _ h1).trans d1, h⟩
theorem TC.second {P : Prop} {W w' : World} {B : Nat} (h : P ∧ Below B W w') : Below B W w' := h.2
theorem TC.keep3 {W w' : World} {B b1 b2 b3 : Nat} {v1 v2 v3 : Value} (d1 : W.cell? ⟨b1, 0, none⟩ = some v1) (d2 : W.cell? ⟨b2, 0, none⟩ = some v2) (d3 : W.cell? ⟨b3, 0, none⟩ = some v3) (h1 : b1 < B) (h2 : b2 < B) (h3 : b3 < B) (h : Below B W w') :
    w'.cell? ⟨b1, 0, none⟩ = some v1 ∧ w'.cell? ⟨b2, 0, none⟩ = some v2 ∧ w'.cell? ⟨b3, 0, none⟩ = some v3 ∧ Below B W w' :=
  ⟨((bcell h).1 _ _ h1).trans d1, ((bcell h).1 _ _ h2).trans d2, ((bcell h).1 _ _ h3).trans d3, h⟩
theorem TC.fourth {P Q R : Prop} {W w' : World} {B : Nat} (h : P ∧ Q ∧ R ∧ Below B W w') : Below B W w' := h.2.2.2

set_option maxRecDepth 100000 in
set_option maxHeartbeats 8000000 in
theorem TC.chars_walk (w : World) (A1 : Option Addr) (len1 cap1 : Nat) (z1 : List Int) (r1 : IsRow .i64 w A1 len1 cap1 z1) (bd1 : ∀ c ∈ z1, -9223372036854775808 ≤ c ∧ c ≤ 9223372036854775807)
    (A2 : Option Addr) (len2 cap2 : Nat) (z2 : List Int) (r2 : IsRow .i64 w A2 len2 cap2 z2) (bd2 : ∀ c ∈ z2, -9223372036854775808 ≤ c ∧ c ≤ 9223372036854775807) (hH : Heads w) :
    Calls Tryd.prog 4 #[.slice A1 len1 cap1, .slice A2 len2 cap2] w fun e w' => e = .returned (.bool true) ∧ Below w.heap.size w w' := by
  obtain ⟨p1, p2, p3⟩ := r1.len_le
  obtain ⟨p4, p5, p6⟩ := r2.len_le
  have hS1 := r1.sl (min len1 30) (Nat.min_le_left _ _)
  have hS2 := r2.sl (min len2 30) (Nat.min_le_left _ _)
  have hl1 : (z1.take (min len1 30)).length = min len1 30 := by rw [List.length_take]; omega
  have hl2 : (z2.take (min len2 30)).length = min len2 30 := by rw [List.length_take]; omega
  generalize z1.take (min len1 30) = l1 at *
  generalize z2.take (min len2 30) = l2 at *
  have HL1 := Lib.hid hl1
  have HL2 := Lib.hid hl2
  have hn1 : (l1.map U.charK).length ≤ 30 := by rw [List.length_map, hl1]; omega
  have hn2 : (l2.map U.charK).length ≤ 30 := by rw [List.length_map, hl2]; omega
  clear hl1 hl2 r1 r2 bd1 bd2
  have hx := U.map_charK_is l1
  have hy := U.map_charK_is l2
  obtain ⟨x, hxe⟩ : ∃ x, l1.map U.charK = x := ⟨_, rfl⟩
  obtain ⟨y, hye⟩ : ∃ y, l2.map U.charK = y := ⟨_, rfl⟩
  rw [hxe] at hx hn1
  rw [hye] at hy hn2
  obtain ⟨nx, hnx⟩ : ∃ nx, x.length = nx := ⟨_, rfl⟩
  obtain ⟨ny, hny⟩ : ∃ ny, y.length = ny := ⟨_, rfl⟩
  rw [hnx] at hn1
  rw [hny] at hn2
  have HXE := Lib.hid hxe
  have HYE := Lib.hid hye
  have HX := Lib.hid hx
  have HY := Lib.hid hy
  have HNX := Lib.hid hnx
  have HNY := Lib.hid hny
  have HS1 := Lib.hid hS1
  have HS2 := Lib.hid hS2
  have HH := Lib.hid hH
  clear hxe hye hx hy hnx hny hS1 hS2 hH
  go_enter Tryd.func4, Tryd.ntmps4
  go_wp2_with fail
  refine (U.chars_any A1 len1 cap1 _ l1 30 _ (Nat.le_refl _) HL1.out (by omega) HS1.out (Nat.le_trans p1 p2)).mono ?_
  rw [HXE.out]
  rintro e w1 ⟨A3, c3, rfl, hown1, hb1⟩
  rw [HNX.out] at hown1 ⊢
  have HX1 := Lib.hid (Sl.of_own hown1)
  have HH1 := Lib.hid (HH.out.next hb1)
  clear hown1
  go_wp2_with fail
  refine (U.encode_n A3 c3 _ x nx _ HNX.out (Nat.le_refl _) HX1.out (by omega) (U.chars_bd HX.out) HH1.out).mono ?_
  rintro e w2 ⟨rfl, hb2⟩
  rw [U.encS_of HX.out, U.encN_of HX.out]
  have HH2 := Lib.hid (HH1.out.next hb2)
  have hle := U.encs_le x
  have HSZ : Hid ((⟨(U.encs x).toArray⟩ : ByteArray).size ≤ 1000000000000) := Lib.hid (by show (U.encs x).toArray.size ≤ _; rw [List.size_toArray]; rw [HNX.out] at hle; omega)
  clear hle
  go_wp2_with fail
  refine (U.decode_any _ _ HSZ.out HH2.out x [] (TC.dec_self HX.out)).mono ?_
  rintro e w3 ⟨A4, c4, rfl, hown3, hb3⟩
  rw [show U.decL x [] = x from rfl, show U.decN [] = 0 from rfl] at *
  rw [HNX.out] at hown3 ⊢
  have HX3 := Lib.hid (Sl.of_own hown3)
  have HH3 := Lib.hid (HH2.out.next hb3)
  have HB3 : Hid (Below w.heap.size w w3) := Lib.hid ((hb1.trans (hb2.mono hb1.size)).trans (hb3.mono (Nat.le_trans hb1.size hb2.size)))
  have hs3 := HB3.out.size
  clear hown3 hb1 hb2 hb3
  go_wp2_with fail
  have hq1 : nx ≤ 400000 := by omega
  refine (C.chars_any A4 nx c4 _ x _ HNX.out hq1 (Nat.le_refl _) HX3.out).mono ?_
  obtain ⟨hok, hmm⟩ := C.chars_spec x
  have hsl := C.chars_len x
  obtain ⟨S, hS⟩ : ∃ S, C.chars x = S := ⟨_, rfl⟩
  rw [hS] at hok hsl hmm ⊢
  rw [HNX.out] at hsl
  have hmem : ∀ c ∈ x, C.mem S c = true := fun c hc => by rw [hmm c, decide_eq_true hc]; exact HX.out c hc
  have hisC : ∀ c, C.mem S c = true → U.isC c = true := fun c hc => by rw [hmm c] at hc; simp at hc; exact hc.2
  obtain ⟨n, hn⟩ : ∃ n, S.length = n := ⟨_, rfl⟩
  rw [hn] at hsl
  have HOK := Lib.hid hok
  have HMEM := Lib.hid hmem
  have HIS := Lib.hid hisC
  have HN := Lib.hid hn
  have hn' : n ≤ 1000000 := by omega
  clear hok hmem hS hn hmm hisC
  rintro e w4 ⟨A5, c5, rfl, hown4, hb4⟩
  rw [HN.out] at hown4 ⊢
  have hS4 := Lib.hid (Sl.of_own hown4)
  have HX4 := Lib.hid (HX3.out.belowN hb4 (Nat.le_refl _) hb4.size)
  have HH4 := Lib.hid (HH3.out.next hb4)
  have hs4 := hb4.size
  have HB4 : Hid (Below w.heap.size w w4) := Lib.hid (HB3.out.trans (hb4.mono hs3))
  clear hown4 hb4
  have hba : Below w4.heap.size w4 (w4.alloc (.cells #[.slice A5 n c5] 54)) := (Below.refl _ _).alloc (Nat.le_refl _) _
  have v4 := heap_alloc_new w4 (.cells #[.slice A5 n c5] 54)
  have hza : (w4.alloc (.cells #[.slice A5 n c5] 54)).heap.size = w4.heap.size + 1 := by simp
  obtain ⟨W, hW⟩ : ∃ W, w4.alloc (.cells #[.slice A5 n c5] 54) = W := ⟨_, rfl⟩
  rw [hW] at hba v4 hza
  have HBW : Hid (Below w.heap.size w W) := Lib.hid (HB4.out.trans (hba.mono (by omega)))
  have HSW : Hid (Sl W W.heap.size A5 (S.map (Value.int .i32))) := Lib.hid (hS4.out.belowN hba (Nat.le_refl _) (by omega))
  have HXW : Hid (Sl W W.heap.size A4 (x.map (Value.int .i32))) := Lib.hid (HX4.out.belowN hba (Nat.le_refl _) (by omega))
  have HHW := Lib.hid (HH4.out.next hba)
  obtain ⟨cS, _⟩ := blk_cell v4 0
  simp only [List.getElem?_toArray, List.getElem?_cons_zero] at cS
  have HW := Lib.hid hW
  have hlW : w4.heap.size < W.heap.size := by omega
  clear hba hW v4 HX1 HX3 HX4 hS4 HH HH1 HH2 HH3 HH4 HB3 HB4
  go_upto_region 6 with (fail)
  rw [HW.out]
  go_wp2
  go_loopw [45] (fun vi wr => ∃ k : Nat, k ≤ nx ∧ vi = .int .i64 k ∧ Below W.heap.size W wr) (fun vi _ => nx - (intOf vi).toNat)
  case atStart => exact ⟨0, by omega, rfl, Below.refl _ _⟩
  case round =>
    obtain ⟨k, hk, rfl, hbr⟩ := hrel
    obtain ⟨w5, rfl⟩ : ∃ w5 : World, w5 = wr := ⟨_, rfl⟩
    have hs5 := hbr.size
    have cS5 := ((bcell hbr).1 _ _ hlW).trans cS
    have HS5 : Hid (Sl w5 w5.heap.size A5 (S.map (Value.int .i32))) := Lib.hid (HSW.out.belowN hbr (Nat.le_refl _) hs5)
    have HX5 : Hid (Sl w5 w5.heap.size A4 (x.map (Value.int .i32))) := Lib.hid (HXW.out.belowN hbr (Nat.le_refl _) hs5)
    have hl5 : w4.heap.size < w5.heap.size := by omega
    by_cases hlt : (k : Int) < nx
    · obtain ⟨c, hc⟩ : ∃ c, x[k]? = some c := ⟨_, List.getElem?_eq_getElem (by rw [HNX.out]; omega)⟩
      have hmc := HMEM.out c (List.mem_of_getElem? hc)
      have hat := TC.at_of HOK.out hmc
      obtain ⟨ib1, ib2⟩ := C.idx_bd HOK.out c
      have ib3 := (C.count_bd HOK.out).2
      obtain ⟨q, hq⟩ : ∃ q, C.idx S c = q := ⟨_, rfl⟩
      rw [hq] at hat ib1 ib2
      obtain ⟨b, o, rfl, hlb, hc0, _⟩ := HX5.out.ints hc
      have E1 : Hid ((C.at S q).1 = c) := Lib.hid (by rw [hat])
      have E2 : Hid ((C.at S q).2 = true) := Lib.hid (by rw [hat])
      have HQ := Lib.hid hq
      have hcb := U.chars_bd HX.out c (List.mem_of_getElem? hc)
      obtain ⟨cb1, cb2⟩ := hcb
      have iq1 : -9223372036854775808 ≤ q := by omega
      have iq2 : q ≤ 9223372036854775807 := by omega
      have n0 : (0 : Int) ≤ (k : Int) := by omega
      have HBR := Lib.hid hbr
      have hxx : Below w5.heap.size w5 w5 := Below.refl _ _
      clear hat hc hbr hmc hq ib1 ib2 ib3
      go_wp2_with fail
      go_region_held3 (fun w' => w'.cell? ⟨w4.heap.size, 0, none⟩ = some (.slice A5 n c5) ∧ Below w5.heap.size w5 w')
        (first
          | exact TC.keep1 cS5 hl5 hxx
          | exact TC.keep1 cS5 hl5 hxx.drew
          | exact TC.keep1 cS5 hl5 hbz9
          | fail)
        (first
          | (go_at_call 23; refine (C.index_any A5 c5 n w5.heap.size S c _ HN.out hn' HOK.out cb1 cb2 (TC.second (W := w5) (by assumption)).size (HS5.out.belowN (TC.second (by assumption)) (Nat.le_refl _) (Nat.le_refl _))).mono ?_; rw [HQ.out]; rintro e wq ⟨rfl, hbc⟩; have hbz9 := (TC.second (W := w5) (by assumption)).trans (hbc.mono (TC.second (W := w5) (by assumption)).size))
          | (go_at_call 22; refine (C.at_any A5 c5 n w5.heap.size S q _ HN.out hn' HOK.out iq1 iq2 (TC.second (W := w5) (by assumption)).size (HS5.out.belowN (TC.second (by assumption)) (Nat.le_refl _) (Nat.le_refl _))).mono ?_; rw [E1.out, E2.out]; rintro e wq ⟨rfl, hbc⟩; have hbz9 := (TC.second (W := w5) (by assumption)).trans (hbc.mono (TC.second (W := w5) (by assumption)).size))
          | fail)
      all_goals
        go_wp2_with fail
        exact ⟨⟨k + 1, by omega, by go_num, HBR.out.trans (hbz9.mono hs5)⟩, by simp [intOf]; omega⟩
    · obtain rfl : k = nx := by omega
      have hs05 : w.heap.size ≤ w5.heap.size := by have := HBW.out.size; omega
      have HB5 : Hid (Below w.heap.size w w5) := Lib.hid (HBW.out.trans (hbr.mono HBW.out.size))
      have HH5 := Lib.hid (HHW.out.next hbr)
      have HS2b : Hid (Sl w5 w5.heap.size A2 (l2.map (Value.int .i64))) := Lib.hid (HS2.out.belowN HB5.out (Nat.le_refl _) hs05)
      have hasrt := TC.all1_srt HOK.out
      have hais : ∀ c ∈ C.all1 (C.rngs S), U.isC c = true := fun c hc => HIS.out c (TC.all1_is HOK.out hc)
      have HCS := Lib.hid (C.setchars_any A5 c5 n w5.heap.size S w5 HN.out hn' HOK.out (Nat.le_refl _) HS5.out)
      have hbd := C.all1_bd HOK.out (Nat.le_refl _)
      rw [List.take_length] at hbd
      obtain ⟨al, hal⟩ : ∃ al, C.all1 (C.rngs S) = al := ⟨_, rfl⟩
      rw [hal] at hasrt hais HCS hbd
      obtain ⟨N, hN⟩ : ∃ N, al.length = N := ⟨_, rfl⟩
      rw [hN] at hbd
      have HNL := Lib.hid hN
      have HASRT := Lib.hid hasrt
      have HAIS := Lib.hid hais
      have HBR := Lib.hid hbr
      clear hasrt hais hal hN hbr cS HHW HBW HSW HXW HX5
      go_wp2_with fail
      refine HCS.out.mono ?_
      rintro e w6 ⟨A6, c6, rfl, hown6, hb6⟩
      rw [HNL.out] at hown6 ⊢
      have HA6 := Lib.hid (Sl.of_own hown6)
      have hs6 := hb6.size
      have cS6 := ((bcell hb6).1 _ _ hl5).trans cS5
      have HS6 : Hid (Sl w6 w6.heap.size A5 (S.map (Value.int .i32))) := Lib.hid (HS5.out.belowN hb6 (Nat.le_refl _) hs6)
      have HS2c : Hid (Sl w6 w6.heap.size A2 (l2.map (Value.int .i64))) := Lib.hid (HS2b.out.belowN hb6 (Nat.le_refl _) hs6)
      have HH6 := Lib.hid (HH5.out.next hb6)
      have HB6 : Hid (Below w.heap.size w w6) := Lib.hid (HB5.out.trans (hb6.mono hs05))
      have hl6 : w4.heap.size < w6.heap.size := by omega
      clear hown6 hb6 HCS cS5 HS5 HS2b HH5 HB5
      go_wp2
      go_loopw [68, 14] (fun vi vs wr => ∃ (k : Nat) (s : ByteArray), k ≤ N ∧ vi = .int .i64 k ∧ vs = .string s ∧ (∀ p, k = p + 1 → ∀ z, al[p]? = some z → s = ⟨(U.enc z).toArray⟩) ∧ Below w6.heap.size w6 wr) (fun vi _ _ => N - (intOf vi).toNat)
      case atStart => exact ⟨0, ⟨#[]⟩, by omega, rfl, rfl, by intro p hp; omega, Below.refl _ _⟩
      case round =>
        obtain ⟨j, s, hj, rfl, rfl, hlast, hbr⟩ := hrel
        obtain ⟨w7, rfl⟩ : ∃ w7 : World, w7 = wr := ⟨_, rfl⟩
        have hs7 := hbr.size
        have HA7 : Hid (Sl w7 w7.heap.size A6 (al.map (Value.int .i32))) := Lib.hid (HA6.out.belowN hbr (Nat.le_refl _) hs7)
        have HH7 := Lib.hid (HH6.out.next hbr)
        by_cases hlt : (j : Int) < N
        · obtain ⟨c, hc⟩ : ∃ c, al[j]? = some c := ⟨_, List.getElem?_eq_getElem (by rw [HNL.out]; omega)⟩
          have hcC := HAIS.out c (List.mem_of_getElem? hc)
          have hcmp : j ≠ 0 → Lib.compareBytes s.data.toList (⟨(U.enc c).toArray⟩ : ByteArray).data.toList < 0 := by
            intro hj0
            obtain ⟨p, rfl⟩ : ∃ p, j = p + 1 := ⟨j - 1, by omega⟩
            obtain ⟨z, hz⟩ : ∃ z, al[p]? = some z := ⟨_, List.getElem?_eq_getElem (by rw [HNL.out]; omega)⟩
            have e := hlast p rfl z hz
            subst e
            have hzc : z < c := by
              have h := List.pairwise_iff_getElem.1 HASRT.out p (p + 1) (by rw [HNL.out]; omega) (by rw [HNL.out]; omega) (by omega)
              rw [List.getElem?_eq_getElem (by rw [HNL.out]; omega)] at hz hc
              simp only [Option.some.injEq] at hz hc
              rw [← hz, ← hc]; exact h
            exact TC.cmp_lt (HAIS.out z (List.mem_of_getElem? hz)) hcC hzc
          have hnx := U.dec_next (b := []) (r := []) hcC
          rw [show U.encs [c] ++ [] = U.enc c by simp [U.encs]] at hnx
          have hn3 := U.next3_some hnx
          have hel := U.enc_len c hcC
          obtain ⟨he1, he4⟩ := U.enc_pos c
          obtain ⟨b, o, rfl, hlb, hc0, _⟩ := HA7.out.ints hc
          have hcb := U.chars_bd (cs := [c]) (by simpa using hcC)
          obtain ⟨cb1, cb2⟩ := hcb c (by simp)
          obtain ⟨en, hen⟩ : ∃ en, U.enc c = en := ⟨_, rfl⟩
          rw [hen] at hcmp hn3 hel he1 he4
          have hsn : U.encS [c] = ⟨en.toArray⟩ := by rw [U.encS_of (by simpa using hcC)]; simp [U.encs, hen]
          have hnn : U.encN [c] = 0 := U.encN_of (by simpa using hcC)
          obtain ⟨L, hL⟩ : ∃ L, en.length = L := ⟨_, rfl⟩
          rw [hL] at hn3 hel he1 he4
          have HSN := Lib.hid hsn
          have HNN := Lib.hid hnn
          have HCB := Lib.hid hcb
          have HCMP := Lib.hid hcmp
          have N1 : Hid ((U.next3 (⟨en.toArray⟩ : ByteArray).data.toList).1 = c) := Lib.hid (by show (U.next3 en.toArray.toList).1 = c; rw [List.toList_toArray, hn3])
          have N2 : Hid ((U.next3 (⟨en.toArray⟩ : ByteArray).data.toList).2.1 = L) := Lib.hid (by show (U.next3 en.toArray.toList).2.1 = L; rw [List.toList_toArray, hn3])
          have N3 : Hid ((U.next3 (⟨en.toArray⟩ : ByteArray).data.toList).2.2 = true) := Lib.hid (by show (U.next3 en.toArray.toList).2.2 = true; rw [List.toList_toArray, hn3])
          have hsz : (⟨en.toArray⟩ : ByteArray).size = L := by show en.toArray.size = L; rw [List.size_toArray, hL]
          have HSZ2 := Lib.hid hsz
          have HWI := Lib.hid hel
          have HEN := Lib.hid hen
          have hsm : (⟨en.toArray⟩ : ByteArray).size ≤ maxLen := by rw [hsz]; unfold maxLen; omega
          have HSM := Lib.hid hsm
          have n0 : (0 : Int) ≤ (j : Int) := by omega
          have HBR2 := Lib.hid hbr
          have HC := Lib.hid hc
          clear hc hcmp hnx hn3 hel hcb hen hsn hnn hlast hcC hbr hsm
          have hba : Below w7.heap.size w7 (w7.alloc (.cells #[.int .i32 c] 21)) := (Below.refl _ _).alloc (Nat.le_refl _) _
          have hZ := Lib.hid (Sl.lit (w := w7.alloc (.cells #[.int .i32 c] 21)) (A := some ⟨w7.heap.size, 0, none⟩) (xs := [.int .i32 c]) rfl 21 (0, 0) (heap_alloc_new w7 _))
          have HH8 := Lib.hid (HH7.out.next hba)
          have HBA := Lib.hid hba
          clear hba
          go_wp2_with fail
          refine (U.encode_n (some ⟨w7.heap.size, 0, none⟩) 1 _ [c] 1 _ rfl (Nat.le_refl _) hZ.out (by decide) HCB.out HH8.out).mono ?_
          rw [HSN.out, HNN.out]
          rintro e w8 ⟨rfl, hb8⟩
          have HH9 := Lib.hid (HH8.out.next hb8)
          have HB8 : Hid (Below w7.heap.size w7 w8) := Lib.hid (HBA.out.trans (hb8.mono HBA.out.size))
          clear hb8
          go_wp2_with fail
          refine (U.next_any _ _ HSM.out HH9.out).mono ?_
          rw [N1.out, N2.out, N3.out]
          rintro e w9 ⟨rfl, hb9⟩
          have HHa := Lib.hid (HH9.out.next hb9)
          have HB9 : Hid (Below w7.heap.size w7 w9) := Lib.hid (HB8.out.trans (hb9.mono HB8.out.size))
          clear hb9
          rcases Nat.eq_zero_or_pos j with hj0 | hj0
          · have g0 : ¬ (j : Int) > 0 := by omega
            clear hsz
            go_wp2_with (go_at_call 26; refine (U.width_any c _ cb1 cb2 HHa.out).mono ?_; rw [← HWI.out]; rintro e w' ⟨rfl, rfl⟩)
            refine ⟨⟨j + 1, _, by omega, by go_num, rfl, ?_, HBR2.out.trans (HB9.out.mono hs7)⟩, by simp [intOf]; omega⟩
            intro p hp z hz
            obtain rfl : p = j := by omega
            rw [HC.out] at hz
            cases hz
            rw [HEN.out]
          · have g0 : (j : Int) > 0 := by omega
            have hv0 := HCMP.out (by omega)
            obtain ⟨v, hv⟩ : ∃ v, Lib.compareBytes s.data.toList (⟨en.toArray⟩ : ByteArray).data.toList = v := ⟨_, rfl⟩
            rw [hv] at hv0
            have HV := Lib.hid hv
            clear hsz hv
            go_wp2_with (first | (go_at_call 26; refine (U.width_any c _ cb1 cb2 HHa.out).mono ?_; rw [← HWI.out]; rintro e w' ⟨rfl, rfl⟩) | (go_at_call 27; refine (U.compare_any _ _ _).mono ?_; rintro e w' ⟨rfl, rfl⟩; rw [HV.out]))
            refine ⟨⟨j + 1, _, by omega, by go_num, rfl, ?_, HBR2.out.trans (HB9.out.mono hs7)⟩, by simp [intOf]; omega⟩
            intro p hp z hz
            obtain rfl : p = j := by omega
            rw [HC.out] at hz
            cases hz
            rw [HEN.out]
        · obtain rfl : j = N := by omega
          have hs07 : w.heap.size ≤ w6.heap.size := HB6.out.size
          have HB7 : Hid (Below w.heap.size w w7) := Lib.hid (HB6.out.trans (hbr.mono hs07))
          have cS7 := ((bcell hbr).1 _ _ hl6).trans cS6
          have HS7 : Hid (Sl w7 w7.heap.size A5 (S.map (Value.int .i32))) := Lib.hid (HS6.out.belowN hbr (Nat.le_refl _) hs7)
          have HS2d : Hid (Sl w7 w7.heap.size A2 (l2.map (Value.int .i64))) := Lib.hid (HS2c.out.belowN hbr (Nat.le_refl _) hs7)
          have hl7 : w4.heap.size < w7.heap.size := by omega
          clear hbr hlast cS6 HS6 HS2c HB6 HA7 HA6 HH6 HH7
          go_wp2_with fail
          refine (U.chars_any A2 len2 cap2 _ l2 30 _ (Nat.le_refl _) HL2.out (by omega) HS2d.out (Nat.le_trans p4 p5)).mono ?_
          rw [HYE.out]
          rintro e w8 ⟨A7, c7, rfl, hown8, hb8⟩
          rw [HNY.out] at hown8 ⊢
          have HY8 := Lib.hid (Sl.of_own hown8)
          have cS8 := ((bcell hb8).1 _ _ hl7).trans cS7
          have hs8 := hb8.size
          have HS8 : Hid (Sl w8 w8.heap.size A5 (S.map (Value.int .i32))) := Lib.hid (HS7.out.belowN hb8 (Nat.le_refl _) hs8)
          have HB8 : Hid (Below w.heap.size w w8) := Lib.hid (HB7.out.trans (hb8.mono HB7.out.size))
          have hl8 : w4.heap.size < w8.heap.size := by omega
          clear hown8 hb8 cS7 HS7 HB7
          go_wp2_with fail
          have hq2 : ny ≤ 400000 := by omega
          refine (C.chars_any A7 ny c7 _ y _ HNY.out hq2 (Nat.le_refl _) HY8.out).mono ?_
          obtain ⟨hokT, _⟩ := C.chars_spec y
          have hslT := C.chars_len y
          obtain ⟨T, hT⟩ : ∃ T, C.chars y = T := ⟨_, rfl⟩
          rw [hT] at hokT hslT ⊢
          rw [HNY.out] at hslT
          obtain ⟨m, hm⟩ : ∃ m, T.length = m := ⟨_, rfl⟩
          rw [hm] at hslT
          have HOKT := Lib.hid hokT
          have HM := Lib.hid hm
          have hm' : m ≤ 1000000 := by omega
          clear hokT hT hm
          rintro e w9 ⟨A9, c9, rfl, hown9, hb9⟩
          rw [HM.out] at hown9 ⊢
          have HT9 := Lib.hid (Sl.of_own hown9)
          have cS9 := ((bcell hb9).1 _ _ hl8).trans cS8
          have hs9 := hb9.size
          have HS9 : Hid (Sl w9 w9.heap.size A5 (S.map (Value.int .i32))) := Lib.hid (HS8.out.belowN hb9 (Nat.le_refl _) hs9)
          have HB9 : Hid (Below w.heap.size w w9) := Lib.hid (HB8.out.trans (hb9.mono HB8.out.size))
          have hl9 : w4.heap.size < w9.heap.size := by omega
          have hba : Below w9.heap.size w9 (w9.alloc (.cells #[.slice A9 m c9] 54)) := (Below.refl _ _).alloc (Nat.le_refl _) _
          have v9 := heap_alloc_new w9 (.cells #[.slice A9 m c9] 54)
          have hza : (w9.alloc (.cells #[.slice A9 m c9] 54)).heap.size = w9.heap.size + 1 := by simp
          obtain ⟨W2, hW2⟩ : ∃ W2, w9.alloc (.cells #[.slice A9 m c9] 54) = W2 := ⟨_, rfl⟩
          rw [hW2] at hba v9 hza
          obtain ⟨cT, _⟩ := blk_cell v9 0
          simp only [List.getElem?_toArray, List.getElem?_cons_zero] at cT
          have HSa : Hid (Sl W2 W2.heap.size A5 (S.map (Value.int .i32))) := Lib.hid (HS9.out.belowN hba (Nat.le_refl _) hba.size)
          have HTa : Hid (Sl W2 W2.heap.size A9 (T.map (Value.int .i32))) := Lib.hid (HT9.out.belowN hba (Nat.le_refl _) hba.size)
          have cSa := ((bcell hba).1 _ _ hl9).trans cS9
          have HBa : Hid (Below w.heap.size w W2) := Lib.hid (HB9.out.trans (hba.mono HB9.out.size))
          have hla : w4.heap.size < W2.heap.size := by omega
          have hlb : w9.heap.size < W2.heap.size := by omega
          have HW2 := Lib.hid hW2
          clear hown9 hb9 cS8 cS9 HS8 HS9 HT9 HB8 HB9 hba v9 hW2 HY8
          go_upto_region 24 with (fail)
          rw [HW2.out]
          go_wp2_with fail
          refine (C.or_any A5 A9 c5 c9 n m W2.heap.size S T _ HN.out HM.out hn' hm' HOK.out.1 HOKT.out.1 (Nat.le_refl _) HSa.out HTa.out).mono ?_
          have okB := C.mrg_ok C.orF rfl HOK.out HOKT.out
          have okD := C.mrg_ok C.andF rfl HOK.out HOKT.out
          have lB := C.mrg_len C.orF S T
          have lD := C.mrg_len C.andF S T
          have hcnt := TC.counts HOK.out HOKT.out
          have hnots := TC.nots HOK.out HOKT.out
          have hxors := TC.xors HOK.out HOKT.out
          obtain ⟨B, hB⟩ : ∃ B, C.mrg C.orF S T = B := ⟨_, rfl⟩
          obtain ⟨D, hD⟩ : ∃ D, C.mrg C.andF S T = D := ⟨_, rfl⟩
          rw [hB] at okB lB hcnt hnots hxors ⊢
          rw [hD] at okD lD hcnt hxors
          rw [HN.out, HM.out] at lB lD
          have okE := C.mrg_ok C.lessF rfl C.all_ok okB
          have okF := C.mrg_ok C.lessF rfl C.all_ok HOK.out
          have okG := C.mrg_ok C.lessF rfl C.all_ok HOKT.out
          have lE := C.mrg_len C.lessF C.all B
          have lF := C.mrg_len C.lessF C.all S
          have lG := C.mrg_len C.lessF C.all T
          have lX := C.mrg_len C.xorF S T
          rw [show C.all.length = 4 from rfl] at lE lF lG
          obtain ⟨E, hE⟩ : ∃ E, C.mrg C.lessF C.all B = E := ⟨_, rfl⟩
          obtain ⟨F, hF⟩ : ∃ F, C.mrg C.lessF C.all S = F := ⟨_, rfl⟩
          obtain ⟨G, hG⟩ : ∃ G, C.mrg C.lessF C.all T = G := ⟨_, rfl⟩
          obtain ⟨X, hX⟩ : ∃ X, C.mrg C.xorF S T = X := ⟨_, rfl⟩
          rw [hE] at okE lE hnots
          rw [hF] at okF lF hnots
          rw [hG] at okG lG hnots
          rw [hX] at lX hxors
          rw [HN.out] at lF
          rw [HM.out] at lG
          rw [HN.out, HM.out] at lX
          obtain ⟨nB, hnB⟩ : ∃ nB, B.length = nB := ⟨_, rfl⟩
          obtain ⟨nD, hnD⟩ : ∃ nD, D.length = nD := ⟨_, rfl⟩
          obtain ⟨nE, hnE⟩ : ∃ nE, E.length = nE := ⟨_, rfl⟩
          obtain ⟨nF, hnF⟩ : ∃ nF, F.length = nF := ⟨_, rfl⟩
          obtain ⟨nG, hnG⟩ : ∃ nG, G.length = nG := ⟨_, rfl⟩
          obtain ⟨nX, hnX⟩ : ∃ nX, X.length = nX := ⟨_, rfl⟩
          rw [hnB] at lB lE
          rw [hnD] at lD
          rw [hnE] at lE
          rw [hnF] at lF
          rw [hnG] at lG
          rw [hnX] at lX
          have hnB' : nB ≤ 1000000 := by omega
          have hnD' : nD ≤ 1000000 := by omega
          have hnE' : nE ≤ 1000000 := by omega
          have hnF' : nF ≤ 1000000 := by omega
          have hnG' : nG ≤ 1000000 := by omega
          have hnX' : nX ≤ 1000000 := by omega
          obtain ⟨kb1, kb2⟩ := C.count_bd okB
          obtain ⟨kd1, kd2⟩ := C.count_bd okD
          obtain ⟨ks1, ks2⟩ := C.count_bd HOK.out
          obtain ⟨kt1, kt2⟩ := C.count_bd HOKT.out
          obtain ⟨kB, hkB⟩ : ∃ kB, C.count B = kB := ⟨_, rfl⟩
          obtain ⟨kD, hkD⟩ : ∃ kD, C.count D = kD := ⟨_, rfl⟩
          obtain ⟨kS, hkS⟩ : ∃ kS, C.count S = kS := ⟨_, rfl⟩
          obtain ⟨kT, hkT⟩ : ∃ kT, C.count T = kT := ⟨_, rfl⟩
          rw [hkB, hkD, hkS, hkT] at hcnt
          rw [hkB] at kb1 kb2
          rw [hkD] at kd1 kd2
          rw [hkS] at ks1 ks2
          rw [hkT] at kt1 kt2
          have HKB := Lib.hid hkB
          have HKD := Lib.hid hkD
          have HKS := Lib.hid hkS
          have HKT := Lib.hid hkT
          have HNB := Lib.hid hnB
          have HND := Lib.hid hnD
          have HNE := Lib.hid hnE
          have HNF := Lib.hid hnF
          have HNG := Lib.hid hnG
          have HNXX := Lib.hid hnX
          have HOKB := Lib.hid okB
          have HOKD := Lib.hid okD
          have HOKF := Lib.hid okF
          have HOKG := Lib.hid okG
          have HD := Lib.hid hD
          have HE := Lib.hid hE
          have HNS := Lib.hid hF
          have HNT := Lib.hid hG
          have HXX := Lib.hid hX
          have HFG := Lib.hid hnots.symm
          have HXL := Lib.hid hxors.symm
          have he1 : (kB + kD == kS + kT) = true := by simp; omega
          have hw1 : IntKind.i64.wrap (kB + kD) = kB + kD := IntWalk.i64_in _ (by omega)
          have hw2 : IntKind.i64.wrap (kS + kT) = kS + kT := IntWalk.i64_in _ (by omega)
          clear hkB hkD hkS hkT hnB hnD hnE hnF hnG hnX okB okD okE okF okG hB hD hE hF hG hX hnots hxors lB lD lE lF lG lX hcnt
          rintro e w10 ⟨A10, c10, rfl, hown10, hb10⟩
          rw [HNB.out] at hown10 ⊢
          have HBb := Lib.hid (Sl.of_own hown10)
          have cSb := ((bcell hb10).1 _ _ hla).trans cSa
          have cTb := ((bcell hb10).1 _ _ hlb).trans cT
          have hs10 := hb10.size
          have HSb : Hid (Sl w10 w10.heap.size A5 (S.map (Value.int .i32))) := Lib.hid (HSa.out.belowN hb10 (Nat.le_refl _) hs10)
          have HTb : Hid (Sl w10 w10.heap.size A9 (T.map (Value.int .i32))) := Lib.hid (HTa.out.belowN hb10 (Nat.le_refl _) hs10)
          have HBLb : Hid (Below w.heap.size w w10) := Lib.hid (HBa.out.trans (hb10.mono HBa.out.size))
          have hlc : w4.heap.size < w10.heap.size := by omega
          have hld : w9.heap.size < w10.heap.size := by omega
          have hba : Below w10.heap.size w10 (w10.alloc (.cells #[.slice A10 nB c10] 54)) := (Below.refl _ _).alloc (Nat.le_refl _) _
          have v10 := heap_alloc_new w10 (.cells #[.slice A10 nB c10] 54)
          have hzb : (w10.alloc (.cells #[.slice A10 nB c10] 54)).heap.size = w10.heap.size + 1 := by simp
          obtain ⟨W3, hW3⟩ : ∃ W3, w10.alloc (.cells #[.slice A10 nB c10] 54) = W3 := ⟨_, rfl⟩
          rw [hW3] at hba v10 hzb
          obtain ⟨cBc, _⟩ := blk_cell v10 0
          simp only [List.getElem?_toArray, List.getElem?_cons_zero] at cBc
          have cSc := ((bcell hba).1 _ _ hlc).trans cSb
          have cTc := ((bcell hba).1 _ _ hld).trans cTb
          have HSc : Hid (Sl W3 W3.heap.size A5 (S.map (Value.int .i32))) := Lib.hid (HSb.out.belowN hba (Nat.le_refl _) hba.size)
          have HTc : Hid (Sl W3 W3.heap.size A9 (T.map (Value.int .i32))) := Lib.hid (HTb.out.belowN hba (Nat.le_refl _) hba.size)
          have HBc : Hid (Sl W3 W3.heap.size A10 (B.map (Value.int .i32))) := Lib.hid (HBb.out.belowN hba (Nat.le_refl _) hba.size)
          have HBLc : Hid (Below w.heap.size w W3) := Lib.hid (HBLb.out.trans (hba.mono HBLb.out.size))
          have hl3 : w10.heap.size < W3.heap.size := by omega
          have hl1 : w4.heap.size < W3.heap.size := by omega
          have hl2 : w9.heap.size < W3.heap.size := by omega
          have hws : w.heap.size ≤ W3.heap.size := HBLc.out.size
          have hxx : Below W3.heap.size W3 W3 := Below.refl _ _
          have HW3 := Lib.hid hW3
          clear hown10 hb10 hba v10 hW3 cSa cT cSb cTb HSa HTa HSb HTb HBb HBa HBLb HW2 HS2d
          have HSS : Hid (C.srt S) := Lib.hid HOK.out.1
          have HST : Hid (C.srt T) := Lib.hid HOKT.out.1
          have HSB : Hid (C.srt B) := Lib.hid HOKB.out.1
          have HSD : Hid (C.srt D) := Lib.hid HOKD.out.1
          have HSF : Hid (C.srt F) := Lib.hid HOKF.out.1
          have HSG : Hid (C.srt G) := Lib.hid HOKG.out.1
          go_upto_region 25 with (fail)
          rw [HW3.out]
          go_region_held3 (fun w' => w'.cell? ⟨w4.heap.size, 0, none⟩ = some (.slice A5 n c5) ∧ w'.cell? ⟨w9.heap.size, 0, none⟩ = some (.slice A9 m c9) ∧ w'.cell? ⟨w10.heap.size, 0, none⟩ = some (.slice A10 nB c10) ∧ Below W3.heap.size W3 w')
            (first
              | exact TC.keep3 cSc cTc cBc hl1 hl2 hl3 hxx
              | exact TC.keep3 cSc cTc cBc hl1 hl2 hl3 hxx.drew
              | exact TC.keep3 cSc cTc cBc hl1 hl2 hl3 hbz9
              | fail)
            (first
              | (go_at_call 29; (with_reducible refine (C.count_any A10 c10 nB W3.heap.size B _ HNB.out hnB' HOKB.out (TC.fourth (W := W3) (by assumption)).size (HBc.out.belowN (TC.fourth (by assumption)) (Nat.le_refl _) (Nat.le_refl _))).mono ?_); rw [HKB.out]; rintro e wx ⟨rfl, hbc⟩; have hbz9 := (TC.fourth (W := W3) (by assumption)).trans (hbc.mono (TC.fourth (W := W3) (by assumption)).size))
              | (have hT := hSi.out; go_at_call 30; (with_reducible refine (C.and_any A5 A9 c5 c9 n m W3.heap.size S T _ HN.out HM.out hn' hm' HSS.out HST.out (TC.fourth (W := W3) (by assumption)).size (HSc.out.belowN (TC.fourth (by assumption)) (Nat.le_refl _) (Nat.le_refl _)) (HTc.out.belowN (TC.fourth (by assumption)) (Nat.le_refl _) (Nat.le_refl _))).mono ?_); rw [HD.out]; rintro e wj ⟨Aj, cj, rfl, hownj, hbc⟩; rw [HND.out] at hownj ⊢; have hSj := Lib.hid (Sl.of_own hownj); clear hownj; have hSi2 : Hid (Sl wj wj.heap.size Ai (X.map (Value.int .i32))) := Lib.hid (hT.belowN hbc (Nat.le_refl _) hbc.size); clear hT; have hbz9 := (TC.fourth (W := W3) (by assumption)).trans (hbc.mono (TC.fourth (W := W3) (by assumption)).size))
              | (go_at_call 30; (with_reducible refine (C.and_any A5 A9 c5 c9 n m W3.heap.size S T _ HN.out HM.out hn' hm' HSS.out HST.out (TC.fourth (W := W3) (by assumption)).size (HSc.out.belowN (TC.fourth (by assumption)) (Nat.le_refl _) (Nat.le_refl _)) (HTc.out.belowN (TC.fourth (by assumption)) (Nat.le_refl _) (Nat.le_refl _))).mono ?_); rw [HD.out]; rintro e wd ⟨Ad, cd, rfl, hownd, hbc⟩; rw [HND.out] at hownd ⊢; have hSd := Lib.hid (Sl.of_own hownd); clear hownd; have hbz9 := (TC.fourth (W := W3) (by assumption)).trans (hbc.mono (TC.fourth (W := W3) (by assumption)).size))
              | (go_at_call 29; (with_reducible refine (C.count_any Ad cd nD wd.heap.size D _ HND.out hnD' HOKD.out (Nat.le_refl _) hSd.out).mono ?_); rw [HKD.out]; rintro e wx ⟨rfl, hbc⟩; have hbz9 := (TC.fourth (W := W3) (by assumption)).trans (hbc.mono (TC.fourth (W := W3) (by assumption)).size))
              | (go_at_call 29; (with_reducible refine (C.count_any A5 c5 n W3.heap.size S _ HN.out hn' HOK.out (TC.fourth (W := W3) (by assumption)).size (HSc.out.belowN (TC.fourth (by assumption)) (Nat.le_refl _) (Nat.le_refl _))).mono ?_); rw [HKS.out]; rintro e wx ⟨rfl, hbc⟩; have hbz9 := (TC.fourth (W := W3) (by assumption)).trans (hbc.mono (TC.fourth (W := W3) (by assumption)).size))
              | (go_at_call 29; (with_reducible refine (C.count_any A9 c9 m W3.heap.size T _ HM.out hm' HOKT.out (TC.fourth (W := W3) (by assumption)).size (HTc.out.belowN (TC.fourth (by assumption)) (Nat.le_refl _) (Nat.le_refl _))).mono ?_); rw [HKT.out]; rintro e wx ⟨rfl, hbc⟩; have hbz9 := (TC.fourth (W := W3) (by assumption)).trans (hbc.mono (TC.fourth (W := W3) (by assumption)).size))
              | (go_at_call 32; (with_reducible refine (C.not_any A10 c10 nB W3.heap.size B _ HNB.out hnB' HSB.out (TC.fourth (W := W3) (by assumption)).size (HBc.out.belowN (TC.fourth (by assumption)) (Nat.le_refl _) (Nat.le_refl _))).mono ?_); rw [HE.out]; rintro e we ⟨Ae, ce, rfl, howne, hbc⟩; rw [HNE.out] at howne ⊢; have hSe := Lib.hid (Sl.of_own howne); clear howne; have hbz9 := (TC.fourth (W := W3) (by assumption)).trans (hbc.mono (TC.fourth (W := W3) (by assumption)).size))
              | (go_at_call 32; (with_reducible refine (C.not_any A5 c5 n W3.heap.size S _ HN.out hn' HSS.out (TC.fourth (W := W3) (by assumption)).size (HSc.out.belowN (TC.fourth (by assumption)) (Nat.le_refl _) (Nat.le_refl _))).mono ?_); rw [HNS.out]; rintro e wf ⟨Af, cf, rfl, hownf, hbc⟩; rw [HNF.out] at hownf ⊢; have hSf := Lib.hid (Sl.of_own hownf); clear hownf; have hSe2 : Hid (Sl wf wf.heap.size Ae (E.map (Value.int .i32))) := Lib.hid (hSe.out.belowN hbc (Nat.le_refl _) hbc.size); have hbz9 := (TC.fourth (W := W3) (by assumption)).trans (hbc.mono (TC.fourth (W := W3) (by assumption)).size))
              | (go_at_call 32; (with_reducible refine (C.not_any A9 c9 m W3.heap.size T _ HM.out hm' HST.out (TC.fourth (W := W3) (by assumption)).size (HTc.out.belowN (TC.fourth (by assumption)) (Nat.le_refl _) (Nat.le_refl _))).mono ?_); rw [HNT.out]; rintro e wg ⟨Ag, cg, rfl, howng, hbc⟩; rw [HNG.out] at howng ⊢; have hSg := Lib.hid (Sl.of_own howng); clear howng; have hSe3 : Hid (Sl wg wg.heap.size Ae (E.map (Value.int .i32))) := Lib.hid (hSe2.out.belowN hbc (Nat.le_refl _) hbc.size); have hSf2 : Hid (Sl wg wg.heap.size Af (F.map (Value.int .i32))) := Lib.hid (hSf.out.belowN hbc (Nat.le_refl _) hbc.size); have hbz9 := (TC.fourth (W := W3) (by assumption)).trans (hbc.mono (TC.fourth (W := W3) (by assumption)).size))
              | (go_at_call 30; (with_reducible refine (C.and_any Af Ag cf cg nF nG wg.heap.size F G _ HNF.out HNG.out hnF' hnG' HSF.out HSG.out (Nat.le_refl _) hSf2.out hSg.out).mono ?_); rw [HFG.out]; rintro e wh ⟨Ah, ch, rfl, hownh, hbc⟩; rw [HNE.out] at hownh ⊢; have hSh := Lib.hid (Sl.of_own hownh); clear hownh; have hSe4 : Hid (Sl wh wh.heap.size Ae (E.map (Value.int .i32))) := Lib.hid (hSe3.out.belowN hbc (Nat.le_refl _) hbc.size); have hbz9 := (TC.fourth (W := W3) (by assumption)).trans (hbc.mono (TC.fourth (W := W3) (by assumption)).size))
              | (go_at_call 31; (with_reducible refine (C.same_any Ae Ah ce ch nE nE wh.heap.size E E _ HNE.out HNE.out hnE' hnE' (Nat.le_refl _) hSe4.out hSh.out).mono ?_); rw [decide_eq_true (show E = E from rfl)]; rintro e wx ⟨rfl, hbc⟩; have hbz9 := (TC.fourth (W := W3) (by assumption)).trans (hbc.mono (TC.fourth (W := W3) (by assumption)).size))
              | (go_at_call 33; (with_reducible refine (C.xor_any A5 A9 c5 c9 n m W3.heap.size S T _ HN.out HM.out hn' hm' HSS.out HST.out (TC.fourth (W := W3) (by assumption)).size (HSc.out.belowN (TC.fourth (by assumption)) (Nat.le_refl _) (Nat.le_refl _)) (HTc.out.belowN (TC.fourth (by assumption)) (Nat.le_refl _) (Nat.le_refl _))).mono ?_); rw [HXX.out]; rintro e wi ⟨Ai, ci, rfl, howni, hbc⟩; rw [HNXX.out] at howni ⊢; have hSi := Lib.hid (Sl.of_own howni); clear howni; have hbz9 := (TC.fourth (W := W3) (by assumption)).trans (hbc.mono (TC.fourth (W := W3) (by assumption)).size))
              | (go_at_call 34; (with_reducible refine (C.less_any A10 Aj c10 cj nB nD wj.heap.size B D _ HNB.out HND.out hnB' hnD' HSB.out HSD.out (Nat.le_refl _) (HBc.out.belowN hbz9 (Nat.le_refl _) hbz9.size) hSj.out).mono ?_); rw [HXL.out]; rintro e wk ⟨Ak, ck, rfl, hownk, hbc⟩; rw [HNXX.out] at hownk ⊢; have hSk := Lib.hid (Sl.of_own hownk); clear hownk; have hSi3 : Hid (Sl wk wk.heap.size Ai (X.map (Value.int .i32))) := Lib.hid (hSi2.out.belowN hbc (Nat.le_refl _) hbc.size); have hbz9 := (TC.fourth (W := W3) (by assumption)).trans (hbc.mono (TC.fourth (W := W3) (by assumption)).size))
              | (go_at_call 31; (with_reducible refine (C.same_any Ai Ak ci ck nX nX wk.heap.size X X _ HNXX.out HNXX.out hnX' hnX' (Nat.le_refl _) hSi3.out hSk.out).mono ?_); rw [decide_eq_true (show X = X from rfl)]; rintro e wx ⟨rfl, hbc⟩; have hbz9 := (TC.fourth (W := W3) (by assumption)).trans (hbc.mono (TC.fourth (W := W3) (by assumption)).size))
              | fail)
          all_goals
            go_wp2_with fail
            go_ret
            exact ⟨rfl, HBLc.out.trans (hbz9.mono hws)⟩
end Go.Proofs.YtgfkcbckddpbaaaDoor
