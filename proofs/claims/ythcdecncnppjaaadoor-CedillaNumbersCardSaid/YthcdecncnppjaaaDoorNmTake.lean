/- The package prod, by walking its text: take, back. -/
import Derived.Test.YthcdecncnppjaaaDoorNmGuess
namespace Go.Proofs.YthcdecncnppjaaaDoor
open Go.RowKit
set_option linter.unusedSimpArgs false
set_option linter.unusedVariables false
theorem Nm.and32 (n : Nat) (h : n < 18446744073709551616) : bits BinOp.and IntKind.u64 (n : Int) 4294967295 = ((n % 4294967296 : Nat) : Int) := by
  have hm : (BitVec.ofInt 64 4294967295).toNat = 2 ^ 32 - 1 := by decide
  have key : (BitVec.ofInt 64 (n : Int) &&& BitVec.ofInt 64 4294967295).toNat = n % 2 ^ 32 := by
    rw [BitVec.toNat_and, BitVec.toNat_ofInt, hm, Nat.and_two_pow_sub_one_eq_mod]
    have e1 : ((n : Int) % ((2 ^ 64 : Nat) : Int)).toNat = n := by
      rw [Int.emod_eq_of_lt (Int.natCast_nonneg _) (by omega)]; exact Int.toNat_natCast _
    rw [e1]
  show IntKind.u64.wrap ((BitVec.ofInt 64 (n : Int) &&& BitVec.ofInt 64 4294967295).toNat : Nat) = _
  rw [key, IntWalk.u64_in _ (by omega)]
theorem Nm.getD_set_ne {l : List Nat} {i j d : Nat} (h : i ≠ j) : (l.set i d).getD j 0 = l.getD j 0 := by
  rw [List.getD_eq_getElem?_getD, List.getElem?_set_ne h, ← List.getD_eq_getElem?_getD]
theorem Nm.At.grown {w w' : World} {g b : Nat} {l : List Nat} (h : Nm.At w g l) (hg : w.grownBy w' (some b)) (hne : b ≠ g) : Nm.At w' g l := Rw.At.grown h hg (by simpa using hne)
set_option maxRecDepth 100000 in
set_option maxHeartbeats 2000000 in
/-- q times v from u's digits. -/
theorem Nm.take_any (g o m c gv n cv q : Nat) (U Vl : List Nat) (w : World) (hU : Nm.At w g U) (hV : Nm.At w gv Vl) (hne : g ≠ gv) (hom : o + m ≤ U.length) (hm : m ≤ 1000000) (hnm : n < m) (hnv : n ≤ Vl.length) (hok : Nm.Ok U) (hokv : Nm.Ok Vl) (hq : q ≤ 4294967296) :
    Calls Tryd.prog 38 #[.slice (some ⟨g, o, none⟩) m c, .slice (some ⟨gv, 0, none⟩) n cv, .int .u64 (q : Int)] w fun e w' => ∃ (b : Nat) (U' : List Nat), e = .returned (.bool (decide (0 < b))) ∧ b ≤ 1 ∧ U'.length = U.length ∧ Nm.Ok U' ∧ (∀ i, i < o ∨ o + m ≤ i → U'.getD i 0 = U.getD i 0) ∧ Nm.val U + 4294967296 ^ (o + m) * b = Nm.val U' + 4294967296 ^ o * (q * Nm.val (Vl.take n)) ∧ Nm.At w' g U' ∧ w.grownBy w' (some g) := by
  have HU := hy' hU
  have HV := hy' hV
  have HOK := hy' hok
  have HOKV := hy' hokv
  have HNE := hy' hne
  have HOM := hy' hom
  have HNV := hy' hnv
  have q0 : (0 : Int) ≤ q := by omega
  have q1 : (q : Int) ≤ 4294967296 := by omega
  obtain ⟨UL, hUL⟩ : ∃ k, U.length = k := ⟨_, rfl⟩
  have HUL := hy' hUL
  rw [hUL]
  clear hU hV hok hokv hne hom hnv hUL
  go_enter Tryd.func38, Tryd.ntmps38
  go_wp2_with fail
  go_loopw [7, 8, 14] (fun vb vc vi wr => ∃ (b cy i : Nat) (O : List Nat), vb = .int .u64 (b : Int) ∧ vc = .int .u64 (cy : Int) ∧ vi = .int .i64 (i : Int) ∧ i ≤ m ∧ b ≤ 1 ∧ cy < 4294967296 ∧ (n < i → cy = 0) ∧ O.length = UL ∧ Nm.Ok O ∧ (∀ j, j < o ∨ o + i ≤ j → O.getD j 0 = U.getD j 0) ∧ Nm.val U + 4294967296 ^ (o + i) * (cy + b) = Nm.val O + 4294967296 ^ o * (q * Nm.val (Vl.take (min i n))) ∧ Nm.At wr g O ∧ w.grownBy wr (some g)) (fun _ _ vi _ => m - (intOf vi).toNat)
  case atStart => exact ⟨0, 0, 0, U, rfl, rfl, rfl, by omega, by omega, by omega, fun h => rfl, HUL.o, HOK.o, fun _ _ => rfl, by simp [Nm.val], HU.o, World.grownBy.refl w _⟩
  case round =>
    obtain ⟨b, cy, i, O, rfl, rfl, rfl, him, hb1, hcy, hcz, hOl, hOk, hOf, hO, hat, hgr⟩ := hrel
    have HCZ := hy' hcz
    have HOL := hy' hOl
    have HOK2 := hy' hOk
    have HOF := hy' hOf
    have HO := hy' hO
    have HAT := hy' hat
    have HGR := hy' hgr
    clear hcz hOl hOk hOf hO hat hgr
    by_cases hlt : i < m
    · have iI : (i : Int) < m := by omega
      have i0' : (0 : Int) ≤ i := by omega
      have hgo : O[o + i]? = some (O.getD (o + i) 0) := Nm.get_of (by have := HOM.o; rw [HUL.o] at this; rw [HOL.o]; omega)
      obtain ⟨u, hu⟩ : ∃ u, O.getD (o + i) 0 = u := ⟨_, rfl⟩
      rw [hu] at hgo
      have hul : u < 4294967296 := HOK2.o u (List.mem_of_getElem? hgo)
      have hcello := HAT.o.cell hgo
      have hfr := Rw.At.frozen HAT.o (o + i)
      have hgl := HAT.o.lt
      have hlen : o + i < O.length := (List.getElem?_eq_some_iff.1 hgo).1
      have HLEN := hy' hlen
      -- the digit of v, times q
      obtain ⟨v, hv, hvl, hvt, hvc⟩ : ∃ v, v = (if i < n then Vl.getD i 0 else 0) ∧ v < 4294967296 ∧ Nm.val (Vl.take (min (i + 1) n)) = Nm.val (Vl.take (min i n)) + 4294967296 ^ i * v ∧ (i < n → wr.cell? ⟨gv, i, none⟩ = some (.int .u32 (v : Int))) := by
        by_cases hin : i < n
        · have hgv : Vl[i]? = some (Vl.getD i 0) := Nm.get_of (by have := HNV.o; omega)
          refine ⟨Vl.getD i 0, by rw [if_pos hin], HOKV.o _ (List.mem_of_getElem? hgv), ?_, fun _ => ?_⟩
          · rw [show min (i + 1) n = i + 1 by omega, show min i n = i by omega]; exact Nm.take_succ
          · exact (HV.o.grown HGR.o HNE.o).cell hgv
        · exact ⟨0, by rw [if_neg hin], by decide, by rw [show min (i + 1) n = n by omega, show min i n = n by omega]; simp, fun h => absurd h hin⟩
      have hgvl : gv < wr.heap.size := (HV.o.grown HGR.o HNE.o).lt
      obtain ⟨qv, hqv⟩ : ∃ k, q * v = k := ⟨_, rfl⟩
      have hqvI : (q : Int) * v = qv := by rw [← hqv]; exact (Int.natCast_mul _ _).symm
      have hqvb : cy + qv < 18446744073709551616 := by
        rw [← hqv]
        have : q * v ≤ 4294967296 * 4294967295 := Nat.mul_le_mul hq (by omega)
        omega
      obtain ⟨P, hP⟩ : ∃ P, cy + qv = P := ⟨_, rfl⟩
      have hPI : (cy : Int) + qv = P := by omega
      obtain ⟨pl, hpl⟩ : ∃ k, P % 4294967296 = k := ⟨_, rfl⟩
      obtain ⟨ph, hph⟩ : ∃ k, P / 4294967296 = k := ⟨_, rfl⟩
      have hand := Nm.and32 P (by omega)
      rw [hpl] at hand
      have hphI : (P : Int) / 4294967296 = ph := by omega
      obtain ⟨X1, hX1⟩ : ∃ k, (u + (18446744073709551616 - pl)) % 18446744073709551616 = k := ⟨_, rfl⟩
      have hw1 : IntKind.u64.wrap ((u : Int) - pl) = X1 := by rw [IntKind.wrap_u64]; omega
      obtain ⟨X2, hX2⟩ : ∃ k, (X1 + (18446744073709551616 - b)) % 18446744073709551616 = k := ⟨_, rfl⟩
      have hw2 : IntKind.u64.wrap ((X1 : Int) - b) = X2 := by rw [IntKind.wrap_u64]; omega
      obtain ⟨r, hr⟩ : ∃ k, X2 % 4294967296 = k := ⟨_, rfl⟩
      obtain ⟨b', hb'⟩ : ∃ k, X2 / 9223372036854775808 = k := ⟨_, rfl⟩
      have hrI : (X2 : Int) % 4294967296 = r := by omega
      have hbI : (X2 : Int) / 9223372036854775808 = b' := by omega
      have hkey : u + 4294967296 * b' = r + pl + b := by omega
      have hb1' : b' ≤ 1 := by omega
      have hrl : r < 4294967296 := by omega
      have hset := Nm.val_set (l := O) (i := o + i) (d := r) HLEN.o
      rw [hu] at hset
      have hst := Nm.take_step (P := 4294967296 ^ (o + i)) hset HO.o (show P = cy + q * v by rw [hqv]; exact hP.symm) hpl.symm b' hkey
      rw [hph] at hst
      have hst2 : Nm.val U + 4294967296 ^ (o + (i + 1)) * (ph + b') = Nm.val (O.set (o + i) r) + 4294967296 ^ o * (q * Nm.val (Vl.take (min (i + 1) n))) := by
        rw [← Nat.add_assoc, Nm.pow1, hst, hvt, Nat.pow_add]
        generalize 4294967296 ^ o = A1
        generalize 4294967296 ^ i = A2
        grind
      have hphb : ph < 4294967296 := by omega
      have hphz : n < i + 1 → ph = 0 := fun h => by
        have : v = 0 := by rw [hv, if_neg (by omega)]
        subst this
        simp at hqv
        omega
      have HPZ := hy' hphz
      have HST := hy' hst2
      have hats := HAT.o.set (o + i) r
      have HATS := hy' hats
      have HGR2 := hy' (HGR.o.trans (Rw.grown_set g (o + i) (.int .u32 (r : Int))))
      have u0 : (0 : Int) ≤ u := by omega
      have u1 : (u : Int) < 4294967296 := by omega
      have v0 : (0 : Int) ≤ v := by omega
      have v1 : (v : Int) < 4294967296 := by omega
      have qv0 : (0 : Int) ≤ qv := by omega
      have P0 : (0 : Int) ≤ P := by omega
      have P1 : (P : Int) < 18446744073709551616 := by omega
      have qv1 : (qv : Int) < 18446744073709551616 := by omega
      by_cases hin : i < n
      · have hcv := hvc hin
        have nI : (i : Int) < n := by omega
        clear hgo hu hv hvt hvc hqv hP hpl hph hX1 hX2 hr hb' hkey hset hst hst2 hphz hats hlen
        go_wp2_with fail
        exact ⟨⟨b', ph, i + 1, O.set (o + i) r, rfl, rfl, by first | rfl | go_num, by omega, hb1', hphb, HPZ.o, by rw [List.length_set]; exact HOL.o, Nm.ok_set HOK2.o hrl, fun j hj => by rw [Nm.getD_set_ne (by omega)]; exact HOF.o j (by omega), HST.o, HATS.o, HGR2.o⟩, by first | (simp [intOf]; done) | (simp [intOf]; omega)⟩
      · have nI : ¬ (i : Int) < n := by omega
        have hv0 : v = 0 := by rw [hv, if_neg hin]
        have hqv0 : qv = 0 := by rw [← hqv, hv0]; simp
        subst hqv0
        have hcP : cy = P := by omega
        subst hcP
        clear hgo hu hv hvt hvc hqv hP hpl hph hX1 hX2 hr hb' hkey hset hst hst2 hphz hats hlen hPI hqvI hv0
        go_wp2_with fail
        exact ⟨⟨b', ph, i + 1, O.set (o + i) r, rfl, rfl, by first | rfl | go_num, by omega, hb1', hphb, HPZ.o, by rw [List.length_set]; exact HOL.o, Nm.ok_set HOK2.o hrl, fun j hj => by rw [Nm.getD_set_ne (by omega)]; exact HOF.o j (by omega), HST.o, HATS.o, HGR2.o⟩, by first | (simp [intOf]; done) | (simp [intOf]; omega)⟩
    · obtain rfl : i = m := by omega
      have iI : ¬ (i : Int) < i := by omega
      have hcy0 : cy = 0 := HCZ.o hnm
      subst hcy0
      have hO := HO.o
      rw [Nat.zero_add, show min i n = n by omega] at hO
      have HO2 := hy' hO
      have hbI : decide ((0 : Int) < b) = decide (0 < b) := by
        rcases Nat.eq_zero_or_pos b with h | h
        · subst h; rfl
        · rw [decide_eq_true h]; exact decide_eq_true (by omega)
      have HBI := hy' hbI
      clear hO hbI
      go_wp2_with fail
      go_ret
      first | exact ⟨b, O, rfl, hb1, HOL.o, HOK2.o, HOF.o, HO2.o, HAT.o, HGR.o⟩ | exact ⟨b, rfl, hb1, O, HOL.o, HOK2.o, HOF.o, HO2.o, HAT.o, HGR.o⟩
/-- What back leaves. -/
def Nm.BackPost (g o m n : Nat) (U Vl : List Nat) (w : World) (e : Ending) (w' : World) : Prop :=
  ∃ (cy : Nat) (U' : List Nat), e = .returned (.tuple #[]) ∧ U'.length = U.length ∧ Nm.Ok U' ∧ (∀ i, i < o ∨ o + m ≤ i → U'.getD i 0 = U.getD i 0) ∧ Nm.val U + 4294967296 ^ o * Nm.val (Vl.take n) = Nm.val U' + 4294967296 ^ (o + m) * cy ∧ Nm.At w' g U' ∧ w.grownBy w' (some g)
set_option maxRecDepth 100000 in
set_option maxHeartbeats 2000000 in
/-- v to u's digits. -/
theorem Nm.back_any (g o m c gv n cv : Nat) (U Vl : List Nat) (w : World) (hU : Nm.At w g U) (hV : Nm.At w gv Vl) (hne : g ≠ gv) (hom : o + m ≤ U.length) (hm : m ≤ 1000000) (hnm : n < m) (hnv : n ≤ Vl.length) (hok : Nm.Ok U) (hokv : Nm.Ok Vl) :
    Calls Tryd.prog 39 #[.slice (some ⟨g, o, none⟩) m c, .slice (some ⟨gv, 0, none⟩) n cv] w (Nm.BackPost g o m n U Vl w) := by
  have HU := hy' hU
  have HV := hy' hV
  have HOK := hy' hok
  have HOKV := hy' hokv
  have HNE := hy' hne
  have HOM := hy' hom
  have HNV := hy' hnv
  obtain ⟨UL, hUL⟩ : ∃ k, U.length = k := ⟨_, rfl⟩
  have HUL := hy' hUL
  clear hU hV hok hokv hne hom hnv hUL
  go_enter Tryd.func39, Tryd.ntmps39
  go_wp2_with fail
  go_loopw [4, 8] (fun vc vi wr => ∃ (cy i : Nat) (O : List Nat), vc = .int .u64 (cy : Int) ∧ vi = .int .i64 (i : Int) ∧ i ≤ m ∧ cy ≤ 1 ∧ O.length = UL ∧ Nm.Ok O ∧ (∀ j, j < o ∨ o + i ≤ j → O.getD j 0 = U.getD j 0) ∧ Nm.val U + 4294967296 ^ o * Nm.val (Vl.take (min i n)) = Nm.val O + 4294967296 ^ (o + i) * cy ∧ Nm.At wr g O ∧ w.grownBy wr (some g)) (fun _ vi _ => m - (intOf vi).toNat)
  case atStart => exact ⟨0, 0, U, rfl, rfl, by omega, by omega, HUL.o, HOK.o, fun _ _ => rfl, by simp [Nm.val], HU.o, World.grownBy.refl w _⟩
  case round =>
    obtain ⟨cy, i, O, rfl, rfl, him, hcy, hOl, hOk, hOf, hO, hat, hgr⟩ := hrel
    have HOL := hy' hOl
    have HOK2 := hy' hOk
    have HOF := hy' hOf
    have HO := hy' hO
    have HAT := hy' hat
    have HGR := hy' hgr
    clear hOl hOk hOf hO hat hgr
    by_cases hlt : i < m
    · have iI : (i : Int) < m := by omega
      have i0' : (0 : Int) ≤ i := by omega
      have hgo : O[o + i]? = some (O.getD (o + i) 0) := Nm.get_of (by have := HOM.o; rw [HUL.o] at this; rw [HOL.o]; omega)
      obtain ⟨u, hu⟩ : ∃ u, O.getD (o + i) 0 = u := ⟨_, rfl⟩
      rw [hu] at hgo
      have hul : u < 4294967296 := HOK2.o u (List.mem_of_getElem? hgo)
      have hcello := HAT.o.cell hgo
      have hfr := Rw.At.frozen HAT.o (o + i)
      have hgl := HAT.o.lt
      have hlen : o + i < O.length := (List.getElem?_eq_some_iff.1 hgo).1
      have HLEN := hy' hlen
      obtain ⟨v, hv, hvl, hvt, hvc⟩ : ∃ v, v = (if i < n then Vl.getD i 0 else 0) ∧ v < 4294967296 ∧ Nm.val (Vl.take (min (i + 1) n)) = Nm.val (Vl.take (min i n)) + 4294967296 ^ i * v ∧ (i < n → wr.cell? ⟨gv, i, none⟩ = some (.int .u32 (v : Int))) := by
        by_cases hin : i < n
        · have hgv : Vl[i]? = some (Vl.getD i 0) := Nm.get_of (by have := HNV.o; omega)
          refine ⟨Vl.getD i 0, by rw [if_pos hin], HOKV.o _ (List.mem_of_getElem? hgv), ?_, fun _ => ?_⟩
          · rw [show min (i + 1) n = i + 1 by omega, show min i n = i by omega]; exact Nm.take_succ
          · exact (HV.o.grown HGR.o HNE.o).cell hgv
        · exact ⟨0, by rw [if_neg hin], by decide, by rw [show min (i + 1) n = n by omega, show min i n = n by omega]; simp, fun h => absurd h hin⟩
      have hgvl : gv < wr.heap.size := (HV.o.grown HGR.o HNE.o).lt
      obtain ⟨r, hr⟩ : ∃ k, (cy + v + u) % 4294967296 = k := ⟨_, rfl⟩
      obtain ⟨c', hc'⟩ : ∃ k, (cy + v + u) / 4294967296 = k := ⟨_, rfl⟩
      have hrI : ((cy : Int) + v + u) % 4294967296 = r := by omega
      have hcI : ((cy : Int) + v + u) / 4294967296 = c' := by omega
      have hc1 : c' ≤ 1 := by omega
      have hrl : r < 4294967296 := by omega
      have hset := Nm.val_set (l := O) (i := o + i) (d := r) HLEN.o
      rw [hu, ← hr] at hset
      have hst := Nm.back_step hset HO.o (v := v) rfl
      rw [hr, hc'] at hst
      have hst2 : Nm.val U + 4294967296 ^ o * Nm.val (Vl.take (min (i + 1) n)) = Nm.val (O.set (o + i) r) + 4294967296 ^ (o + (i + 1)) * c' := by
        rw [← Nat.add_assoc, Nm.pow1, ← hst, hvt, Nat.pow_add]
        generalize 4294967296 ^ o = A1
        generalize 4294967296 ^ i = A2
        grind
      have HST := hy' hst2
      have hats := HAT.o.set (o + i) r
      have HATS := hy' hats
      have HGR2 := hy' (HGR.o.trans (Rw.grown_set g (o + i) (.int .u32 (r : Int))))
      have u0 : (0 : Int) ≤ u := by omega
      have u1 : (u : Int) < 4294967296 := by omega
      have v0 : (0 : Int) ≤ v := by omega
      have v1 : (v : Int) < 4294967296 := by omega
      have y0 : (0 : Int) ≤ cy := by omega
      have y1 : (cy : Int) ≤ 1 := by omega
      by_cases hin : i < n
      · have hcv := hvc hin
        have nI : (i : Int) < n := by omega
        clear hgo hu hv hvt hvc hr hc' hset hst hst2 hats hlen
        go_wp2_with fail
        exact ⟨⟨c', i + 1, O.set (o + i) r, rfl, by first | rfl | go_num, by omega, hc1, by rw [List.length_set]; exact HOL.o, Nm.ok_set HOK2.o hrl, fun j hj => by rw [Nm.getD_set_ne (by omega)]; exact HOF.o j (by omega), HST.o, HATS.o, HGR2.o⟩, by first | (simp [intOf]; done) | (simp [intOf]; omega)⟩
      · have nI : ¬ (i : Int) < n := by omega
        have hv0 : v = 0 := by rw [hv, if_neg hin]
        subst hv0
        have hrI2 : ((cy : Int) + u) % 4294967296 = r := by omega
        have hcI2 : ((cy : Int) + u) / 4294967296 = c' := by omega
        clear hgo hu hv hvt hvc hr hc' hset hst hst2 hats hlen hrI hcI
        go_wp2_with fail
        exact ⟨⟨c', i + 1, O.set (o + i) r, rfl, by first | rfl | go_num, by omega, hc1, by rw [List.length_set]; exact HOL.o, Nm.ok_set HOK2.o hrl, fun j hj => by rw [Nm.getD_set_ne (by omega)]; exact HOF.o j (by omega), HST.o, HATS.o, HGR2.o⟩, by first | (simp [intOf]; done) | (simp [intOf]; omega)⟩
    · obtain rfl : i = m := by omega
      have iI : ¬ (i : Int) < i := by omega
      have hO := HO.o
      rw [show min i n = n by omega] at hO
      have HO2 := hy' hO
      clear hO
      go_wp2_with fail
      refine bodyPost_end (results_none rfl _ _ _) rfl ?_
      exact ⟨cy, O, rfl, HOL.o.trans HUL.o.symm, HOK2.o, HOF.o, HO2.o, HAT.o, HGR.o⟩
end Go.Proofs.YthcdecncnppjaaaDoor
