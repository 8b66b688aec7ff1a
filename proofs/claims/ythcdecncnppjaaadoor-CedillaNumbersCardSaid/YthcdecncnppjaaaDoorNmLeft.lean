/- The package prod, by walking its text: left, right. -/
import Derived.Test.YthcdecncnppjaaaDoorNmTake
import Derived.BigRegion
namespace Go.Proofs.YthcdecncnppjaaaDoor
open Go.RowKit
set_option linter.unusedSimpArgs false
set_option linter.unusedVariables false
theorem Nm.pow2_toNat (k : Nat) : ((2 : Int) ^ k) = ((2 ^ k : Nat) : Int) := by simp
set_option maxRecDepth 100000 in
set_option maxHeartbeats 2000000 in
/-- Digits moved by less than a digit's bits, and a digit more. -/
theorem Nm.left_any (A : Option Addr) (n c B b : Nat) (l : List Nat) (w : World) (hn : l.length = n) (hm : n ≤ 1000000) (hB : B ≤ w.heap.size) (hok : Nm.Ok l) (hA : Sl w B A (Nm.u32s l)) (hb : b ≤ 31) :
    Calls Tryd.prog 36 #[.slice A n c, .int .i64 (b : Int)] w fun e w' => ∃ g Q, e = .returned (.slice (some ⟨g, 0, none⟩) (n + 1) (n + 1)) ∧ List.length Q = n + 1 ∧ Nm.Ok Q ∧ Nm.val Q = Nm.val l * 2 ^ b ∧ w.heap.size ≤ g ∧ Nm.At w' g Q ∧ Below w.heap.size w w' := by
  obtain ⟨i0, hi, hz0, hz1, hz2⟩ := info_parts infoU32
  have HN := hy' hn
  have HOK := hy' hok
  have HA := hy' hA
  have b0 : (0 : Int) ≤ b := by omega
  have b1 : (b : Int) ≤ 31 := by omega
  obtain ⟨Z, hZ⟩ : ∃ Z, 2 ^ b = Z := ⟨_, rfl⟩
  obtain ⟨Y, hY⟩ : ∃ Y, 2 ^ (32 - b) = Y := ⟨_, rfl⟩
  have hZI : (2 : Int) ^ b = Z := by rw [Nm.pow2_toNat, hZ]
  have hYI : (2 : Int) ^ ((32 : Int) - b).toNat = Y := by rw [show ((32 : Int) - b).toNat = 32 - b by omega, Nm.pow2_toNat, hY]
  have hYI2 : (2 : Int) ^ (32 - b) = Y := by rw [Nm.pow2_toNat, hY]
  have HZ2 := hy' hZ
  have HY2 := hy' hY
  clear hn hok hA hZ hY
  go_enter Tryd.func36, Tryd.ntmps36
  go_upto_region 2 with (first | (at_make; refine wpList_make_full _ rfl _ _ _ rfl w.heap.size 47 i0 _ 1 Tryd.underlying25 hi hz0 hz1 _ _ _ _ (n + 1) rfl rfl (by go_num) (by go_num) (by rw [hz2]; omega) (by simp only [maxLen]; omega) (Nat.le_refl _) ?_; intro w3 hown hgr) | fail)
  rw [Nm.made_zeros] at hown
  have hat0 : Nm.At w3 w.heap.size (List.replicate (n + 1) 0) := Nm.own_at hown
  have hbe0 := Below.grown (Below.refl w.heap.size w) hgr (Nat.le_refl _) (by intro k hk; cases hk)
  have HA0 := hy' hat0
  have HE0 := hy' hbe0
  clear hown hgr hat0 hbe0
  obtain ⟨g, hg⟩ : ∃ g, w.heap.size = g := ⟨_, rfl⟩
  rw [hg] at HA0 HE0 hB ⊢
  have HGG := hy' hg
  clear hg
  go_wp2_with fail
  go_loopw [14] (fun vi wr => ∃ (i : Nat) (Q : List Nat), vi = .int .i64 (i : Int) ∧ i ≤ n ∧ Q.length = n + 1 ∧ Nm.Ok Q ∧ Nm.val Q = Nm.val (l.take i) * 2 ^ b ∧ (∀ k, i < k → Q.getD k 0 = 0) ∧ Nm.At wr g Q ∧ Below g w wr) (fun vi _ => n - (intOf vi).toNat)
  case atStart => exact ⟨0, _, rfl, by omega, by simp, Nm.ok_zeros _, by rw [Nm.val_zeros]; simp [Nm.val], fun i _ => by simp [List.getD, List.getElem?_replicate]; split <;> rfl, HA0.o, HE0.o⟩
  case round =>
    obtain ⟨i, Q, rfl, hin, hQl, hQk, hQ, hz, hat, hbe⟩ := hrel
    have HQL := hy' hQl
    have HQK := hy' hQk
    have HQV := hy' hQ
    have HZ := hy' hz
    have HAT := hy' hat
    have HBE := hy' hbe
    clear hQl hQk hQ hz hat hbe
    by_cases hlt : i < n
    · have iI : (i : Int) < n := by omega
      have i0' : (0 : Int) ≤ i := by omega
      have hgx : l[i]? = some (l.getD i 0) := Nm.get_of (by rw [HN.o]; omega)
      obtain ⟨d, hd⟩ : ∃ d, l.getD i 0 = d := ⟨_, rfl⟩
      rw [hd] at hgx
      have hdl : d < 4294967296 := HOK.o d (List.mem_of_getElem? hgx)
      obtain ⟨bx, ox, rfl, hbx, hcell⟩ := Nm.sl_get (HA.o.belowN HBE.o hB (Nat.le_refl _)) hgx
      have hgo : Q[i]? = some (Q.getD i 0) := Nm.get_of (by rw [HQL.o]; omega)
      obtain ⟨p, hp⟩ : ∃ p, Q.getD i 0 = p := ⟨_, rfl⟩
      rw [hp] at hgo
      have hpl : p < 4294967296 := HQK.o p (List.mem_of_getElem? hgo)
      -- the elder digit is small
      have hpz : p < 2 ^ b := by
        have h1 := Nm.digit HQK.o i
        rw [hp, HQV.o] at h1
        rw [← h1]
        refine Nat.lt_of_le_of_lt (Nat.mod_le _ _) ((Nat.div_lt_iff_lt_mul (Nat.pow_pos (by decide))).2 ?_)
        have h2 := Nm.val_lt (l := l.take i) (fun x hx => HOK.o x (List.mem_of_mem_take hx))
        rw [List.length_take, show min i l.length = i by rw [HN.o]; omega] at h2
        rw [Nat.mul_comm]
        exact Nat.mul_lt_mul_of_pos_left h2 (Nat.pow_pos (by decide))
      obtain ⟨k1, a, k2⟩ := Nm.left_room (d := d) (by omega : b ≤ 32) hpz
      obtain ⟨s, hs⟩ : ∃ s, d * 2 ^ b % 4294967296 = s := ⟨_, rfl⟩
      rw [hs] at k1 k2
      obtain ⟨T, hT⟩ : ∃ T, p + s = T := ⟨_, rfl⟩
      have hor := Nm.or32 (T := T) hpz (a := a) (by rw [← k2]; omega) (by omega)
      rw [← k2] at hor
      have hshI : (d : Int) * Z % 4294967296 = s := by
        rw [← HZ2.o, ← hs]; exact (by rw [Int.natCast_emod, Int.natCast_mul]; rfl)
      obtain ⟨e, he⟩ : ∃ e, d / 2 ^ (32 - b) = e := ⟨_, rfl⟩
      have heI : (d : Int) / Y = e := by rw [← HY2.o, ← he]; exact (Int.natCast_ediv _ _).symm
      have hel : e < 4294967296 := by rw [← he]; exact Nat.lt_of_le_of_lt (Nat.div_le_self _ _) hdl
      have hset := Nm.val_set (l := Q) (i := i) (d := T) (by rw [HQL.o]; omega)
      have hset2 := Nm.val_set (l := Q.set i T) (i := i + 1) (d := e) (by rw [List.length_set, HQL.o]; omega)
      rw [Nm.getD_set_ne (by omega), HZ.o (i + 1) (by omega), Nat.mul_zero, Nat.add_zero] at hset2
      rw [hp, ← hT, ← hs] at hset
      rw [← hT, ← hs, ← he] at hset2
      have hst := Nm.left_step (X := Nm.val (l.take i)) (by omega) HQV.o hset hset2
      rw [hs, hT, he, ← hd, ← Nm.take_succ] at hst
      have HST := hy' hst
      have hTl : T < 4294967296 := by omega
      have hcello := HAT.o.cell hgo
      have hfr := Rw.At.frozen HAT.o i
      have hgl := HAT.o.lt
      have hats := HAT.o.set i T
      have HATS := hy' hats
      have d0 : (0 : Int) ≤ d := by omega
      have d1 : (d : Int) < 4294967296 := by omega
      have e0 : (0 : Int) ≤ e := by omega
      have e1 : (e : Int) < 4294967296 := by omega
      have e2 : (e : Int) % 4294967296 = e := by omega
      have iN : (i : Int) < (n : Int) + 1 := by omega
      have bg : (0 : Int) ≤ 32 - b := by omega
      have bg2 : (32 : Int) - b ≤ 64 := by omega
      clear hgx hd hgo hp hs k1 k2 hT he hset hset2 hst hats
      go_upto_region 5 with (fail)
      go_region
      obtain ⟨wx, hwx⟩ : ∃ wx, (wr.setCell ⟨g, i, none⟩ (.int .u32 (T : Int))).drew = wx := ⟨_, rfl⟩
      rw [hwx]
      have hatx : Nm.At wx g (Q.set i T) := by rw [← hwx]; exact HATS.o
      have hbex : Below g w wx := by rw [← hwx]; exact (Nm.bel_set HBE.o (Nat.le_refl _) _ _).drew
      have HATX := hy' hatx
      have HBX := hy' hbex
      have hgo2 : (Q.set i T)[i + 1]? = some ((Q.set i T).getD (i + 1) 0) := Nm.get_of (by rw [List.length_set, HQL.o]; omega)
      rw [Nm.getD_set_ne (by omega), HZ.o (i + 1) (by omega)] at hgo2
      have hcx := hatx.cell hgo2
      have hfx := Rw.At.frozen hatx (i + 1)
      have hlx := hatx.lt
      have HATS2 := hy' (hatx.set (i + 1) e)
      have iN2 : (i : Int) + 1 < (n : Int) + 1 := by omega
      clear hgo2 hwx hatx hbex
      go_wp2_with fail
      exact ⟨⟨i + 1, (Q.set i T).set (i + 1) e, by first | rfl | go_num, by omega, by rw [List.length_set, List.length_set]; exact HQL.o, Nm.ok_set (Nm.ok_set HQK.o hTl) hel, HST.o, fun j hj => by rw [Nm.getD_set_ne (by omega), Nm.getD_set_ne (by omega)]; exact HZ.o j (by omega), HATS2.o, Nm.bel_set HBX.o (Nat.le_refl _) _ _⟩, by first | (simp [intOf]; done) | (simp [intOf]; omega)⟩
    · obtain rfl : i = n := by omega
      have iI : ¬ (i : Int) < i := by omega
      have hv : Nm.val Q = Nm.val l * 2 ^ b := by rw [HQV.o, List.take_of_length_le (by rw [HN.o]; exact Nat.le_refl _)]
      have HV := hy' hv
      clear hv
      go_wp2_with fail
      go_ret
      first | exact ⟨g, Q, rfl, HQL.o, HQK.o, HV.o, by rw [HGG.o]; exact Nat.le_refl _, HAT.o, by rw [HGG.o]; exact HBE.o⟩ | exact ⟨g, rfl, Q, HQL.o, HQK.o, HV.o, by rw [HGG.o]; exact Nat.le_refl _, HAT.o, by rw [HGG.o]; exact HBE.o⟩
set_option maxRecDepth 100000 in
set_option maxHeartbeats 2000000 in
/-- ... and back; the lowest n digits alone. -/
theorem Nm.right_any (A : Option Addr) (m c B b n : Nat) (l : List Nat) (w : World) (hm : l.length = m) (hm2 : m ≤ 1000000) (hnm : n < m) (hB : B ≤ w.heap.size) (hok : Nm.Ok l) (hA : Sl w B A (Nm.u32s l)) (hb : b ≤ 31) :
    Calls Tryd.prog 40 #[.slice A m c, .int .i64 (b : Int), .int .i64 (n : Int)] w fun e w' => ∃ g Q, e = .returned (.slice (some ⟨g, 0, none⟩) n n) ∧ List.length Q = n ∧ Nm.Ok Q ∧ Nm.val Q = Nm.val l / 2 ^ b % 4294967296 ^ n ∧ Nm.At w' g Q ∧ Below w.heap.size w w' := by
  obtain ⟨i0, hi, hz0, hz1, hz2⟩ := info_parts infoU32
  obtain ⟨U, hU⟩ : ∃ U, Nm.val l = U := ⟨_, rfl⟩
  rw [hU]
  have HDG : Hy (∀ i, U / 4294967296 ^ i % 4294967296 = l.getD i 0) := hy' fun i => by rw [← hU]; exact Nm.digit hok i
  have HM := hy' hm
  have HOK := hy' hok
  have HA := hy' hA
  have b0 : (0 : Int) ≤ b := by omega
  have b1 : (b : Int) ≤ 31 := by omega
  obtain ⟨Z, hZ⟩ : ∃ Z, 2 ^ b = Z := ⟨_, rfl⟩
  have hZI : (2 : Int) ^ b = Z := by rw [Nm.pow2_toNat, hZ]
  have HZ2 := hy' hZ
  clear hm hok hA hU hZ
  go_enter Tryd.func40, Tryd.ntmps40
  go_upto_region 2 with (first | (at_make; refine wpList_make_full _ rfl _ _ _ rfl w.heap.size 47 i0 _ 1 Tryd.underlying25 hi hz0 hz1 _ _ _ _ n rfl rfl (by go_num) (by go_num) (by rw [hz2]; omega) (by simp only [maxLen]; omega) (Nat.le_refl _) ?_; intro w3 hown hgr) | fail)
  rw [Nm.made_zeros] at hown
  have hat0 : Nm.At w3 w.heap.size (List.replicate n 0) := Nm.own_at hown
  have hbe0 := Below.grown (Below.refl w.heap.size w) hgr (Nat.le_refl _) (by intro k hk; cases hk)
  have HA0 := hy' hat0
  have HE0 := hy' hbe0
  clear hown hgr hat0 hbe0
  obtain ⟨g, hg⟩ : ∃ g, w.heap.size = g := ⟨_, rfl⟩
  rw [hg] at HA0 HE0 hB ⊢
  have HGG := hy' hg
  clear hg
  go_wp2_with fail
  go_loopw [13] (fun vi wr => ∃ (i : Nat) (Q : List Nat), vi = .int .i64 (i : Int) ∧ i ≤ n ∧ Q.length = n ∧ Nm.Ok Q ∧ Nm.val Q = U / 2 ^ b % 4294967296 ^ i ∧ (∀ k, i ≤ k → Q.getD k 0 = 0) ∧ Nm.At wr g Q ∧ Below g w wr) (fun vi _ => n - (intOf vi).toNat)
  case atStart => exact ⟨0, _, rfl, by omega, by simp, Nm.ok_zeros _, by rw [Nm.val_zeros]; simp [Nat.mod_one], fun i _ => by simp [List.getD, List.getElem?_replicate]; split <;> rfl, HA0.o, HE0.o⟩
  case round =>
    obtain ⟨i, Q, rfl, hin, hQl, hQk, hQ, hz, hat, hbe⟩ := hrel
    have HQL := hy' hQl
    have HQK := hy' hQk
    have HQV := hy' hQ
    have HZ := hy' hz
    have HAT := hy' hat
    have HBE := hy' hbe
    clear hQl hQk hQ hz hat hbe
    by_cases hlt : i < n
    · have iI : (i : Int) < n := by omega
      have i0' : (0 : Int) ≤ i := by omega
      have iM : (i : Int) < m := by omega
      have iM1 : (i : Int) + 1 < m := by omega
      have hgx : l[i]? = some (l.getD i 0) := Nm.get_of (by rw [HM.o]; omega)
      have hgy : l[i + 1]? = some (l.getD (i + 1) 0) := Nm.get_of (by rw [HM.o]; omega)
      obtain ⟨d, hd⟩ : ∃ d, l.getD i 0 = d := ⟨_, rfl⟩
      obtain ⟨f, hf⟩ : ∃ d, l.getD (i + 1) 0 = d := ⟨_, rfl⟩
      rw [hd] at hgx
      rw [hf] at hgy
      have hdl : d < 4294967296 := HOK.o d (List.mem_of_getElem? hgx)
      have hfl : f < 4294967296 := HOK.o f (List.mem_of_getElem? hgy)
      obtain ⟨bx, ox, rfl, hbx, hcell⟩ := Nm.sl_get (HA.o.belowN HBE.o hB (Nat.le_refl _)) hgx
      obtain ⟨bx2, ox2, hE, hbx2, hcell2⟩ := Nm.sl_get (HA.o.belowN HBE.o hB (Nat.le_refl _)) hgy
      simp only [Option.some.injEq, Addr.mk.injEq, and_true] at hE
      obtain ⟨rfl, rfl⟩ := hE
      obtain ⟨T, hT⟩ : ∃ T, f * 4294967296 + d = T := ⟨_, rfl⟩
      have hor := Nm.two64 hdl hfl hT
      have hdig : T = U / 4294967296 ^ i % 18446744073709551616 := by
        rw [Nm.two_digits, HDG.o, HDG.o, hd, hf, hT]
      obtain ⟨s, hs⟩ : ∃ s, T / 2 ^ b % 4294967296 = s := ⟨_, rfl⟩
      have hsI : (T : Int) / Z % 4294967296 = s := by
        rw [← HZ2.o, ← hs]; exact (by rw [Int.natCast_emod, Int.natCast_ediv]; rfl)
      have hsl : s < 4294967296 := by rw [← hs]; exact Nat.mod_lt _ (by decide)
      have hset := Nm.val_set (l := Q) (i := i) (d := s) (by rw [HQL.o]; omega)
      rw [HZ.o i (Nat.le_refl _), Nat.mul_zero, Nat.add_zero] at hset
      have hst := Nm.fill_step HQV.o hset (by rw [← hs, hdig]; exact Nm.right_digit (by omega))
      have HST := hy' hst
      have hgo : Q[i]? = some (Q.getD i 0) := Nm.get_of (by rw [HQL.o]; omega)
      have hcello := HAT.o.cell hgo
      have hfr := Rw.At.frozen HAT.o i
      have hgl := HAT.o.lt
      have HATS := hy' (HAT.o.set i s)
      have d0 : (0 : Int) ≤ d := by omega
      have d1 : (d : Int) < 4294967296 := by omega
      have f0 : (0 : Int) ≤ f := by omega
      have f1 : (f : Int) < 4294967296 := by omega
      have f2 : (f : Int) * 4294967296 < 18446744073709551616 := by omega
      have T0 : (0 : Int) ≤ T := by omega
      clear hgx hgy hd hf hT hdig hs hset hst hgo
      go_upto_region 5 with (fail)
      go_region
      obtain ⟨wx, hwx⟩ : ∃ wx, (wr.setCell ⟨g, i, none⟩ (.int .u32 (s : Int))).drew = wx := ⟨_, rfl⟩
      rw [hwx]
      have hatx : Nm.At wx g (Q.set i s) := by rw [← hwx]; exact HATS.o
      have hbex : Below g w wx := by rw [← hwx]; exact (Nm.bel_set HBE.o (Nat.le_refl _) _ _).drew
      have HATX := hy' hatx
      have HBX := hy' hbex
      clear hatx hbex hwx
      go_wp2_with fail
      exact ⟨⟨i + 1, Q.set i s, by first | rfl | go_num, by omega, by rw [List.length_set]; exact HQL.o, Nm.ok_set HQK.o hsl, HST.o, fun j hj => by rw [Nm.getD_set_ne (by omega)]; exact HZ.o j (by omega), HATX.o, HBX.o⟩, by first | (simp [intOf]; done) | (simp [intOf]; omega)⟩
    · obtain rfl : i = n := by omega
      have iI : ¬ (i : Int) < i := by omega
      go_wp2_with fail
      go_ret
      first | exact ⟨g, Q, rfl, HQL.o, HQK.o, HQV.o, HAT.o, by rw [HGG.o]; exact HBE.o⟩ | exact ⟨g, rfl, Q, HQL.o, HQK.o, HQV.o, HAT.o, by rw [HGG.o]; exact HBE.o⟩
end Go.Proofs.YthcdecncnppjaaaDoor
