/- Bits put beside others; the package prod, by walking its text: small. -/
import Derived.Test.YthcdecncnppjaaaDoorNmMul
namespace Go.Proofs.YthcdecncnppjaaaDoor
open Go.RowKit
set_option linter.unusedSimpArgs false
set_option linter.unusedVariables false
theorem Nm.or64 {a b n T : Nat} (hb : b < 2 ^ n) (hT : 2 ^ n * a + b = T) (h : T < 18446744073709551616) : bits BinOp.or IntKind.u64 ((2 ^ n * a : Nat) : Int) (b : Int) = (T : Int) := by
  have key : (BitVec.ofInt 64 ((2 ^ n * a : Nat) : Int) ||| BitVec.ofInt 64 (b : Int)).toNat = T := by
    rw [BitVec.toNat_or, BitVec.toNat_ofInt, BitVec.toNat_ofInt]
    have e1 : (((2 ^ n * a : Nat) : Int) % ((2 ^ 64 : Nat) : Int)).toNat = 2 ^ n * a := by
      rw [Int.emod_eq_of_lt (Int.natCast_nonneg _) (by omega)]; exact Int.toNat_natCast _
    have e2 : ((b : Int) % ((2 ^ 64 : Nat) : Int)).toNat = b := by
      rw [Int.emod_eq_of_lt (Int.natCast_nonneg _) (by omega)]; exact Int.toNat_natCast _
    rw [e1, e2, Nm.or_add hb, hT]
  show IntKind.u64.wrap ((BitVec.ofInt 64 ((2 ^ n * a : Nat) : Int) ||| BitVec.ofInt 64 (b : Int)).toNat : Nat) = (T : Int)
  rw [key, IntWalk.u64_in _ (by omega)]
theorem Nm.or32 {a b n T : Nat} (hb : b < 2 ^ n) (hT : 2 ^ n * a + b = T) (h : T < 4294967296) : bits BinOp.or IntKind.u32 (b : Int) ((2 ^ n * a : Nat) : Int) = (T : Int) := by
  have key : (BitVec.ofInt 32 (b : Int) ||| BitVec.ofInt 32 ((2 ^ n * a : Nat) : Int)).toNat = T := by
    rw [BitVec.toNat_or, BitVec.toNat_ofInt, BitVec.toNat_ofInt]
    have e1 : (((2 ^ n * a : Nat) : Int) % ((2 ^ 32 : Nat) : Int)).toNat = 2 ^ n * a := by
      rw [Int.emod_eq_of_lt (Int.natCast_nonneg _) (by omega)]; exact Int.toNat_natCast _
    have e2 : ((b : Int) % ((2 ^ 32 : Nat) : Int)).toNat = b := by
      rw [Int.emod_eq_of_lt (Int.natCast_nonneg _) (by omega)]; exact Int.toNat_natCast _
    rw [e1, e2, Nat.or_comm, Nm.or_add hb, hT]
  show IntKind.u32.wrap ((BitVec.ofInt 32 (b : Int) ||| BitVec.ofInt 32 ((2 ^ n * a : Nat) : Int)).toNat : Nat) = (T : Int)
  rw [key, IntWalk.u32_in _ (by omega)]
theorem Nm.two64 {u1 u0 T : Nat} (h0 : u0 < 4294967296) (h1 : u1 < 4294967296) (hT : u1 * 4294967296 + u0 = T) : bits BinOp.or IntKind.u64 ((u1 : Int) * 4294967296) (u0 : Int) = (T : Int) := by
  have h := Nm.or64 (a := u1) (b := u0) (n := 32) (T := T) (by omega) (by rw [← hT]; omega) (by omega)
  rw [← h]
  congr 1
  have : (2 ^ 32 * u1 : Nat) = u1 * 4294967296 := by omega
  rw [this]
  exact (Int.natCast_mul u1 4294967296).symm
set_option maxRecDepth 100000 in
set_option maxHeartbeats 2000000 in
/-- By one digit. -/
theorem Nm.small_any (A : Option Addr) (n c B b : Nat) (l : List Nat) (w : World) (hn : l.length = n) (hm : n ≤ 1000000) (hB : B ≤ w.heap.size) (hok : Nm.Ok l) (hA : Sl w B A (Nm.u32s l)) (hb0 : 0 < b) (hb1 : b < 4294967296) :
    Calls Tryd.prog 28 #[.slice A n c, .int .u32 (b : Int)] w fun e w' => ∃ g Q, e = .returned (.tuple #[.slice (some ⟨g, 0, none⟩) n n, .int .u32 ((Nm.val l % b : Nat) : Int)]) ∧ List.length Q = n ∧ Nm.Ok Q ∧ Nm.val Q = Nm.val l / b ∧ Nm.At w' g Q ∧ Below w.heap.size w w' := by
  obtain ⟨i0, hi, hz0, hz1, hz2⟩ := info_parts infoU32
  obtain ⟨V, hV⟩ : ∃ V, Nm.val l = V := ⟨_, rfl⟩
  have htop : V / 4294967296 ^ n = 0 := by rw [← hV]; exact Nm.cmp_top hok (by omega)
  obtain ⟨R, hR⟩ : ∃ R, V % b = R := ⟨_, rfl⟩
  rw [hV, hR]
  have HR := hy' hR
  have HTOP := hy' htop
  have HDG : Hy (∀ i, V / 4294967296 ^ i % 4294967296 = l.getD i 0) := hy' fun i => by rw [← hV]; exact Nm.digit hok i
  have HN := hy' hn
  have HOK := hy' hok
  have HA := hy' hA
  have HB1 := hy' hb1
  clear hn hok hA htop hV hR
  have b0 : (b : Int) ≠ 0 := by omega
  have b1 : (0 : Int) < b := by omega
  have b2 : (b : Int) < 4294967296 := by omega
  go_enter Tryd.func28, Tryd.ntmps28
  go_upto_region 2 with (first | (at_make; refine wpList_make_full _ rfl _ _ _ rfl w.heap.size 47 i0 _ 1 Tryd.underlying25 hi hz0 hz1 _ _ _ _ n rfl rfl (by go_num) (by go_num) (by rw [hz2]; omega) (by simp only [maxLen]; omega) (Nat.le_refl _) ?_; intro w3 hown hgr) | fail)
  rw [Nm.made_zeros] at hown
  have hat0 : Nm.At w3 w.heap.size (List.replicate n 0) := Nm.own_at hown
  have hbe0 := Below.grown (Below.refl w.heap.size w) hgr (Nat.le_refl _) (by intro k hk; cases hk)
  have HA0 := hy' hat0
  have HE0 := hy' hbe0
  clear hown hgr hat0 hbe0
  obtain ⟨g, hg⟩ : ∃ g, w.heap.size = g := ⟨_, rfl⟩
  rw [hg] at HA0 HE0 hB ⊢
  have HGG := hy' hg
  clear hg
  go_wp2_with fail
  go_loopw [7, 8] (fun vr vi wr => ∃ (i r : Nat) (Q : List Nat), vr = .int .u64 (r : Int) ∧ vi = .int .i64 ((i : Int) - 1) ∧ i ≤ n ∧ r = V / 4294967296 ^ i % b ∧ Q.length = n ∧ Nm.Ok Q ∧ Nm.val Q = 4294967296 ^ i * (V / 4294967296 ^ i / b) ∧ (∀ k, k < i → Q.getD k 0 = 0) ∧ Nm.At wr g Q ∧ Below g w wr) (fun _ vi _ => (intOf vi + 1).toNat)
  case atStart => exact ⟨n, 0, _, rfl, rfl, Nat.le_refl _, by rw [HTOP.o]; simp, by simp, Nm.ok_zeros _, by rw [Nm.val_zeros, HTOP.o]; simp, fun i _ => by simp [List.getD, List.getElem?_replicate]; split <;> rfl, HA0.o, HE0.o⟩
  case round =>
    obtain ⟨i, r, Q, rfl, rfl, hin, hr, hQl, hQk, hQ, hz, hat, hbe⟩ := hrel
    have HQR := hy' hr
    have HQL := hy' hQl
    have HQK := hy' hQk
    have HQV := hy' hQ
    have HZ := hy' hz
    have HAT := hy' hat
    have HBE := hy' hbe
    have hrb : r < b := by rw [hr]; exact Nat.mod_lt _ hb0
    clear hr hQl hQk hQ hz hat hbe
    rcases i with _ | i
    · have h1 := HQV.o
      have h2 := HQR.o
      simp only [Nat.pow_zero, Nat.div_one, Nat.one_mul] at h1 h2
      rw [HR.o] at h2
      have H1 := hy' h1
      have H2 := hy' h2
      have c2 : (r : Int) % 4294967296 = r := by omega
      clear h1 h2
      go_wp2_with fail
      go_ret2
      exact ⟨g, Q, by rw [H2.o]; rfl, HQL.o, HQK.o, H1.o, HAT.o, by rw [HGG.o]; exact HBE.o⟩
    · have ek : ((i + 1 : Nat) : Int) - 1 = i := by omega
      rw [ek]
      have ig : (i : Int) ≥ 0 := by omega
      have iI : (i : Int) < n := by omega
      have hgx : l[i]? = some (l.getD i 0) := Nm.get_of (by rw [HN.o]; omega)
      obtain ⟨p, hp⟩ : ∃ p, l.getD i 0 = p := ⟨_, rfl⟩
      rw [hp] at hgx
      have hpl : p < 4294967296 := HOK.o p (List.mem_of_getElem? hgx)
      obtain ⟨bx, ox, rfl, hbx, hcell⟩ := Nm.sl_get (HA.o.belowN HBE.o hB (Nat.le_refl _)) hgx
      have hdig := HDG.o i
      rw [hp] at hdig
      have p0 : (0 : Int) ≤ p := by omega
      have p1 : (p : Int) < 4294967296 := by omega
      have hgo : Q[i]? = some (Q.getD i 0) := Nm.get_of (by rw [HQL.o]; omega)
      rw [HZ.o i (by omega)] at hgo
      have hcello := HAT.o.cell hgo
      have hfr := Rw.At.frozen HAT.o i
      have hgl := HAT.o.lt
      obtain ⟨t, ht⟩ : ∃ t, r * 4294967296 + p = t := ⟨_, rfl⟩
      have hset := Nm.val_set (l := Q) (i := i) (d := t / b) (by rw [HQL.o]; omega)
      rw [HZ.o i (by omega), Nat.mul_zero, Nat.add_zero] at hset
      obtain ⟨k1, k2, k3⟩ := Nm.small_inv hb0 HB1.o HQV.o hset (t := t) (by rw [← HQR.o, hdig, ht])
      have hor := Nm.two64 hpl (show r < 4294967296 by omega) ht
      have r0 : (0 : Int) ≤ r := by omega
      have r1 : (r : Int) < 4294967296 := by omega
      have rw64 : (r : Int) * 4294967296 < 18446744073709551616 := by omega
      obtain ⟨d, hd⟩ : ∃ d, t / b = d := ⟨_, rfl⟩
      obtain ⟨r', hr'⟩ : ∃ r', t % b = r' := ⟨_, rfl⟩
      rw [hd] at k1 k2
      rw [hr'] at k3
      have hdI : (t : Int) / b = d := by rw [← hd]; exact (Int.natCast_ediv t b).symm
      have hrI : (t : Int) % b = r' := by rw [← hr']; exact (Int.natCast_emod t b).symm
      have K1 := hy' k1
      have K2 := hy' k2
      have K3 := hy' k3
      have d0 : (0 : Int) ≤ d := by omega
      have d1 : (d : Int) < 4294967296 := by omega
      have d2 : (d : Int) % 4294967296 = d := by omega
      have hats := HAT.o.set i d
      have HATS := hy' hats
      clear hgx hp hgo hset hdig k1 k2 k3 hd hr' hats ht
      go_wp2_with fail
      exact ⟨⟨i, r', Q.set i d, by rw [hrI], rfl, by omega, K3.o, by rw [List.length_set]; exact HQL.o, Nm.ok_set HQK.o K1.o, K2.o, fun j hj => by
        rw [List.getD_eq_getElem?_getD, List.getElem?_set_ne (by omega), ← List.getD_eq_getElem?_getD]; exact HZ.o j (by omega), HATS.o, Nm.bel_set HBE.o (Nat.le_refl _) _ _⟩, by first | (simp [intOf]; done) | (simp [intOf]; omega)⟩
end Go.Proofs.YthcdecncnppjaaaDoor
