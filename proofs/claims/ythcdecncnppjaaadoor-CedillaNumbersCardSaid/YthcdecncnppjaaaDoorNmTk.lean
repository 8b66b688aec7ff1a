/- The package digits, by walking its text: Take. -/
import Derived.Test.YthcdecncnppjaaaDoorNmDig
namespace Go.Proofs.YthcdecncnppjaaaDoor
open Go.RowKit
set_option linter.unusedSimpArgs false
set_option linter.unusedVariables false
theorem Nm.or64i {a b n T : Nat} (hb : b < 2 ^ n) (hT : 2 ^ n * a + b = T) (h : T < 9223372036854775808) : bits BinOp.or IntKind.i64 ((2 ^ n * a : Nat) : Int) (b : Int) = (T : Int) := by
  have key : (BitVec.ofInt 64 ((2 ^ n * a : Nat) : Int) ||| BitVec.ofInt 64 (b : Int)).toNat = T := by
    rw [BitVec.toNat_or, BitVec.toNat_ofInt, BitVec.toNat_ofInt]
    have e1 : (((2 ^ n * a : Nat) : Int) % ((2 ^ 64 : Nat) : Int)).toNat = 2 ^ n * a := by
      rw [Int.emod_eq_of_lt (Int.natCast_nonneg _) (by omega)]; exact Int.toNat_natCast _
    have e2 : ((b : Int) % ((2 ^ 64 : Nat) : Int)).toNat = b := by
      rw [Int.emod_eq_of_lt (Int.natCast_nonneg _) (by omega)]; exact Int.toNat_natCast _
    rw [e1, e2, Nm.or_add hb, hT]
  show IntKind.i64.wrap ((BitVec.ofInt 64 ((2 ^ n * a : Nat) : Int) ||| BitVec.ofInt 64 (b : Int)).toNat : Nat) = (T : Int)
  rw [key, IntKind.wrap_i64]
  omega
theorem Nm.or256 {a b T : Nat} (hb : b < 256) (hT : a * 256 + b = T) (h : T < 9223372036854775808) : bits BinOp.or IntKind.i64 ((a : Int) * 256) (b : Int) = (T : Int) := by
  have h1 := Nm.or64i (a := a) (b := b) (n := 8) (T := T) (by omega) (by omega) h
  rw [← h1]
  congr 1
  have : (2 ^ 8 * a : Nat) = a * 256 := by omega
  rw [this]
  exact (Int.natCast_mul a 256).symm
theorem Nm.resultsCTT {P : Program} {fn : Func} {p u u' : Tmp} {ty : TypeId} (h : fn.results = #[.cell p ty, .tmp u, .tmp u']) (tmps : Array Value) (w : World) (g : Nat) (t : TypeId) (cs : Array Value) (fr : Nat × Nat) (d : TypeDesc)
    (hp : tmps.getD p undef = .pointer (some ⟨g, 0, none⟩)) (hg : w.heap[g]? = some (.cells cs t fr))
    (hu : P.underlying ty = some d) (hd : (match d with | .struct _ | .array _ _ => true | _ => false) = true) (hi : (P.info? ty).map (·.size) = some cs.size) :
    (results fn tmps).run P w = .ok (.tuple #[.agg cs, tmps.getD u undef, tmps.getD u' undef]) w := by
  have hp' : tmps[p]?.getD undef = .pointer (some ⟨g, 0, none⟩) := by simpa using hp
  simp [results, h, hp', asAddr, run_loadVar_row w g t ty cs fr d hg hu hd hi]
def Nm.TakePost (n L : Nat) (rest : List Nat) (w : World) (e : Ending) (w' : World) : Prop :=
  ∃ v s', e = .returned (.tuple #[v, .string s', .int .i64 0]) ∧ Nm.Is w' v n L ∧ Nm.ds s' = rest ∧ Below w.heap.size w w'
set_option maxRecDepth 100000 in
set_option maxHeartbeats 2000000 in
theorem Nm.take2_any (s : ByteArray) (m : Nat) (out rest : List Nat) (w : World) (hm : out.length = m) (hm2 : m ≤ 1000000) (hs2 : s.size ≤ 100000000) (hD : Nm.ds s = Nm.be4 m ++ (out ++ rest)) (hh : out.head? ≠ some 0) :
    Calls Tryd.prog 10 #[.string s] w (Nm.TakePost (Nm.be 256 out) ((m + 3) / 4) rest w) := by
  obtain ⟨i0, hi, hz0, hz1, hz2⟩ := info_parts infoU32
  obtain ⟨n, hn⟩ : ∃ n, s.size = n := ⟨_, rfl⟩
  have hl : n = 4 + (m + rest.length) := by
    rw [← hn, ← Nm.ds_len, hD, List.length_append, List.length_append, hm]; rfl
  have hdl : ∀ d ∈ out, d < 256 := fun d hd => Nm.ds_lt s d (by rw [hD]; simp [hd])
  have h4 : Nm.be 256 (Nm.be4 m) = m := Nm.be4_be (by omega)
  have HN := hy' hn
  have HD := hy' hD
  have HM := hy' hm
  have HL := hy' hl
  have HDL := hy' hdl
  have H4 := hy' h4
  have HH := hy' hh
  have hal : Below w.heap.size w (w.alloc (.cells #[.slice none 0 0] 27)) := (Below.refl _ _).alloc (Nat.le_refl _) _
  have hat := Rw.At.new w 27 [.slice none 0 0]
  obtain ⟨w1, hw1⟩ : ∃ w1, w.alloc (.cells #[.slice none 0 0] 27) = w1 := ⟨_, rfl⟩
  rw [show w.alloc (.cells [Value.slice none 0 0].toArray 27) = w1 from hw1] at hat
  rw [hw1] at hal
  have HAT := hy' hat
  have HAL := hy' hal
  have HW := hy' hw1
  have nb : n ≤ 100000000 := by omega
  have n4 : ¬ (n : Int) < 4 := by omega
  have n4' : (4 : Int) ≤ n := by omega
  clear hD hm hl hdl h4 hh hal hat hw1 hs2
  go_enter Tryd.func10, Tryd.ntmps10
  go_upto_region 1 with (fail)
  rw [HW.o]
  go_wp2_with fail
  go_loopw [5, 14] (fun vn vi wr => ∃ k : Nat, k ≤ 4 ∧ vn = .int .i64 ((Nm.be 256 ((Nm.be4 m).take k) : Nat) : Int) ∧ vi = .int .i64 (k : Int) ∧ wr = w1) (fun _ vi _ => 4 - (intOf vi).toNat)
  case atStart => exact ⟨0, by omega, rfl, rfl, rfl⟩
  case round =>
    obtain ⟨k, hk, rfl, rfl, rfl⟩ := hrel
    by_cases hlt : k < 4
    · have kI : (k : Int) < 4 := by omega
      have hg : (Nm.ds s)[k]? = some ((Nm.be4 m).getD k 0) := by
        rw [HD.o, List.getElem?_append_left (by show k < 4; exact hlt)]; exact Nm.get_of (by show k < 4; exact hlt)
      have hg4 : (Nm.be4 m)[k]? = some ((Nm.be4 m).getD k 0) := Nm.get_of (by show k < 4; exact hlt)
      obtain ⟨d, hd⟩ : ∃ d, (Nm.be4 m).getD k 0 = d := ⟨_, rfl⟩
      rw [hd] at hg hg4
      have hdl : d < 256 := Nm.ds_lt s d (List.mem_of_getElem? hg)
      have hix := Nm.idx s k d hg
      have hst := Nm.take_be 256 hg4
      obtain ⟨N, hNN⟩ : ∃ N, Nm.be 256 ((Nm.be4 m).take k) = N := ⟨_, rfl⟩
      rw [hNN] at hst ⊢
      have hNl : N < 16777216 := by
        rw [← hNN]
        have h1 := Nm.be_lt (b := 256) (l := (Nm.be4 m).take k) (fun x hx => Nm.ds_lt s x (by rw [HD.o]; exact List.mem_append_left _ (List.mem_of_mem_take hx)))
        have h2 : 256 ^ ((Nm.be4 m).take k).length ≤ 256 ^ 3 := Nat.pow_le_pow_right (by decide) (by rw [List.length_take]; omega)
        have h3 : (256 : Nat) ^ 3 = 16777216 := by decide
        omega
      obtain ⟨T, hT⟩ : ∃ T, N * 256 + d = T := ⟨_, rfl⟩
      have hor := Nm.or256 hdl hT (by omega)
      rw [hT] at hst
      have HST := hy' hst
      have d0 : (0 : Int) ≤ d := by omega
      have d1 : (d : Int) < 256 := by omega
      have N0 : (0 : Int) ≤ N := by omega
      have N1 : (N : Int) < 16777216 := by omega
      have hshl : IntKind.i64.wrap ((N : Int) * 256) = (N : Int) * 256 := by rw [IntKind.wrap_i64]; omega
      clear hg hg4 hd hst hNN hT
      go_wp2_with fail
      exact ⟨⟨k + 1, by omega, by rw [HST.o], by first | rfl | go_num, by first | rfl | trivial⟩, by first | (simp [intOf]; done) | (simp [intOf]; omega)⟩
    · obtain rfl : k = 4 := by omega
      have h4 : Nm.be 256 ((Nm.be4 m).take 4) = m := by rw [List.take_of_length_le (by exact Nat.le_refl 4)]; exact H4.o
      rw [h4]
      have kI : ¬ ((4 : Nat) : Int) < 4 := by omega
      clear h4
      obtain ⟨w2, rfl⟩ : ∃ q : World, q = wr := ⟨_, rfl⟩
      go_upto_region 10 with (fail)
      obtain ⟨s2, hs2⟩ : ∃ s2, s.extract 4 n = s2 := ⟨_, rfl⟩
      rw [hs2]
      have hds2 : Nm.ds s2 = out ++ rest := by
        rw [← hs2, ← HN.o, Nm.ds_drop, HD.o]; rfl
      have hsz2 : s2.size = m + rest.length := by rw [← Nm.ds_len, hds2, List.length_append, HM.o]
      have HDS2 := hy' hds2
      have HSZ2 := hy' hsz2
      have mS : ¬ (s2.size : Int) < m := by omega
      clear hs2 hds2 hsz2
      go_upto_region 12 with (fail)
      go_cut [33] (fun v wx => v = .bool false ∧ wx = w2)
      case first =>
        rcases Nat.eq_zero_or_pos m with h0 | h0
        · subst h0
          go_wp2_with fail
          go_meet
          exact ⟨rfl, rfl⟩
        · have mI : (0 : Int) < m := by omega
          have hg : (Nm.ds s2)[0]? = some (out.getD 0 0) := by
            rw [HDS2.o, List.getElem?_append_left (by rw [HM.o]; exact h0)]; exact Nm.get_of (by rw [HM.o]; exact h0)
          have hne : out.getD 0 0 ≠ 0 := by
            intro e
            have hh := HH.o
            rw [List.head?_eq_getElem?, Nm.get_of (by rw [HM.o]; exact h0), e] at hh
            exact hh rfl
          obtain ⟨d, hd⟩ : ∃ d, out.getD 0 0 = d := ⟨_, rfl⟩
          rw [hd] at hg hne
          have hix : ∀ W, (Instr.index 9 (.string s2) (.int .i64 0)).run Tryd.prog W = .ok (.int .u8 (d : Int)) W := Nm.idx s2 0 d hg
          have dI : ((d : Int) == 0) = false := by simp; omega
          clear hg hd
          go_wp2_with fail
          go_meet
          exact ⟨by first | rfl | (rw [dI]), rfl⟩
      case rest =>
      obtain ⟨rfl, hwx⟩ := hcut
      replace hwx := hwx.symm
      subst hwx
      obtain ⟨K, hK⟩ : ∃ K, (m + 3) / 4 = K := ⟨_, rfl⟩
      have hKI : ((m : Int) + 4 - 1) / 4 = K := by omega
      have hKb : K ≤ 1000000 := by omega
      have HKK := hy' hK
      clear hK
      go_upto_region 15 with (first | (at_make; refine wpList_make_full _ rfl _ _ _ rfl w2.heap.size 47 i0 _ 1 Tryd.underlying25 hi hz0 hz1 _ _ _ _ K rfl rfl (by go_num) (by go_num) (by rw [hz2]; omega) (by simp only [maxLen]; omega) (Nat.le_refl _) ?_; intro w3 hown hgr) | fail)
      rw [Nm.made_zeros] at hown
      have hat0 : Nm.At w3 w2.heap.size (List.replicate K 0) := Nm.own_at hown
      have hbe0 := Below.grown (Below.refl w2.heap.size w2) hgr (Nat.le_refl _) (by intro k hk; cases hk)
      have HA0 := hy' hat0
      have HE0 := hy' hbe0
      clear hown hgr hat0 hbe0
      obtain ⟨g, hg⟩ : ∃ g, w2.heap.size = g := ⟨_, rfl⟩
      rw [hg] at HA0 HE0 ⊢
      have HGG := hy' hg
      clear hg hKI
      go_wp2_with fail
      go_loopw [48] (fun vi wr => ∃ (i : Nat) (O : List Nat), vi = .int .i64 (i : Int) ∧ i ≤ m ∧ O.length = K ∧ Nm.Ok O ∧ Nm.val O = Nm.be 256 (out.drop (m - i)) ∧ Nm.At wr g O ∧ Below g w2 wr) (fun vi _ => m - (intOf vi).toNat)
      case atStart => exact ⟨0, _, rfl, by omega, by simp, Nm.ok_zeros _, by rw [Nm.val_zeros, List.drop_of_length_le (by rw [HM.o]; omega)]; rfl, HA0.o, HE0.o⟩
      case round =>
        obtain ⟨i, O, rfl, him, hOl, hOk, hO, hat, hbe⟩ := hrel
        have HOL := hy' hOl
        have HOK := hy' hOk
        have HO := hy' hO
        have HAT2 := hy' hat
        have HBE := hy' hbe
        clear hOl hOk hO hat hbe
        by_cases hlt : i < m
        · have iI : (i : Int) < m := by omega
          have i0' : (0 : Int) ≤ i := by omega
          obtain ⟨k, hk⟩ : ∃ k : Nat, k = m - 1 - i := ⟨_, rfl⟩
          have hkI : (m : Int) - 1 - i = k := by omega
          have hgo : out[k]? = some (out.getD k 0) := Nm.get_of (by rw [HM.o]; omega)
          obtain ⟨x, hx⟩ : ∃ x, out.getD k 0 = x := ⟨_, rfl⟩
          rw [hx] at hgo
          have hxl : x < 256 := HDL.o x (List.mem_of_getElem? hgo)
          have hgs : (Nm.ds s2)[k]? = some x := by
            rw [HDS2.o, List.getElem?_append_left (by rw [HM.o]; omega)]; exact hgo
          have hix := Nm.idx s2 k x hgs
          have hdrop : out.drop (m - (i + 1)) = x :: out.drop (m - i) := by
            rw [show m - (i + 1) = k by omega, show m - i = k + 1 by omega]
            exact (List.drop_eq_getElem_cons (by rw [HM.o]; omega)).trans (by rw [(List.getElem?_eq_some_iff.1 hgo).2])
          have hVl : Nm.val O < 256 ^ i := by
            rw [HO.o]
            have := Nm.be_lt (b := 256) (l := out.drop (m - i)) (fun d hd => HDL.o d (List.mem_of_mem_drop hd))
            rwa [List.length_drop, HM.o, show m - (m - i) = i by omega] at this
          obtain ⟨q, hq⟩ : ∃ q, i / 4 = q := ⟨_, rfl⟩
          obtain ⟨r, hr⟩ : ∃ r, i % 4 = r := ⟨_, rfl⟩
          have hqK : q < K := by have := HKK.o; omega
          have hgO : O[q]? = some (O.getD q 0) := Nm.get_of (by rw [HOL.o]; exact hqK)
          obtain ⟨d, hd⟩ : ∃ d, O.getD q 0 = d := ⟨_, rfl⟩
          rw [hd] at hgO
          obtain ⟨t1, t2, t3⟩ := Nm.take_byte hVl (d := d) (by rw [hq, Nm.digit HOK.o, hd]) hxl
          rw [hr] at t1 t2 t3
          rw [hq] at t3
          obtain ⟨S, hS⟩ : ∃ S, x * 256 ^ r = S := ⟨_, rfl⟩
          rw [hS] at t2 t3
          obtain ⟨T, hT⟩ : ∃ T, d + S = T := ⟨_, rfl⟩
          rw [hT] at t2
          have hS2 : 2 ^ (8 * r) * x = S := by rw [← Nm.pow256, Nat.mul_comm]; exact hS
          have hor := Nm.or32 (a := x) (b := d) (n := 8 * r) (T := T) (by rw [← Nm.pow256]; exact t1) (by rw [hS2, Nat.add_comm]; exact hT) t2
          rw [hS2] at hor
          have hset := Nm.val_set (l := O) (i := q) (d := T) (by rw [HOL.o]; exact hqK)
          rw [hd, ← hT, Nat.mul_add] at hset
          have hval : Nm.val (O.set q T) = Nm.be 256 (out.drop (m - (i + 1))) := by
            rw [hdrop, Nm.be_cons, List.length_drop, HM.o, show m - (m - i) = i by omega, ← HO.o]
            rw [hT] at hset
            omega
          have HVAL := hy' hval
          have hcello := HAT2.o.cell hgO
          have hfr := Rw.At.frozen HAT2.o q
          have hgl := HAT2.o.lt
          have HATS := hy' (HAT2.o.set q T)
          have hqI : (i : Int) / 4 = q := by omega
          have hrI : (i : Int) % 4 = r := by omega
          obtain ⟨Z, hZ⟩ : ∃ Z, 256 ^ r = Z := ⟨_, rfl⟩
          have hZI : (2 : Int) ^ ((8 : Int) * r).toNat = Z := by
            rw [show ((8 : Int) * r).toNat = 8 * r by omega, Nm.pow2_toNat, ← Nm.pow256, hZ]
          have hSI : (x : Int) * Z % 4294967296 = S := by
            rw [← hS, hZ] 
            have : x * Z < 4294967296 := by rw [← hZ, hS]; omega
            have e : ((x * Z : Nat) : Int) = (x : Int) * Z := Int.natCast_mul _ _
            omega
          have r3 : (r : Int) ≤ 3 := by omega
          have r0 : (0 : Int) ≤ r := by omega
          have x0 : (0 : Int) ≤ x := by omega
          have x1 : (x : Int) < 256 := by omega
          have k0 : (0 : Int) ≤ k := by omega
          have qK : (q : Int) < K := by omega
          have HTL := hy' t2
          clear hk hgo hx hgs hdrop hVl hq hr hqK hgO hd t1 t2 t3 hS hT hS2 hset hval hZ
          go_upto_region 19 with (fail)
          go_region
          obtain ⟨wx, hwx⟩ : ∃ wx, (wr.setCell ⟨g, q, none⟩ (.int .u32 (T : Int))).drew = wx := ⟨_, rfl⟩
          rw [hwx]
          have hatx : Nm.At wx g (O.set q T) := by rw [← hwx]; exact HATS.o
          have hbex : Below g w2 wx := by rw [← hwx]; exact (Nm.bel_set HBE.o (Nat.le_refl _) _ _).drew
          have HATX := hy' hatx
          have HBX := hy' hbex
          clear hatx hbex hwx
          go_wp2_with fail
          exact ⟨⟨i + 1, O.set q T, by first | rfl | go_num, by omega, by rw [List.length_set]; exact HOL.o, Nm.ok_set HOK.o HTL.o, HVAL.o, HATX.o, HBX.o⟩, by first | (simp [intOf]; done) | (simp [intOf]; omega)⟩
        · obtain rfl : i = m := by omega
          have iI : ¬ (i : Int) < i := by omega
          obtain ⟨w4, rfl⟩ : ∃ q : World, q = wr := ⟨_, rfl⟩
          have hval : Nm.val O = Nm.be 256 out := by rw [HO.o]; simp
          have HVAL := hy' hval
          have hb4 : Below w.heap.size w w4 := HAL.o.trans (HBE.o.mono (by rw [← HGG.o]; exact HAL.o.size))
          have hat4 : Rw.At w4 w.heap.size 27 [.slice none 0 0] := Rw.At.below' HAT.o HBE.o (by rw [← HGG.o]; exact HAT.o.lt)
          have HB4 := hy' hb4
          have HAT4 := hy' hat4
          have HLM := hy' (fun W (hW : Below w4.heap.size w4 W) => Nm.limbs_any (some ⟨g, 0, none⟩) K K W.heap.size O W HOL.o (by omega) (Nat.le_refl _) HOK.o (HAT2.o.below hW).slt.sl)
          rw [HVAL.o] at HLM
          clear hval hb4 hat4
          go_upto_region 21 with (fail)
          have hsz3 : (i : Int) ≤ s2.size := by omega
          have HQ0 := hy' (Below.refl w4.heap.size w4).drew
          refine Stg.wp_region (by kernel_rfl) (Stg.Keep fun b => b < w.heap.size) (Stg.Keep.rel _) ?_
          refine Stg.readW (by kernel_rfl) ?_; intro K hK; go_big_quiet_op; go_big_quiet_on
          refine Stg.call 5 _ _ rfl Tryd.func5 [.slice (some ⟨g, 0, none⟩) K K] rfl w4.drew _ (HLM.o w4.drew HQ0.o) (by kernel_rfl) rfl ?_
          rintro e q1 ⟨v5, rfl, his, hb⟩; refine ⟨_, rfl, (Stg.Keep.of_below hb (fun q hq => Nat.lt_of_lt_of_le hq (Nat.le_trans HB4.o.size HQ0.o.size))), ?_⟩; have HQ1 := hy' (HQ0.o.trans (hb.mono HQ0.o.size)); obtain ⟨A5, m5, c5, l5, rfl, r5⟩ := id his; have HIS := hy' his; clear his r5; clear hb; intro A' hA'; simp only [Act.put, List.setIfInBounds_toArray, List.set_cons_succ, List.set_cons_zero] at hA'; subst hA'
          refine Stg.readW (by kernel_rfl) ?_; intro K hK; go_big_quiet_op; go_big_quiet_on
          refine Stg.readW (by kernel_rfl) ?_; intro K hK; go_big_quiet_op; go_big_quiet_on
          refine Stg.readW (by kernel_rfl) ?_; intro K hK; go_big_quiet_op; go_big_quiet_on
          have hq := HAT4.o.below HQ1.o
          have u0 := hq.frozen 0
          have u1 := hq.lt
          have u2 := hq.cell 0 rfl
          clear hq
          refine Stg.stepW (by kernel_rfl) q1 rfl ?_; intro K hK; go_simp
          obtain ⟨q2, hwz⟩ : ∃ wz, (q1).setCell ⟨w.heap.size, 0, none⟩ (.slice A5 m5 c5) = wz := ⟨_, rfl⟩
          rw [hwz]
          refine hK _ _ (by rw [← hwz]; exact Stg.Keep.of_grown (Rw.grown_set _ _ _) (fun q hq => ⟨Nat.lt_of_lt_of_le hq (Nat.le_trans HB4.o.size HQ1.o.size), fun e => by cases e; exact absurd hq (Nat.lt_irrefl _)⟩)) ?_
          intro A' hA'; subst hA'
          clear u0 u1 u2
          refine Stg.readW (by kernel_rfl) ?_; intro K hK; go_big_quiet_op; go_big_quiet_on
          refine Stg.readW (by kernel_rfl) ?_; intro K hK; go_big_quiet_op; go_big_quiet_on
          refine Stg.nil q2 rfl ?_
          have e2 : Rw.At q2 w.heap.size 27 [.slice A5 m5 c5] := by rw [← hwz]; exact (HAT4.o.below HQ1.o).set 0 (.slice A5 m5 c5)
          have hbz : Below w.heap.size w q2 := by rw [← hwz]; exact (HB4.o.trans (HQ1.o.mono HB4.o.size)).setCell (Nat.le_refl _) _
          have hisz : Nm.Is q2 (.agg #[.slice A5 m5 c5]) (Nm.be 256 out) ((i + 3) / 4) := by rw [← hwz, HKK.o]; exact HIS.o.setAt (HAT4.o.below HQ1.o) (by decide) 0 _
          have hdr : Nm.ds (s2.extract i s2.size) = rest := by rw [Nm.ds_drop, HDS2.o, ← HM.o]; simp
          have E2 := hy' e2
          have HBZ := hy' hbz
          have HISZ := hy' hisz
          have HDR := hy' hdr
          clear e2 hbz hisz hwz hdr
          go_wp2_with fail
          refine bodyPost_ret (Nm.resultsCTT rfl _ _ w.heap.size 27 #[.slice A5 m5 c5] (0, 0) _ rfl (show _ = _ from E2.o) Tryd.underlying27 rfl (by kernel_rfl)) rfl ?_
          refine ⟨_, _, rfl, HISZ.o, ?_, HBZ.o⟩
          exact HDR.o
end Go.Proofs.YthcdecncnppjaaaDoor
