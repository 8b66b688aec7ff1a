/- The package digits, by walking its text: Parse. -/
import Derived.Test.YthcdecncnppjaaaDoorNmText
namespace Go.Proofs.YthcdecncnppjaaaDoor
open Go.RowKit
set_option linter.unusedSimpArgs false
set_option linter.unusedVariables false
def Nm.strLen : Value → Nat
  | .string s => s.size
  | _ => 0
def Nm.nn (v5 : Value) : Nat := if intOf v5 = 9 then 0 else 1
def Nm.ParsePost (n : Nat) (w : World) (e : Ending) (w' : World) : Prop :=
  ∃ v, e = .returned (.tuple #[v, .int .i64 0]) ∧ Nm.Is w' v n 20000 ∧ Below w.heap.size w w'
/-- A text's digits. -/
def Nm.dv (l : List Nat) : List Nat := l.map (· - 48)
theorem Nm.dv_lt {l : List Nat} (h : ∀ d ∈ l, 48 ≤ d ∧ d ≤ 57) : ∀ d ∈ Nm.dv l, d < 10 := by
  intro d hd
  obtain ⟨x, hx, rfl⟩ := List.mem_map.1 hd
  have := h x hx
  omega
set_option maxRecDepth 100000 in
set_option maxHeartbeats 8000000 in
theorem Nm.parse_any (s : ByteArray) (n : Nat) (w : World) (hs : s.size ≤ 10000) (hD : Nm.Dec (Nm.ds s)) (hn : Nm.be 10 (Nm.dv (Nm.ds s)) = n) :
    Calls Tryd.prog 11 #[.string s] w (Nm.ParsePost n w) := by
  have HRI := hy' (fun W => Nm.rightD_any s W (by omega) hD)
  have HDD := hy' hD.1
  obtain ⟨N, hN⟩ : ∃ N, s.size = N := ⟨_, rfl⟩
  have hsn : ¬ (10000 : Int) < s.size := by omega
  have HN := hy' hN
  have HS := hy' hn
  have hs2 : N ≤ 10000 := by omega
  obtain ⟨wa, hwa⟩ : ∃ wa, w.alloc (.cells #[.slice none 0 0] 27) = wa := ⟨_, rfl⟩
  have hba : Below w.heap.size w wa := by rw [← hwa]; exact (Below.refl _ _).alloc (Nat.le_refl _) _
  have hat : Rw.At wa w.heap.size 27 [.slice none 0 0] := by rw [← hwa]; exact Rw.At.new w 27 [.slice none 0 0]
  have HWA := hy' hwa
  have HBA := hy' hba
  have HATA := hy' hat
  clear hwa hba hat hN hn hD hs
  go_enter Tryd.func11, Tryd.ntmps11
  go_upto_region 1 with (fail)
  rw [HWA.o]
  go_wp2_with fail
  refine (HRI.o wa).mono ?_
  rintro e w1 ⟨rfl, hw1⟩
  rw [hw1]
  clear hw1
  obtain ⟨wb, hwb⟩ : ∃ wb, wa.alloc (.cells #[.slice none 0 0] 27) = wb := ⟨_, rfl⟩
  have hbb : Below w.heap.size w wb := by rw [← hwb]; exact HBA.o.alloc HBA.o.size _
  have hatb : Rw.At wb wa.heap.size 27 [.slice none 0 0] := by rw [← hwb]; exact Rw.At.new wa 27 [.slice none 0 0]
  have hata : Rw.At wb w.heap.size 27 [.slice none 0 0] := by rw [← hwb]; exact HATA.o.alloc _
  have HWB := hy' hwb
  have HBB := hy' hbb
  have HATB := hy' hatb
  have HAT0 := hy' hata
  obtain ⟨g, hg⟩ : ∃ g, wa.heap.size = g := ⟨_, rfl⟩
  rw [hg] at HATB
  have HG := hy' (show w.heap.size < g by rw [← hg]; exact HATA.o.lt)
  have hmod : (s.size : Int) % 9 = ((N % 9 : Nat) : Int) := by rw [HN.o]; omega
  clear hwb hbb hatb hata
  go_upto_region 6 with (fail)
  clear hg
  go_wp2_with fail
  rw [HWB.o]
  clear hmod
  go_loopw [0, 5] (fun v0 v5 wr => ∃ (s1 : ByteArray) (f L V : Nat) (tk : List Nat) (A : Option Addr) (m c : Nat), v0 = .string s1 ∧ v5 = .int .i64 (f : Int) ∧ Nm.ds s = tk ++ Nm.ds s1 ∧ ((f = s1.size % 9 ∧ L = 0) ∨ (f = 9 ∧ s1.size % 9 = 0 ∧ L ≤ tk.length + 3)) ∧ V = Nm.be 10 (Nm.dv tk) ∧ Rw.At wr g 27 [.slice A m c] ∧ Nm.Is wr (.agg #[.slice A m c]) V L ∧ Rw.At wr w.heap.size 27 [.slice none 0 0] ∧ Below w.heap.size w wr) (fun v0 v5 _ => 2 * Nm.strLen v0 + Nm.nn v5)
  case atStart => exact ⟨s, N % 9, 0, 0, [], none, 0, 0, rfl, by rw [show ((N % 9 : Nat) : Int) = (s.size : Int) % 9 by rw [HN.o]; omega], rfl, .inl ⟨by rw [HN.o], rfl⟩, rfl, HATB.o, Nm.zero_is _ _, HAT0.o, HBB.o⟩
  case round =>
    obtain ⟨s1, f, L, V, tk, A, m, c, rfl, rfl, hds, hfL, hV, hat, his, hat0, hbe⟩ := hrel
    obtain ⟨wq, rfl⟩ : ∃ q : World, q = wr := ⟨_, rfl⟩
    have HDS := hy' hds
    have HFL := hy' hfL
    have HV := hy' hV
    have HAT := hy' hat
    have HIS := hy' his
    have HA0 := hy' hat0
    have HBE := hy' hbe
    have hlen : N = tk.length + s1.size := by rw [← HN.o, ← Nm.ds_len s, hds, List.length_append, Nm.ds_len]
    have HLEN := hy' hlen
    clear hds hfL hV hat his hat0 hbe hlen
    by_cases hs0 : s1.size = 0
    · have hemp : s1.toList.isEmpty = true := by
        rw [ByteArray.toList_eq]
        have : s1.data.toList = [] := List.eq_nil_of_length_eq_zero (by have := hs0; simpa using this)
        rw [this]; rfl
      have hd0 : Nm.ds s1 = [] := List.eq_nil_of_length_eq_zero (by rw [Nm.ds_len]; exact hs0)
      have hVn : V = n := by rw [HV.o, ← HS.o, HDS.o, hd0, List.append_nil]
      have HVN := hy' hVn
      have hL : L ≤ 20000 := by
        have := HFL.o
        have := HLEN.o
        omega
      have k0 := HA0.o.cell 0 rfl
      have k1 := HAT.o.cell 0 rfl
      have f0 := HA0.o.frozen 0
      have l0 := HA0.o.lt
      have l1 := HAT.o.lt
      clear hs0 hd0 hVn
      go_wp2_with fail
      have e0 := HA0.o.set 0 (.slice A m c)
      refine bodyPost_ret (Rw.results2 rfl _ _ w.heap.size 27 #[.slice A m c] (0, 0) _ rfl (show _ = _ from e0) Tryd.underlying27 rfl (by kernel_rfl)) rfl ?_
      exact ⟨_, rfl, by rw [← HVN.o]; exact (HIS.o.setAt HA0.o (by decide) 0 _).more hL, HBE.o.setCell (p := ⟨w.heap.size, 0, none⟩) (Nat.le_refl _) _⟩
    · have hemp : s1.toList.isEmpty = false := by
        rw [ByteArray.toList_eq]
        cases hl : s1.data.toList with
        | nil => exact absurd (by have := congrArg List.length hl; simpa using this) hs0
        | cons x r => rfl
      have hf9 : f ≤ 9 ∧ f ≤ s1.size ∧ (s1.size - f) % 9 = 0 ∧ (f = 9 ∨ f < 9) := by
        have := HFL.o
        omega
      have hL0 : L ≤ 20000 := by
        have := HFL.o
        have := HLEN.o
        omega
      have HF9 := hy' hf9
      have hs1b : s1.size ≤ 10000 := by have := HLEN.o; omega
      clear hf9
      go_wp2_with fail
      go_loopw [6, 7, 25] (fun vb vd vi wr => ∃ i : Nat, vb = .int .u64 ((10 ^ i : Nat) : Int) ∧ vd = .int .u64 ((Nm.be 10 (Nm.dv ((Nm.ds s1).take i)) : Nat) : Int) ∧ vi = .int .i64 (i : Int) ∧ i ≤ f ∧ wr = wq) (fun _ _ vi _ => f - (intOf vi).toNat)
      case atStart => exact ⟨0, rfl, rfl, rfl, by omega, rfl⟩
      case round =>
        obtain ⟨i, rfl, rfl, rfl, hif, rfl⟩ := hrel
        have hfb : f ≤ 9 := HF9.o.1
        have hp10 : 10 ^ i ≤ 1000000000 := by
          rw [show (1000000000 : Nat) = 10 ^ 9 by decide]; exact Nat.pow_le_pow_right (by decide) (by omega)
        have hbl : Nm.be 10 (Nm.dv ((Nm.ds s1).take i)) < 1000000000 := by
          have h1 := Nm.be_lt (b := 10) (Nm.dv_lt (l := (Nm.ds s1).take i) (fun d hd => HDD.o d (by rw [HDS.o]; exact List.mem_append_right _ (List.mem_of_mem_take hd))))
          have h2 : (10 : Nat) ^ (Nm.dv ((Nm.ds s1).take i)).length ≤ 10 ^ 9 := Nat.pow_le_pow_right (by decide) (by unfold Nm.dv; rw [List.length_map, List.length_take]; omega)
          rw [show (10 : Nat) ^ 9 = 1000000000 by decide] at h2
          omega
        by_cases hlt : i < f
        · have iI : (i : Int) < f := by omega
          have hg : (Nm.ds s1)[i]? = some ((Nm.ds s1).getD i 0) := Nm.get_of (by rw [Nm.ds_len]; have := HF9.o.2.1; omega)
          obtain ⟨d, hd⟩ : ∃ d, (Nm.ds s1).getD i 0 = d := ⟨_, rfl⟩
          rw [hd] at hg
          obtain ⟨hd1, hd2⟩ := HDD.o d (by rw [HDS.o]; exact List.mem_append_right _ (List.mem_of_getElem? hg))
          have hix := Nm.idx s1 i d hg
          have hst : Nm.be 10 (Nm.dv ((Nm.ds s1).take (i + 1))) = Nm.be 10 (Nm.dv ((Nm.ds s1).take i)) * 10 + (d - 48) := by
            rw [List.take_add_one, hg]
            show Nm.be 10 (Nm.dv ((Nm.ds s1).take i ++ [d])) = _
            unfold Nm.dv
            rw [List.map_append, List.map_cons, List.map_nil, Nm.be_snoc]
          have HST := hy' hst
          obtain ⟨B, hB⟩ : ∃ B, Nm.be 10 (Nm.dv ((Nm.ds s1).take i)) = B := ⟨_, rfl⟩
          rw [hB] at hbl HST ⊢
          obtain ⟨p, hp⟩ : ∃ p, 10 ^ i = p := ⟨_, rfl⟩
          rw [hp] at hp10 ⊢
          have HP := hy' (show 10 ^ (i + 1) = p * 10 by rw [Nat.pow_succ, hp])
          obtain ⟨x, hx⟩ : ∃ x, d - 48 = x := ⟨_, rfl⟩
          rw [hx] at HST
          have hxI : (d : Int) - 48 = x := by omega
          have hxl : x < 10 := by omega
          have b0 : (0 : Int) ≤ B := by omega
          have b1 : (B : Int) < 1000000000 := by omega
          have p0 : (0 : Int) ≤ p := by omega
          have p1 : (p : Int) ≤ 1000000000 := by omega
          have x0 : (0 : Int) ≤ x := by omega
          have x1 : (x : Int) < 10 := by omega
          have d0 : (48 : Int) ≤ d := by omega
          have d1 : (d : Int) ≤ 57 := by omega
          clear hg hd hst hB hp hx
          go_wp2_with fail
          exact ⟨⟨i + 1, by rw [HP.o, Int.natCast_mul]; rfl, by rw [HST.o, Int.natCast_add, Int.natCast_mul]; rfl, by first | rfl | go_num, by omega, by first | rfl | trivial⟩, by first | (simp [intOf]; done) | (simp [intOf]; omega)⟩
        · obtain rfl : i = f := by omega
          have iI : ¬ (i : Int) < i := by omega
          obtain ⟨wq, rfl⟩ : ∃ q : World, q = wr := ⟨_, rfl⟩
          obtain ⟨B, hB⟩ : ∃ B, Nm.be 10 (Nm.dv ((Nm.ds s1).take i)) = B := ⟨_, rfl⟩
          rw [hB] at hbl ⊢
          obtain ⟨p, hp⟩ : ∃ p, 10 ^ i = p := ⟨_, rfl⟩
          rw [hp] at hp10 ⊢
          -- the digits so far
          have hnew : Nm.be 10 (Nm.dv (tk ++ (Nm.ds s1).take i)) = V * p + B := by
            unfold Nm.dv
            rw [List.map_append, Nm.be_app, List.length_map, List.length_take, Nm.ds_len, Nat.min_eq_left HF9.o.2.1, hp]
            have h1 : Nm.be 10 (tk.map (· - 48)) = V := HV.o.symm
            have h2 : Nm.be 10 (((Nm.ds s1).take i).map (· - 48)) = B := hB
            rw [h1, h2]
          have HNEW := hy' hnew
          have HO1 := hy' (fun W => Nm.of_any p W (by omega))
          have HO2 := hy' (fun W => Nm.of_any B W (by omega))
          have HG2 : Hy (∀ W, Below wq.heap.size wq W → (∀ u : Stg.Later Stg.Ex W, u.val.cell? ⟨g, 0, none⟩ = some (.slice A m c))) := hy' fun W hW =>
            have h0 := HAT.o.below hW
            Stg.cells (h0.cell 0 rfl) h0.lt
          have HMU := hy' (fun W (u16 : Value) (hW : Below wq.heap.size wq W) (h16 : Nm.Is W u16 p 2) => Nm.mul_any (.agg #[.slice A m c]) u16 V p L 2 W (by omega) (by omega) (HIS.o.below hW) h16)
          have HQ0 := hy' (Below.refl wq.heap.size wq).drew
          clear hB hp hnew
          go_upto_region 16 with (fail)
          refine Stg.wp_region (by kernel_rfl) Stg.Ex Stg.Ex.rel ?_
          obtain f0 := HG2.o wq.drew HQ0.o
          refine Stg.read 0 (by kernel_rfl) wq.drew rfl ?_; intro K hK; go_big_quiet_op; go_big_quiet_on
          refine Stg.readW (by kernel_rfl) ?_; intro K hK; go_big_quiet_op; go_big_quiet_on
          refine Stg.call 4 _ _ rfl Tryd.func4 [.int .u64 (p : Int)] rfl wq.drew _ (HO1.o wq.drew) (by kernel_rfl) rfl ?_
          rintro e q1 ⟨v1, rfl, his1, hb⟩; refine ⟨_, rfl, hb, ?_⟩; have HQ1 := hy' (HQ0.o.trans (hb.mono HQ0.o.size)); have HI1 := hy' his1; obtain ⟨A1, m1, c1, l1, rfl, r1⟩ := id his1; clear his1 r1; clear hb; intro A' hA'; simp only [Act.put, List.setIfInBounds_toArray, List.set_cons_succ, List.set_cons_zero] at hA'; subst hA'
          refine Stg.call 8 _ _ rfl Tryd.func8 [.agg #[.slice A m c], .agg #[.slice A1 m1 c1]] rfl q1 _ (HMU.o q1 _ HQ1.o HI1.o) (by kernel_rfl) rfl ?_
          rintro e q2 ⟨v2, rfl, his2, hb⟩; refine ⟨_, rfl, hb, ?_⟩; have HQ2 := hy' (HQ1.o.trans (hb.mono HQ1.o.size)); have HI2 := hy' his2; obtain ⟨A2, m2, c2, l2, rfl, r2⟩ := id his2; clear his2 r2; clear hb; intro A' hA'; simp only [Act.put, List.setIfInBounds_toArray, List.set_cons_succ, List.set_cons_zero] at hA'; subst hA'
          refine Stg.readW (by kernel_rfl) ?_; intro K hK; go_big_quiet_op; go_big_quiet_on
          refine Stg.call 4 _ _ rfl Tryd.func4 [.int .u64 (B : Int)] rfl q2 _ (HO2.o q2) (by kernel_rfl) rfl ?_
          rintro e q3 ⟨v3, rfl, his3, hb⟩; refine ⟨_, rfl, hb, ?_⟩; have HQ3 := hy' (HQ2.o.trans (hb.mono HQ2.o.size)); have HI3 := hy' his3; have HI23 := hy' (HI2.o.below hb); obtain ⟨A3, m3, c3, l3, rfl, r3⟩ := id his3; clear his3 r3; clear hb; intro A' hA'; simp only [Act.put, List.setIfInBounds_toArray, List.set_cons_succ, List.set_cons_zero] at hA'; subst hA'
          refine Stg.call 7 _ _ rfl Tryd.func7 [.agg #[.slice A2 m2 c2], .agg #[.slice A3 m3 c3]] rfl q3 _ (Nm.add_any _ _ (V * p) B (L + 2) 2 q3 (by omega) (by omega) HI23.o HI3.o) (by kernel_rfl) rfl ?_
          rintro e q4 ⟨v4, rfl, his4, hb⟩; refine ⟨_, rfl, hb, ?_⟩; have HQ4 := hy' (HQ3.o.trans (hb.mono HQ3.o.size)); have HI4 := hy' his4; obtain ⟨A4, m4, c4, l4, rfl, r4⟩ := id his4; clear his4 r4; clear hb; intro A' hA'; simp only [Act.put, List.setIfInBounds_toArray, List.set_cons_succ, List.set_cons_zero] at hA'; subst hA'
          have hq := HAT.o.below HQ4.o
          have u0 := hq.frozen 0
          have u1 := hq.lt
          have u2 := hq.cell 0 rfl
          clear hq
          refine Stg.last (by kernel_rfl) q4 rfl ?_; intro K hK; go_simp
          obtain ⟨wz, hwz⟩ : ∃ wz, (q4).setCell ⟨g, 0, none⟩ (.slice A4 m4 c4) = wz := ⟨_, rfl⟩
          rw [hwz]
          refine hK _ _ ?_
          intro A' hA'; subst hA'
          clear u0 u1 u2
          clear f0
          refine Stg.nil wz rfl ?_
          have hsz : (i : Int) ≤ s1.size := by have := HF9.o.2.1; omega
          have hatz : Rw.At wz g 27 [.slice A4 m4 c4] := by rw [← hwz]; exact (HAT.o.below HQ4.o).set 0 (.slice A4 m4 c4)
          have hat0z : Rw.At wz w.heap.size 27 [.slice none 0 0] := by rw [← hwz]; exact (HA0.o.below HQ4.o).other (by have := HG.o; omega) _
          have hisz : Nm.Is wz (.agg #[.slice A4 m4 c4]) (V * p + B) (max (L + 2) 2 + 1) := by rw [← hwz]; exact HI4.o.setAt (HAT.o.below HQ4.o) (by decide) 0 _
          have hbz : Below w.heap.size w wz := by rw [← hwz]; exact (HBE.o.trans (HQ4.o.mono HBE.o.size)).setCell (p := ⟨g, 0, none⟩) (Nat.le_of_lt HG.o) _
          have HATZ := hy' hatz
          have HAT0Z := hy' hat0z
          have HISZ := hy' hisz
          have HBZ := hy' hbz
          clear hatz hat0z hisz hbz hwz
          go_wp2_with fail
          have hex : s1.extract i s1.size = s1.extract i s1.size := rfl
          obtain ⟨s2, hs2e⟩ : ∃ s2, s1.extract i s1.size = s2 := ⟨_, rfl⟩
          have hd2 : Nm.ds s2 = (Nm.ds s1).drop i := by rw [← hs2e, Nm.ds_drop]
          have hz2 : s2.size = s1.size - i := by rw [← Nm.ds_len, hd2, List.length_drop, Nm.ds_len]
          first | rw [hs2e] | skip
          have hf := HF9.o
          have hfl := HFL.o
          refine ⟨⟨s2, 9, max (L + 2) 2 + 1, V * p + B, tk ++ (Nm.ds s1).take i, A4, m4, c4, rfl, rfl, ?_, .inr ⟨rfl, ?_, ?_⟩, HNEW.o.symm, HATZ.o, HISZ.o, HAT0Z.o, HBZ.o⟩, ?_⟩
          · rw [hd2, List.append_assoc, List.take_append_drop]; exact HDS.o
          · rw [hz2]; exact hf.2.2.1
          · rw [List.length_append, List.length_take, Nm.ds_len]; omega
          · show 2 * s2.size + Nm.nn (.int .i64 9) < 2 * s1.size + Nm.nn (.int .i64 (i : Int))
            unfold Nm.nn intOf
            simp only []
            rw [hz2]
            simp only [if_true]
            by_cases h9 : i = 9
            · subst h9; simp; omega
            · rw [if_neg (by omega)]; omega
end Go.Proofs.YthcdecncnppjaaaDoor
