/- The package digits, by walking its text: Put. -/
import Derived.Test.YthcdecncnppjaaaDoorNmBytes
namespace Go.Proofs.YthcdecncnppjaaaDoor
open Go.RowKit
set_option linter.unusedSimpArgs false
set_option linter.unusedVariables false
def Nm.PutPost (n L : Nat) (lb : List Nat) (w : World) (e : Ending) (w' : World) : Prop :=
  ∃ (out : List Nat) (A : Option Addr) (c : Nat), e = .returned (.slice A (lb.length + (4 + out.length)) c) ∧ Nm.BE n out ∧ out.length ≤ 4 * L ∧ Slt w' 5 A (Nm.u8s (lb ++ (Nm.be4 out.length ++ out))) ∧ Below w.heap.size w w'
theorem Nm.be4_at (m j : Nat) (hj : j < 4) : (Nm.be4 m)[3 - j]? = some (m / 2 ^ (8 * j) % 256) := by
  rcases j with _ | _ | _ | _ | j
  · simp [Nm.be4]
  · simp [Nm.be4]
  · simp [Nm.be4]
  · simp [Nm.be4]
  · omega
theorem Nm.be4_snoc (m j : Nat) (hj : j < 4) : (Nm.be4 m).take (3 - j) ++ [m / 2 ^ (8 * j) % 256] = (Nm.be4 m).take (4 - j) := by
  rw [show 4 - j = 3 - j + 1 by omega, List.take_add_one, Nm.be4_at m j hj]; rfl
set_option maxRecDepth 100000 in
set_option maxHeartbeats 2000000 in
theorem Nm.put_any (Ab : Option Addr) (nb cb B : Nat) (lb : List Nat) (v : Value) (n L : Nat) (w : World) (hL : L ≤ 1000) (hb : lb.length = nb) (hb2 : nb ≤ 500000) (hB : B ≤ w.heap.size) (hS : Sl w B Ab (Nm.u8s lb)) (h : Nm.Is w v n L) :
    Calls Tryd.prog 9 #[.slice Ab nb cb, v] w (Nm.PutPost n L lb w) := by
  obtain ⟨i0, hi, hz0, hz1, hz2⟩ := info_parts infoByte
  have HBY := hy' (fun W (hW : Below w.heap.size w W) => Nm.bytes_any v n L W (by omega) (h.below hW))
  obtain ⟨A0, m0, c0, l0, rfl, -⟩ := h
  obtain ⟨wa, hwa⟩ : ∃ wa, w.alloc (.cells #[.slice A0 m0 c0] 27) = wa := ⟨_, rfl⟩
  have hba : Below w.heap.size w wa := by rw [← hwa]; exact (Below.refl _ _).alloc (Nat.le_refl _) _
  have HWA := hy' hwa
  have HBA := hy' hba
  have HLB := hy' hb
  have HS := hy' hS
  have hat : Rw.At wa w.heap.size 27 [.slice A0 m0 c0] := by rw [← hwa]; exact Rw.At.new w 27 [.slice A0 m0 c0]
  have k0 := hat.cell 0 rfl
  have l0' := hat.lt
  clear hwa hba hb hS hat
  go_enter Tryd.func9, Tryd.ntmps9
  go_upto_region 1 with (fail)
  rw [HWA.o]
  go_wp2_with fail
  refine (HBY.o wa HBA.o).mono ?_
  rintro e w1 ⟨out, A1, c1, rfl, hBE, hlen, hsl, hb1⟩
  obtain ⟨m, hm⟩ : ∃ m, out.length = m := ⟨_, rfl⟩
  rw [hm] at hlen ⊢
  have HB1 := hy' (HBA.o.trans (hb1.mono HBA.o.size))
  have HBE := hy' hBE
  have HSL := hy' hsl
  have HM := hy' hm
  have HS1 := hy' (HS.o.belowN (HB1.o) hB (Nat.le_refl _) : Sl w1 B Ab (Nm.u8s lb))
  have HCL := hy' (Nm.cloneB_any Ab nb cb B lb w1 HLB.o (by omega) (Nat.le_trans hB HB1.o.size) HS1.o)
  have hmb : m ≤ 4000 := by omega
  clear hBE hsl hm hb1 k0 l0'
  go_wp2_with fail
  refine HCL.o.mono ?_
  rintro e w2 ⟨A2, c2, rfl, hown, hb2'⟩
  have HB2 := hy' hb2'
  have HO2 := hy' hown
  have HSL2 := hy' (HSL.o.below hb2')
  clear hown hb2'
  go_wp2_with fail
  go_loopw [6, 7] (fun vo vk wr => ∃ (j : Nat) (A : Option Addr) (c : Nat), vo = .slice A (nb + (4 - j)) c ∧ vk = .int .i64 ((j : Int) - 1) ∧ j ≤ 4 ∧ wr.ownsRow w1.heap.size 5 1 (.slice A (nb + (4 - j)) c) (nb + (4 - j)) (Nm.u8s (lb ++ (Nm.be4 m).take (4 - j))) ∧ Below w1.heap.size w1 wr) (fun _ vk _ => (intOf vk + 1).toNat)
  case atStart => exact ⟨4, A2, c2, rfl, rfl, by omega, by simpa using HO2.o, HB2.o⟩
  case round =>
    obtain ⟨j, A, c, rfl, rfl, hj, hown, hbe⟩ := hrel
    have HOW := hy' hown
    have HBE3 := hy' hbe
    have hsz := hbe.size
    clear hown hbe
    rcases j with _ | j
    · have HSL3 := hy' (HSL.o.below HBE3.o)
      have hfin : Nm.u8s (lb ++ (Nm.be4 m).take (4 - 0)) ++ Nm.u8s out = Nm.u8s (lb ++ (Nm.be4 out.length ++ out)) := by
        rw [HM.o]; simp [Nm.u8s, Nm.be4]
      have HFIN := hy' hfin
      clear hfin
      go_wp2_with (at_builtin; refine wpList_appendSl _ rfl _ _ _ rfl w1.heap.size 5 i0 _ 1 1 Tryd.underlying23 hi hz0 hz1 hz2 rfl (by omega) _ (nb + (4 - 0)) _ rfl HOW.o _ A1 m c1 (Nm.u8s out) rfl (by rw [Nm.u8s_len, HM.o]; omega) HSL3.o.sl (Nm.u8s_one _) (by simp only [maxLen]; omega) (by omega) (by omega) ?_; intro v1 w4 hown4 hb4 _; rw [HFIN.o] at hown4; obtain ⟨A4, c4, rfl⟩ := own_form hown4; have HO4 := hy' hown4; have HB4 := hy' (HBE3.o.trans hb4); clear hown4 hb4)
      go_ret
      refine ⟨out, A4, c4, by rw [HLB.o, HM.o, show nb + (4 + m) = nb + (4 - 0) + m by omega]; rfl, HBE.o, by rw [HM.o]; exact hlen, Slt.of_own HO4.o, HB1.o.trans (HB4.o.mono HB1.o.size)⟩
    · have ek : ((j + 1 : Nat) : Int) - 1 = j := by omega
      rw [ek]
      have jg : (j : Int) ≥ 0 := by omega
      have jg0 : (0 : Int) ≤ 8 * (j : Int) := by omega
      have jg3 : 8 * (j : Int) ≤ 64 := by omega
      obtain ⟨Z, hZ⟩ : ∃ Z, 2 ^ (8 * j) = Z := ⟨_, rfl⟩
      have hZI : (2 : Int) ^ ((8 : Int) * j).toNat = Z := by rw [show ((8 : Int) * j).toNat = 8 * j by omega, Nm.pow2_toNat, hZ]
      obtain ⟨e, he⟩ : ∃ e, m / Z = e := ⟨_, rfl⟩
      have heI : (m : Int) / Z = e := by rw [← he]; exact (Int.natCast_ediv _ _).symm
      obtain ⟨y, hy⟩ : ∃ y, e % 256 = y := ⟨_, rfl⟩
      have hyI : (e : Int) % 256 = y := by omega
      have hsn := Nm.be4_snoc m j (by omega)
      rw [hZ, he, hy] at hsn
      have hu : Nm.u8s (lb ++ (Nm.be4 m).take (4 - (j + 1))) ++ [Value.int .u8 (y : Int)] = Nm.u8s (lb ++ (Nm.be4 m).take (4 - j)) := by
        rw [← hsn]; simp [Nm.u8s]
      have HU := hy' hu
      obtain ⟨ln, hln⟩ : ∃ k, nb + (4 - (j + 1)) = k := ⟨_, rfl⟩
      have hln2 : nb + (4 - j) = ln + 1 := by omega
      rw [hln] at HOW ⊢
      have HLN2 := hy' hln2
      have hlb : ln ≤ 500004 := by omega
      clear hZ he hy hsn hu hln hln2
      go_wp2_with (at_builtin; refine wpList_push1 _ rfl _ _ _ rfl w1.heap.size 5 i0 _ 1 Tryd.underlying23 hi hz0 hz1 hz2 rfl _ ln _ rfl HOW.o _ rfl rfl (by simp only [maxLen]; omega) (by omega) hsz ?_; intro v1 w4 hown4 hb4; rw [HU.o] at hown4; obtain ⟨A4, c4, rfl⟩ := own_form hown4; have HO4 := hy' hown4; have HB4 := hy' (HBE3.o.trans hb4); clear hown4 hb4)
      exact ⟨⟨j, A4, c4, by rw [HLN2.o], rfl, by omega, by rw [HLN2.o]; exact HO4.o, HB4.o⟩, by first | (simp [intOf]; done) | (simp [intOf]; omega)⟩
end Go.Proofs.YthcdecncnppjaaaDoor
