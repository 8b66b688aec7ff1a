/- The law's fixed fact of the layer model, by walking its text. -/
import Derived.Test.YtamcpdggpdaioaaDoorMdCheck
import Derived.BigRegion
namespace Go.Proofs.YtamcpdggpdaioaaDoor
open Go.RowKit
set_option linter.unusedSimpArgs false
set_option linter.unusedVariables false

def Md.T0 : List Rw.Row := [(197, 0, [65, 778]), (8491, 0, [197])]
theorem Md.T0_ok : Md.Ok Md.T0 ∧ Md.bd Md.T0 ∧ ∀ r ∈ Md.T0, r.2.2.length ≤ 1000000 := by
  have hb : Md.bd Md.T0 := by
    intro r hr
    simp only [Md.T0, List.mem_cons, List.not_mem_nil, or_false] at hr
    rcases hr with rfl | rfl
    · refine ⟨by decide, fun c hc => ?_⟩
      simp only [List.mem_cons, List.not_mem_nil, or_false] at hc
      rcases hc with rfl | rfl <;> decide
    · refine ⟨by decide, fun c hc => ?_⟩
      simp only [List.mem_cons, List.not_mem_nil, or_false] at hc
      subst hc
      decide
  have hl : ∀ r ∈ Md.T0, r.2.2.length ≤ 1000000 := by
    intro r hr
    simp only [Md.T0, List.mem_cons, List.not_mem_nil, or_false] at hr
    rcases hr with rfl | rfl <;> decide
  refine ⟨⟨by decide, ?_, hb, hl⟩, hb, hl⟩
  simp [Md.rises, Md.T0]

set_option maxRecDepth 100000 in
set_option maxHeartbeats 2000000 in
theorem Md.awake_any (w : World) : Calls Tryd.prog 5 #[] w fun e w' => e = .returned (.bool true) ∧ Below w.heap.size w w' := by
  obtain ⟨ok, hbd, hml⟩ := Md.T0_ok
  obtain ⟨wa, hwa⟩ : ∃ wa, (((w.alloc (.cells #[.int .i32 65, .int .i32 778] 21)).alloc (.cells #[.int .i32 197] 21)).alloc (.cells #[.int .i32 197, .int .i64 0, .slice (some ⟨w.heap.size, 0, none⟩) 2 2, .int .i32 8491, .int .i64 0, .slice (some ⟨w.heap.size + 1, 0, none⟩) 1 1] 50)).alloc (.cells #[.slice (some ⟨w.heap.size + 2, 0, none⟩) 2 2, .slice none 0 0] 34) = wa := ⟨_, rfl⟩
  have hbA : Below w.heap.size w wa := by rw [← hwa]; exact ((((Below.refl _ _).alloc (Nat.le_refl _) _).alloc (by simp) _).alloc (by simp; omega) _).alloc (by simp; omega) _
  have hat0 : Rw.At wa w.heap.size 21 [.int .i32 65, .int .i32 778] := by
    rw [← hwa]; exact (((Rw.At.new w 21 [.int .i32 65, .int .i32 778]).alloc _).alloc _).alloc _
  have hat1 : Rw.At wa (w.heap.size + 1) 21 [.int .i32 197] := by
    have h := Rw.At.new (w.alloc (.cells #[.int .i32 65, .int .i32 778] 21)) 21 [.int .i32 197]
    rw [World.size_alloc] at h
    rw [← hwa]; exact (h.alloc _).alloc _
  have hat2 : Rw.At wa (w.heap.size + 2) 50 [.int .i32 197, .int .i64 0, .slice (some ⟨w.heap.size, 0, none⟩) 2 2, .int .i32 8491, .int .i64 0, .slice (some ⟨w.heap.size + 1, 0, none⟩) 1 1] := by
    have h := Rw.At.new ((w.alloc (.cells #[.int .i32 65, .int .i32 778] 21)).alloc (.cells #[.int .i32 197] 21)) 50 [.int .i32 197, .int .i64 0, .slice (some ⟨w.heap.size, 0, none⟩) 2 2, .int .i32 8491, .int .i64 0, .slice (some ⟨w.heap.size + 1, 0, none⟩) 1 1]
    rw [World.size_alloc, World.size_alloc] at h
    rw [← hwa]; exact h.alloc _
  have hat3 : Rw.At wa (w.heap.size + 3) 34 [.slice (some ⟨w.heap.size + 2, 0, none⟩) 2 2, .slice none 0 0] := by
    have h := Rw.At.new (((w.alloc (.cells #[.int .i32 65, .int .i32 778] 21)).alloc (.cells #[.int .i32 197] 21)).alloc (.cells #[.int .i32 197, .int .i64 0, .slice (some ⟨w.heap.size, 0, none⟩) 2 2, .int .i32 8491, .int .i64 0, .slice (some ⟨w.heap.size + 1, 0, none⟩) 1 1] 50)) 34 [.slice (some ⟨w.heap.size + 2, 0, none⟩) 2 2, .slice none 0 0]
    rw [World.size_alloc, World.size_alloc, World.size_alloc] at h
    rw [← hwa]; exact h
  have hIs : Md.Is wa (.agg #[.slice (some ⟨w.heap.size + 2, 0, none⟩) 2 2, .slice none 0 0]) Md.T0 [] := by
    refine ⟨some ⟨w.heap.size + 2, 0, none⟩, 2, none, 0, rfl, ⟨[(some ⟨w.heap.size, 0, none⟩, 2), (some ⟨w.heap.size + 1, 0, none⟩, 1)], rfl, ?_, ?_⟩, Sl.nil _ _ _⟩
    · exact Sl.lit rfl 50 (0, 0) hat2
    · intro i r a hr ha
      rcases i with _ | _ | i
      · simp [Md.T0] at hr ha; subst hr ha
        exact Sl.lit rfl 21 (0, 0) hat0
      · simp [Md.T0] at hr ha; subst hr ha
        exact Sl.lit rfl 21 (0, 0) hat1
      · simp [Md.T0] at hr
  have z0 := hat3.cell 0 rfl
  have z1 := hat3.cell 1 rfl
  have hz := hat3.lt
  have HWA := Lib.hid hwa
  have HBA := Lib.hid hbA
  have HIS := Lib.hid hIs
  have HAT3 := Lib.hid hat3
  have HOK := Lib.hid ok
  have HBD := Lib.hid hbd
  have HML := Lib.hid hml
  have HSRT : Hid (C.srt []) := Lib.hid List.Pairwise.nil
  have hF := Md.full_any _ Md.T0 [] 8491 wa ok hIs (by decide) (by decide)
  have e1 : (Md.full Md.T0 8491).getD [] = [65, 778] := by decide +kernel
  rw [e1] at hF
  clear hwa hbA hat0 hat1 hat2 hat3 hIs ok hbd hml e1
  go_enter Tryd.func5, Tryd.ntmps5
  go_upto_region 2 with (fail)
  rw [HWA.out]
  go_wp2_with fail
  refine hF.mono ?_
  rintro e w1 ⟨A1, c1, rfl, hown1, hb1⟩
  have hat := HAT3.out.below hb1
  have hIs1 := HIS.out.below hb1
  have k0 := hat.cell 0 rfl
  have k1 := hat.cell 1 rfl
  have HB1 := Lib.hid (HBA.out.trans (hb1.mono HBA.out.size))
  obtain ⟨ab, ao, hA, hab, hac⟩ := Sl.of_own hown1 (by simp)
  have d1 : w1.cell? ⟨ab, ao + 1, none⟩ = some (.int .i32 778) := by simpa using hac 1 (by simp)
  have hC := Md.check_any _ Md.T0 [] w1 (by decide) HBD.out HML.out hIs1 HSRT.out (by decide)
  have e2 : Md.chk Md.T0 (C.mem []) = 0 := by decide +kernel
  rw [e2] at hC
  have HIS1 := Lib.hid hIs1
  have HAT := Lib.hid hat
  subst hA
  clear hb1 hown1 hac hat hIs1 hF z0 z1 e2
  go_wp2_with fail
  refine hC.mono ?_
  rintro e w2 ⟨q, v, rfl, hq, hqv, hb2⟩
  obtain rfl : q = [] := by
    cases q with
    | nil => rfl
    | cons x l => simp [F.lk, Md.err] at hq
  obtain rfl : v = .nilIface := hqv
  have hat2 := HAT.out.below hb2
  have hIs2 := HIS1.out.below hb2
  have l0 := hat2.cell 0 rfl
  have l1 := hat2.cell 1 rfl
  have d2 := ((bcell hb2).1 ab (ao + 1) hab).trans d1
  have hP := Md.prim_any _ Md.T0 [] 8491 w2 HOK.out hIs2 HSRT.out (by decide) (by decide) (by decide)
  have e3 : Md.prim Md.T0 (C.mem []) 8491 = false := by decide +kernel
  rw [e3] at hP
  have HB2 := Lib.hid (HB1.out.trans (hb2.mono HB1.out.size))
  have HIS2 := Lib.hid hIs2
  have HAT2 := Lib.hid hat2
  clear hb2 hq hC k0 k1 d1 hat2 hIs2 e3
  go_wp2_with fail
  refine hP.mono ?_
  rintro e w3 ⟨rfl, hb3⟩
  have hat3 := HAT2.out.below hb3
  have m0 := hat3.cell 0 rfl
  have m1 := hat3.cell 1 rfl
  have hP2 := Md.prim_any _ Md.T0 [] 197 w3 HOK.out (HIS2.out.below hb3) HSRT.out (by decide) (by decide) (by decide)
  have e4 : Md.prim Md.T0 (C.mem []) 197 = true := by decide +kernel
  rw [e4] at hP2
  have HB3 := Lib.hid (HB2.out.trans (hb3.mono HB2.out.size))
  clear hb3 hat3 hP l0 l1 d2 e4
  go_wp2_with fail
  refine hP2.mono ?_
  rintro e w4 ⟨rfl, hb4⟩
  have HB4 := Lib.hid (HB3.out.trans (hb4.mono HB3.out.size))
  clear hb4 hP2
  go_wp2_with fail
  go_ret
  exact ⟨rfl, HB4.out⟩
end Go.Proofs.YtamcpdggpdaioaaDoor
