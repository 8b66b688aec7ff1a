/- The law FaultMakes, by walking its text. -/
import Derived.Test.YtlcjpbcdemkfeaaDoorFaCauses
namespace Go.Proofs.YtlcjpbcdemkfeaaDoor
open Go.RowKit Go.Stop
set_option linter.unusedSimpArgs false
set_option linter.unusedVariables false

theorem F.oneq {q : List (Nat × Int × Int × ByteArray)} {x : Int × Int × ByteArray} (h : F.lk q = [x]) : ∃ b, q = [(b, x)] := by
  unfold F.lk at h
  rcases q with _ | ⟨y, _ | ⟨z, t⟩⟩
  · simp at h
  · simp at h; exact ⟨y.1, by rw [← h]⟩
  · simp at h
theorem F.nilq {q : List (Nat × Int × Int × ByteArray)} (h : F.lk q = []) : q = [] := by
  unfold F.lk at h; simpa using h

set_option maxRecDepth 100000 in
set_option maxHeartbeats 8000000 in
theorem F.makes_law (c0 n : Int) (s0 : ByteArray) (w : World) (hs0 : s0.size ≤ maxLen) (hc1 : -9223372036854775808 ≤ c0) (hc2 : c0 ≤ 9223372036854775807) (hL : F.Laid w) :
    Calls Tryd.prog 5 #[.int .i64 c0, .int .i64 n, .string s0] w fun e w' => e = .returned (.bool true) ∧ Below w.heap.size w w' := by
  have HA := Lib.hid (F.awake_any w hL)
  have HL := Lib.hid hL
  unfold maxLen at hs0
  clear hL
  go_enter Tryd.func5, Tryd.ntmps5
  go_wp2_with fail
  refine HA.out.mono ?_
  rintro e w1 ⟨rfl, hb1⟩
  have HL1 := Lib.hid (HL.out.next hb1)
  have HB1 := Lib.hid hb1
  clear hb1
  go_upto_region 3 with (fail)
  go_cut [0] (fun s0 wx => ∃ c : Int, s0 = .int .i64 c ∧ wx = w1)
  case first =>
    go_wp2_with fail
    go_meet
    exact ⟨_, rfl, rfl⟩
  case rest =>
    obtain ⟨c, rfl, hwc⟩ := hcut
    subst hwc
    go_upto_if 18 with (fail)
    go_cut [2] (fun s2 wx => ∃ s : ByteArray, s2 = .string s ∧ wx = wc)
    case first =>
      by_cases hlt : (20 : Int) < s0.size
      · go_wp2_with fail
        go_meet
        exact ⟨_, rfl, rfl⟩
      · go_wp2_with fail
        go_meet
        exact ⟨_, rfl, rfl⟩
    case rest =>
      obtain ⟨s, rfl, hwc⟩ := hcut
      subst hwc
      obtain ⟨w1, rfl⟩ : ∃ w1 : World, w1 = wc := ⟨_, rfl⟩
      have hs1 := HB1.out.size
      go_wp2_with fail
      refine (F.at_any c n s _).mono ?_
      rintro e w2 ⟨qa, va, rfl, hla, hqa, hb2⟩
      have HLA := Lib.hid hla
      have HQA := Lib.hid hqa
      have HB2 := Lib.hid hb2
      have hs2 := hb2.size
      have HL2 := Lib.hid (HL1.out.next hb2)
      clear hla hqa hb2
      go_wp2_with fail
      refine (F.of_any c _).mono ?_
      rintro e w3 ⟨qb, vb, rfl, hlb, hqb, hb3⟩
      have HLB := Lib.hid hlb
      have HQB := Lib.hid hqb
      have hs3 := hb3.size
      have HL3 := Lib.hid (HL2.out.next hb3)
      have HQA3 := Lib.hid (HQA.out.below hb3 (Nat.le_refl _) hs3)
      have HB3 : Hid (Below w.heap.size w w3) := Lib.hid ((HB1.out.trans (HB2.out.mono hs1)).trans (hb3.mono (by omega)))
      clear hlb hqb hb3 HQA HL2 HB2 HB1 HL1
      by_cases hc : c = 0
      · subst hc
        obtain rfl : qa = [] := F.nilq (by rw [HLA.out, if_pos rfl])
        obtain rfl : qb = [] := F.nilq (by rw [HLB.out, if_pos rfl])
        obtain rfl : va = .nilIface := HQA3.out
        obtain rfl : vb = .nilIface := HQB.out
        clear HLA HLB HQA3 HQB
        go_wp2_with fail
        refine (F.code_any 0 [] .nilIface _ HL3.out (Nat.zero_le _) rfl).mono ?_
        rintro e w4 ⟨rfl, hb4⟩
        have HL4 := Lib.hid (HL3.out.next hb4)
        have HB4 := Lib.hid (HB3.out.trans (hb4.mono HB3.out.size))
        clear hb4
        rw [show F.code (F.lk []) = 0 from rfl]
        go_wp2_with fail
        refine (F.text_any 0 [] .nilIface _ HL4.out (Nat.zero_le _) rfl (by decide) (by intro x hx; simp [F.lk] at hx)).mono ?_
        rintro e w5 ⟨rfl, hb5⟩
        have HL5 := Lib.hid (HL4.out.next hb5)
        have HB5 := Lib.hid (HB4.out.trans (hb5.mono HB4.out.size))
        clear hb5
        rw [show F.text (F.lk []) = ⟨#[]⟩ from rfl]
        go_wp2_with fail
        refine (F.wrap_any 0 [] .nilIface s _ HL5.out (Nat.zero_le _) rfl).mono ?_
        rintro e w6 ⟨q6, v6, rfl, hl6, hq6, hb6⟩
        obtain rfl : q6 = [] := F.nilq (by rw [hl6]; rfl)
        obtain rfl : v6 = .nilIface := hq6
        go_wp2
        go_ret
        exact ⟨rfl, HB5.out.trans (hb6.mono HB5.out.size)⟩
      · have hla : F.lk qa = [(c, n, s)] := by rw [HLA.out, if_neg hc]
        have hlb : F.lk qb = [(c, 0, ⟨#[]⟩)] := by rw [HLB.out, if_neg hc]
        have HLKB := Lib.hid hlb
        obtain ⟨ba, rfl⟩ := F.oneq hla
        obtain ⟨bb, rfl⟩ := F.oneq hlb
        have hqa := HQA3.out
        have hqb := HQB.out
        obtain ⟨rfl, hba, ea, hbla, hea⟩ := hqa
        obtain rfl : ea = .nilIface := hea
        obtain ⟨rfl, hbb, eb, hblb, heb⟩ := hqb
        have hqb := HQB.out
        have hal : Below w3.heap.size w3 (w3.alloc (.cells #[.pointer none] 42)) := (Below.refl _ _).alloc (Nat.le_refl _) _
        have hn := heap_alloc_new w3 (.cells #[.pointer none] 42)
        obtain ⟨hc0, hf0⟩ := blk_cell hn 0
        simp only [List.getElem?_toArray, List.getElem?_cons_zero] at hc0
        have HL4 := Lib.hid (HL3.out.next hal)
        have HBA := Lib.hid hal
        have HBLA := Lib.hid hbla
        have HQB4 := Lib.hid hqb
        clear hal hn HLA HLB HQA3 HQB hbla hblb heb hqb hla hlb
        go_wp2_with fail
        refine (F.as_hit' ⟨ba, 0, none⟩ ⟨w3.heap.size, 0, none⟩ (.pointer none) _ HL4.out hc0 hf0).mono ?_
        rintro e w5 ⟨rfl, hp5, hb5⟩
        have hb35 := HBA.out.trans hb5
        have hbl5 := (hb35.block ba hba).trans HBLA.out
        obtain ⟨d0, _⟩ := blk_cell hbl5 0
        obtain ⟨d1, _⟩ := blk_cell hbl5 1
        obtain ⟨d2, _⟩ := blk_cell hbl5 2
        obtain ⟨d3, _⟩ := blk_cell hbl5 3
        simp only [List.getElem?_toArray, List.getElem?_cons_zero, List.getElem?_cons_succ] at d0 d1 d2 d3
        have HL5 := Lib.hid (HL3.out.next hb35)
        have HQ5 := Lib.hid (HQB4.out.below hb35 (Nat.le_refl _) (Nat.le_refl _))
        have HB5 : Hid (Below w.heap.size w w5) := Lib.hid (HB3.out.trans (hb35.mono HB3.out.size))
        have hs5 := hb35.size
        clear hb35 hbl5 hb5 hc0 hf0
        go_wp2_with fail
        refine (F.code_any w3.heap.size _ _ _ HL5.out hs5 HQ5.out).mono ?_
        rw [HLKB.out]
        rintro e w6 ⟨rfl, hb6⟩
        have HQ6 := Lib.hid (HQ5.out.below hb6 hs5 (Nat.le_refl _))
        have HB6 := Lib.hid (HB5.out.trans (hb6.mono HB5.out.size))
        have hs6 : w3.heap.size ≤ w6.heap.size := Nat.le_trans hs5 hb6.size
        rw [show F.code [(c, 0, ⟨#[]⟩)] = c from rfl]
        clear hb6
        go_wp2_with fail
        refine (F.line_any w3.heap.size _ _ _ hs6 HQ6.out (by simp)).mono ?_
        rw [HLKB.out]
        rintro e w7 ⟨rfl, hb7⟩
        have HQ7 := Lib.hid (HQ6.out.below hb7 hs6 (Nat.le_refl _))
        have HB7 := Lib.hid (HB6.out.trans (hb7.mono HB6.out.size))
        have hs7 : w3.heap.size ≤ w7.heap.size := Nat.le_trans hs6 hb7.size
        rw [show F.line [(c, 0, ⟨#[]⟩)] = 0 from rfl]
        clear hb7
        go_wp2_with fail
        refine (F.notes_any w3.heap.size _ _ _ hs7 HQ7.out (by simp)).mono ?_
        rw [HLKB.out, show F.notes [(c, 0, ⟨#[]⟩)] = [] from rfl]
        rintro e w8 ⟨A8, c8, rfl, _, hb8⟩
        go_wp2
        go_ret
        exact ⟨rfl, HB7.out.trans (hb8.mono HB7.out.size)⟩
theorem F.makes_row (w : World) (c : Int) (h1 : -9223372036854775808 ≤ c) (h2 : c ≤ 9223372036854775807) (n : Int) (_ : -9223372036854775808 ≤ n) (_ : n ≤ 9223372036854775807) (s : ByteArray) (hs : s.size ≤ maxLen) (hL : F.Laid w) :
    Calls Tryd.prog 5 #[.int .i64 c, .int .i64 n, .string s] w fun e w' => e = .returned (.bool true) ∧ Below w.heap.size w w' :=
  F.makes_law c n s w hs h1 h2 hL
end Go.Proofs.YtlcjpbcdemkfeaaDoor
