/- The law ExtractAngstrom, by walking its text. -/
import Derived.Test.YtbeakahjbkdeiaaGreatDoorTxAwake
import Derived.Test.YtbeakahjbkdeiaaGreatDoorFiBits
import Derived.Test.YtbeakahjbkdeiaaGreatDoorHangulC
import Derived.Test.YtbeakahjbkdeiaaGreatDoorDvMore
namespace Go.Proofs.YtbeakahjbkdeiaaGreatDoor
open Go.RowKit
set_option linter.unusedSimpArgs false
set_option linter.unusedVariables false
theorem Xt.full15 : Ud.full Xt.T 7785 = [115, 803, 775] := by decide +kernel
theorem Xt.full212b : Ud.full Xt.T 8491 = [65, 778] := by decide +kernel
theorem Xt.fullC5 : Ud.full Xt.T 197 = [65, 778] := by decide +kernel
theorem Xt.rowsA : (Xt.T.all fun r => decide (Ud.full Xt.T r.1 = [65, 778]) == (r.1 == 197 || r.1 == 8491)) = true := by decide +kernel
theorem Xt.angstrom {c : Int} (h : Ud.full Xt.T c = [65, 778]) : c = 197 ∨ c = 8491 := by
  by_cases hm : Md.mp Xt.T c = []
  · unfold Md.mp at hm
    split at hm
    · cases hm
    · rename_i hp
      rw [Ud.pair_kind] at hp
      simp only [decide_eq_true_eq] at hp
      rw [Ud.full_one hm (by omega)] at h
      simp at h
  · unfold Md.mp at hm
    split at hm
    · rename_i hp
      rw [Ud.pair_kind] at hp
      simp only [decide_eq_true_eq] at hp
      have hk := Ud.kind_le c
      have hk2 : Hg.ofK c = 4 ∨ Hg.ofK c = 5 := by omega
      have hs := Hg.ofK_syl c hk2
      have hf := Ud.full_syl Xt.ok.good hk2
      have hf2 : Ud.full Xt.T c = Hg.splitK c := by unfold Ud.full; rw [hf]; rfl
      obtain ⟨t, ht⟩ := Hg.split_head c (by omega) (by omega)
      rw [hf2, ht] at h
      simp only [List.cons.injEq] at h
      omega
    · unfold Md.rmp at hm
      cases hf : Md.find Xt.T c with
      | none => rw [hf] at hm; exact absurd rfl hm
      | some r =>
        obtain ⟨h1, h2⟩ := Md.find_some hf
        have := List.all_eq_true.1 Xt.rowsA r h1
        rw [h2, decide_eq_true h] at this
        simpa using this
set_option maxRecDepth 100000 in
set_option maxHeartbeats 2000000 in
theorem Xt.awake15 (w : World) (hL : Rw.Laid w) : Calls Tryz.prog 15 #[] w fun e w' => e = .returned (.bool true) ∧ Below w.heap.size w w' := by
  have hD := Xt.data_any w hL
  have HFU : Hid (∀ p W, Ud.Is W p Xt.T Xt.S → Calls Tryz.prog 17 #[p, .int .i32 7785] W fun e w' => ∃ A c, e = .returned (.slice A 3 c) ∧ Sl w' w'.heap.size A (([115, 803, 775] : List Int).map (Value.int .i32)) ∧ Below W.heap.size W w') := Lib.hid fun p W h => by
    have := Ud.full_any p Xt.T Xt.S 7785 W Xt.ok h (by decide) (by decide)
    unfold RetInts at this
    rw [Xt.full15] at this
    exact this
  obtain ⟨T, hT⟩ : ∃ T, Xt.T = T := ⟨_, rfl⟩
  obtain ⟨S, hS⟩ : ∃ S, Xt.S = S := ⟨_, rfl⟩
  rw [hT, hS] at hD HFU
  clear hT hS hL
  go_enter Tryz.func15, Tryz.ntmps15
  go_wp2_with fail
  refine hD.mono ?_
  rintro e w1 ⟨p, rfl, his, hb1⟩
  obtain ⟨pb, rfl, _⟩ := his.form
  have h1 := HFU.out _ w1 his
  have HB1 := Lib.hid hb1
  clear his hb1 hD
  go_wp2_with fail
  refine h1.mono ?_
  rintro e w2 ⟨A, c, rfl, hs, hb2⟩
  obtain ⟨b, o, rfl, hbl, hc⟩ := hs (by simp)
  have e0 := hc 0 (by simp)
  have e1 := hc 1 (by simp)
  have e2 := hc 2 (by simp)
  simp only [List.map_cons, List.map_nil, List.getElem?_cons_succ, List.getElem?_cons_zero, Nat.add_zero] at e0 e1 e2
  have HB2 := Lib.hid (HB1.out.trans (hb2.mono HB1.out.size))
  clear hs hc hb2 h1
  go_wp2_with fail
  go_ret
  exact ⟨rfl, HB2.out⟩
set_option maxRecDepth 100000 in
set_option maxHeartbeats 4000000 in
theorem Xt.extractAngstrom_any (w : World) (c : Int) (hc1 : -2147483648 ≤ c) (hc2 : c ≤ 2147483647) (hL : Rw.Laid w) : Calls Tryz.prog 3 #[.int .i32 c] w fun e w' => e = .returned (.bool true) ∧ Below w.heap.size w w' := by
  have HAW := Lib.hid (Xt.awake15 w hL)
  have HDA := Lib.hid (fun W (hW : Below w.heap.size w W) => Xt.data_any W (hL.next hW))
  have HFU : Hid (∀ p W, Ud.Is W p Xt.T Xt.S → Calls Tryz.prog 17 #[p, .int .i32 8491] W fun e w' => ∃ A c, e = .returned (.slice A 2 c) ∧ Sl w' w'.heap.size A (([65, 778] : List Int).map (Value.int .i32)) ∧ Below W.heap.size W w') := Lib.hid fun p W h => by
    have := Ud.full_any p Xt.T Xt.S 8491 W Xt.ok h (by decide) (by decide)
    unfold RetInts at this
    rw [Xt.full212b] at this
    exact this
  obtain ⟨m, hm⟩ : ∃ m, Ud.full Xt.T c = m := ⟨_, rfl⟩
  have HFC : Hid (∀ p W, Ud.Is W p Xt.T Xt.S → Calls Tryz.prog 17 #[p, .int .i32 c] W fun e w' => ∃ A' c', e = .returned (.slice A' m.length c') ∧ Sl w' w'.heap.size A' (m.map (Value.int .i32)) ∧ Below W.heap.size W w') := Lib.hid fun p W h => by
    have := Ud.full_any p Xt.T Xt.S c W Xt.ok h hc1 hc2
    unfold RetInts at this
    rw [hm] at this
    exact this
  have hcase : (m = [65, 778] ∧ (c = 197 ∨ c = 8491)) ∨ (m ≠ [65, 778] ∧ c ≠ 197 ∧ c ≠ 8491) := by
    by_cases h : m = [65, 778]
    · exact .inl ⟨h, Xt.angstrom (hm.trans h)⟩
    · refine .inr ⟨h, fun e => h ?_, fun e => h ?_⟩
      · rw [← hm, e]; exact Xt.fullC5
      · rw [← hm, e]; exact Xt.full212b
  have HCASE := Lib.hid hcase
  obtain ⟨T, hT⟩ : ∃ T, Xt.T = T := ⟨_, rfl⟩
  obtain ⟨S, hS⟩ : ∃ S, Xt.S = S := ⟨_, rfl⟩
  rw [hT, hS] at HDA HFU HFC
  clear hT hS hL hm hcase
  go_enter Tryz.func3, Tryz.ntmps3
  go_wp2_with fail
  refine HAW.out.mono ?_
  rintro e w1 ⟨rfl, hb1⟩
  have h1 := HDA.out w1 hb1
  have HB1 := Lib.hid hb1
  clear hb1
  go_wp2_with fail
  refine h1.mono ?_
  rintro e w2 ⟨p, rfl, his, hb2⟩
  obtain ⟨pb, rfl, _⟩ := his.form
  have HI2 := Lib.hid his
  have h2 := HFU.out _ w2 his
  have HB2 := Lib.hid (HB1.out.trans (hb2.mono HB1.out.size))
  clear his hb2 h1
  go_wp2_with fail
  refine h2.mono ?_
  rintro e w3 ⟨A, cp, rfl, hs, hb3⟩
  obtain ⟨b, o, rfl, hbl, hc⟩ := hs (by simp)
  have e0 := hc 0 (by simp)
  have e1 := hc 1 (by simp)
  simp only [List.map_cons, List.map_nil, List.getElem?_cons_succ, List.getElem?_cons_zero, Nat.add_zero] at e0 e1
  have h3 := HFC.out _ w3 (HI2.out.below hb3)
  have HB3 := Lib.hid (HB2.out.trans (hb3.mono HB2.out.size))
  clear hs hc hb3 h2
  go_wp2_with fail
  refine h3.mono ?_
  rintro e w4 ⟨A4, c4, rfl, hs, hb4⟩
  have HB4 := Lib.hid (HB3.out.trans (hb4.mono HB3.out.size))
  have HS := Lib.hid hs
  clear e0 e1 hbl hb4 h3 hs
  rcases HCASE.out with ⟨rfl, hcc⟩ | ⟨hne, hc3, hc4⟩
  · obtain ⟨b, o, rfl, hbl, hc⟩ := HS.out (by simp)
    have e0 := hc 0 (by simp)
    have e1 := hc 1 (by simp)
    simp only [List.map_cons, List.map_nil, List.getElem?_cons_succ, List.getElem?_cons_zero, Nat.add_zero] at e0 e1
    simp only [List.length_cons, List.length_nil]
    clear hc
    rcases hcc with rfl | rfl
    · go_wp2_with fail
      go_ret
      exact ⟨rfl, HB4.out⟩
    · go_wp2_with fail
      go_ret
      exact ⟨rfl, HB4.out⟩
  · have b1 : (c == 197) = false := by simpa using hc3
    have b2 : (c == 8491) = false := by simpa using hc4
    clear hc3 hc4
    by_cases hl : m.length = 2
    · obtain ⟨a, b', rfl⟩ : ∃ a b', m = [a, b'] := by
        rcases m with _ | ⟨a, _ | ⟨b', _ | ⟨z, t⟩⟩⟩ <;> simp at hl
        exact ⟨a, b', rfl⟩
      obtain ⟨b, o, rfl, hbl, hc⟩ := HS.out (by simp)
      have e0 := hc 0 (by simp)
      have e1 := hc 1 (by simp)
      simp only [List.map_cons, List.map_nil, List.getElem?_cons_succ, List.getElem?_cons_zero, Nat.add_zero] at e0 e1
      simp only [List.length_cons, List.length_nil]
      clear hc hl
      by_cases ha : a = 65
      · subst ha
        have hb : b' ≠ 778 := fun e => hne (by rw [e])
        have b3 : (b' == 778) = false := by simpa using hb
        clear hb hne
        go_wp2_with fail
        go_ret
        exact ⟨rfl, HB4.out⟩
      · have b3 : (a == 65) = false := by simpa using ha
        clear ha hne
        go_wp2_with fail
        go_ret
        exact ⟨rfl, HB4.out⟩
    · have b3 : ((m.length : Int) == 2) = false := by simp; omega
      clear hl hne
      go_wp2_with fail
      go_ret
      exact ⟨rfl, HB4.out⟩
end Go.Proofs.YtbeakahjbkdeiaaGreatDoor
