/- The reference's First. -/
import Derived.Test.YthikoangkdlebaaDoorUtfB
namespace Go.Proofs.YthikoangkdlebaaDoor
open Go.RowKit
set_option linter.unusedSimpArgs false
set_option linter.unusedVariables false

theorem quiet_same {P : Program} {f : FuncId} {args : Array Value} {w : World} {n : Nat} {v : Value}
    (h : Calls P f args (w.drewN n) fun e w' => e = .returned v ∧ w.drewN n = w') : Calls P f args (w.drewN n) fun e w'' => e = .returned v ∧ ∃ m, w'' = w.drewN m :=
  Calls.quiet_of_same (h.mono fun _ _ ⟨he, hm⟩ => ⟨he, hm.symm⟩)

def U.firstK (l : List UInt8) : Int × Nat := match U.nextK l with | some (c, n) => (c, n) | none => (0, 0)
theorem U.first_some {l : List UInt8} {c : Int} {n : Nat} (h : U.nextK l = some (c, n)) : U.firstK l = (c, n) := by unfold U.firstK; rw [h]
theorem U.first_none {l : List UInt8} (h : U.nextK l = none) : U.firstK l = (0, 0) := by unfold U.firstK; rw [h]

theorem U.good_next (l : List UInt8) (c : Int) (j : Nat) (hj : j ≤ l.length) (hc : U.isC c = true) (he : U.enc c = l.take j) : U.nextK l = some (c, j) := by
  have h := U.nextK_of c hc (l.drop j)
  rw [he, List.take_append_drop, List.length_take, Nat.min_eq_left hj] at h
  exact h
theorem U.acc_enc (c : Int) (hc : U.isC c = true) : U.accK (U.enc c) (U.enc c).length ((U.enc c).length - 1) = c := by
  have h := U.nextK_of c hc []
  rw [List.append_nil] at h
  unfold U.nextK at h
  split at h
  · cases h
  · split at h
    · cases h
    · split at h
      · simp only [Option.some.injEq, Prod.mk.injEq] at h
        obtain ⟨h1, h2⟩ := h
        rw [h2] at h1
        exact h1
      · cases h
theorem U.next_good (l : List UInt8) (c : Int) (n : Nat) (h : U.nextK l = some (c, n)) : 1 ≤ n ∧ n ≤ 4 ∧ n ≤ l.length ∧ U.isC c = true ∧ U.enc c = l.take n ∧ U.accK (l.take n) n (n - 1) = c := by
  obtain ⟨hc, hn, t, rfl⟩ := U.nextK_some l c n h
  have hl := U.enc_len c hc
  have h1 := (U.width_pos c).2 hc
  have h4 := U.width_le c
  have ht : (U.enc c ++ t).take n = U.enc c := by rw [hn, ← hl]; simp
  refine ⟨by omega, by omega, by rw [List.length_append]; omega, hc, ht.symm, ?_⟩
  rw [ht, hn, ← hl]
  exact U.acc_enc c hc

theorem ba_take (s : ByteArray) (k : Nat) : (s.extract 0 k).data.toList = s.data.toList.take k := by
  simp [ByteArray.data_extract, Array.toList_extract]

set_option maxRecDepth 100000 in
set_option maxHeartbeats 1000000 in
theorem U.first_any (s : ByteArray) (w : World) (hs : s.size ≤ maxLen) :
    Calls Tryd.prog 11 #[.string s] w fun e w' => e = .returned (.tuple #[.int .i64 (U.firstK s.data.toList).1, .int .i64 (U.firstK s.data.toList).2]) ∧ Below w.heap.size w w' := by
  unfold maxLen at hs
  go_enter Tryd.func11, Tryd.ntmps11
  go_wp2
  go_loopw [4] (fun i wr => ∃ k : Nat, 1 ≤ k ∧ k ≤ 5 ∧ i = .int .i64 k ∧ Below w.heap.size w wr ∧ ∀ j, j < k → ∀ c, U.nextK s.data.toList ≠ some (c, j)) (fun i _ => 5 - (intOf i).toNat)
  case atStart => exact ⟨1, by omega, by omega, rfl, Below.refl _ _, fun j hj c h => by have := (U.next_good _ _ _ h).1; omega⟩
  case round =>
    obtain ⟨k, hk1, hk5, rfl, hbel, hno⟩ := hrel
    have hsz := hbel.size
    have HNO := Lib.hid hno
    clear hno
    by_cases hk : (k : Int) < 5
    · by_cases hks : (k : Int) ≤ s.size
      · obtain ⟨x, hx⟩ : ∃ x : ByteArray, s.extract 0 k = x := ⟨_, rfl⟩
        have hxl : x.data.toList = s.data.toList.take k := by rw [← hx]; exact ba_take s k
        have hxs : x.size = k := by
          have : x.data.toList.length = x.size := by simp
          rw [← this, hxl]; simp; omega
        have HXL := Lib.hid hxl
        have HXS := Lib.hid hxs
        clear hxl hxs
        go_wp2_with fail
        refine (U.number_any _ _ (by rw [HXS.out]; omega) (by rw [HXS.out]; omega)).mono ?_
        rintro e w' ⟨rfl, rfl⟩
        rw [HXL.out, HXS.out]
        obtain ⟨c, hc⟩ : ∃ c, U.accK (List.take k s.data.toList) k (k - 1) = c := ⟨_, rfl⟩
        rw [hc]
        by_cases hch : U.isC c = true
        · obtain ⟨z1, z2, -⟩ := (U.isC_iff c).1 hch
          have HC := Lib.hid hc
          have HCH := Lib.hid hch
          clear hc
          go_wp2
          go_region_held3 (fun _ => True) (trivial) (first | (go_at_call 21; refine (U.ris_any _ _).mono ?_; rintro e w' ⟨rfl, rfl⟩) | (go_at_call 24; refine (U.bytes_any _ _ HCH.out).mono ?_; rintro e w4 ⟨rfl, hb4⟩))
          go_wp2
          · have he : (U.enc c == x.toList) = true := by assumption
            have he' : U.enc c = s.data.toList.take k := by rw [← HXL.out, ← ba_list]; exact eq_of_beq he
            have hn := U.good_next s.data.toList c k (by simp; omega) HCH.out he'
            go_ret2
            rw [U.first_some hn]
            exact ⟨rfl, hbel.trans ((Below.refl _ _).drew.trans (hb4.mono hsz))⟩
          · have he : (U.enc c == x.toList) = false := by assumption
            refine ⟨⟨k + 1, by omega, by omega, by go_num, hbel.trans ((Below.refl _ _).drew.trans (hb4.mono hsz)), fun j hj c' h => ?_⟩, by simp [intOf]; omega⟩
            by_cases hjk : j = k
            · subst hjk
              obtain ⟨_, _, _, g4, g5, g6⟩ := U.next_good _ _ _ h
              rw [HC.out] at g6
              subst g6
              rw [ba_list, HXL.out, g5] at he
              simp at he
            · exact HNO.out j (by omega) c' h
        · have hch' : U.isC c = false := by simpa using hch
          have HC := Lib.hid hc
          have HCH := Lib.hid hch
          clear hc hch
          go_wp2
          go_quiet ((go_at_call 21; exact quiet_same (U.ris_any _ _)))
          go_wp2
          refine ⟨⟨k + 1, by omega, by omega, by go_num, below_drewN hbel _, fun j hj c' h => ?_⟩, by simp [intOf]; omega⟩
          by_cases hjk : j = k
          · subst hjk
            obtain ⟨_, _, _, g4, _, g6⟩ := U.next_good _ _ _ h
            rw [HC.out] at g6
            subst g6
            exact HCH.out g4
          · exact HNO.out j (by omega) c' h
      · have hn : U.nextK s.data.toList = none := by
          rcases hh : U.nextK s.data.toList with _ | ⟨c, n⟩
          · rfl
          · have g := U.next_good _ _ _ hh
            have gl : s.data.toList.length = s.size := by simp
            exact absurd hh (HNO.out n (by omega) c)
        have HN := Lib.hid (U.first_none hn)
        clear hn
        go_wp2
        go_ret2
        rw [HN.out]
        exact ⟨rfl, hbel⟩
    · have hn : U.nextK s.data.toList = none := by
        rcases hh : U.nextK s.data.toList with _ | ⟨c, n⟩
        · rfl
        · have g := U.next_good _ _ _ hh
          exact absurd hh (HNO.out n (by omega) c)
      have HN := Lib.hid (U.first_none hn)
      clear hn
      go_wp2
      go_ret2
      rw [HN.out]
      exact ⟨rfl, hbel⟩
end Go.Proofs.YthikoangkdlebaaDoor
