/- The reference's functions on bytes: Is, number, Bytes, First. -/
import Derived.Test.YtgfkcbckddpbaaaDoorUtfNext
import Derived.Deep.RegionHeld3
namespace Go.Proofs.YtgfkcbckddpbaaaDoor
open Go.RowKit
set_option linter.unusedSimpArgs false
set_option linter.unusedVariables false

set_option maxRecDepth 100000 in
set_option maxHeartbeats 400000 in
theorem U.ris_any (c : Int) (w : World) :
    Calls Tryd.prog 75 #[.int .i64 c] w fun e w' => e = .returned (.bool (U.isC c)) ∧ w = w' := by
  have hd : ∀ x : Bool, (x = true ↔ (0 ≤ c ∧ c ≤ 1114111 ∧ (c < 55296 ∨ 57343 < c))) → U.isC c = x := by
    intro x hx
    rw [Bool.eq_iff_iff, U.isC_iff, hx]
  have HD := Lib.hid hd
  clear hd
  go_enter Tryd.func75, Tryd.ntmps75
  go_wp2
  all_goals
    go_ret
    refine ⟨ret_bool (HD.out _ ?_).symm, rfl⟩
    simp
    try omega

theorem U.num_bd (l : List UInt8) (n i : Nat) (hi : i ≤ 3) : -100000000 ≤ U.accK l n i ∧ U.accK l n i ≤ 100000000 := by
  have h0 := U.bv_lt l 0
  have h1 := U.bv_lt l 1
  have h2 := U.bv_lt l 2
  have h3 := U.bv_lt l 3
  have hh : 0 ≤ U.headK n ∧ U.headK n ≤ 240 := by unfold U.headK; split <;> omega
  have hi4 : i = 0 ∨ i = 1 ∨ i = 2 ∨ i = 3 := by omega
  rcases hi4 with rfl | rfl | rfl | rfl <;> simp only [U.accK, Nat.zero_add, Nat.reduceAdd] <;> omega

theorem U.enc1 (c : Int) (h : c < 128) : strOfNums [c] = ⟨(U.enc c).toArray⟩ := by unfold U.enc; rw [if_pos h]; rfl
theorem U.enc2 (c : Int) (h : ¬ c < 128) (h' : c < 2048) : strOfNums [192 + c / 64, 128 + c % 64] = ⟨(U.enc c).toArray⟩ := by unfold U.enc; rw [if_neg h, if_pos h']; rfl
theorem U.enc3 (c : Int) (h : ¬ c < 128) (h' : ¬ c < 2048) (h'' : c < 65536) : strOfNums [224 + c / 4096, 128 + c / 64 % 64, 128 + c % 64] = ⟨(U.enc c).toArray⟩ := by unfold U.enc; rw [if_neg h, if_neg h', if_pos h'']; rfl
theorem U.enc4 (c : Int) (h : ¬ c < 128) (h' : ¬ c < 2048) (h'' : ¬ c < 65536) : strOfNums [240 + c / 262144, 128 + c / 4096 % 64, 128 + c / 64 % 64, 128 + c % 64] = ⟨(U.enc c).toArray⟩ := by unfold U.enc; rw [if_neg h, if_neg h', if_neg h'']; rfl

/-- 'string([]byte{..})' of a slice laid just now. -/
theorem conv_lit (w : World) (xs : List Int) (n : Nat) (hn : xs.length = n) :
    (convert 23 9 (.slice (some ⟨w.heap.size, 0, none⟩) n n)).run Tryd.prog (w.alloc (.cells (xs.map (Value.int .u8)).toArray 5)) = .ok (.string (strOfNums xs)) (w.alloc (.cells (xs.map (Value.int .u8)).toArray 5)) := by
  refine run_convert_bytes_arg _ _ 5 Tryd.underlying23 Tryd.underlying5 _ 0 n n xs hn (fun i hi => ?_) _ Tryd.underlying9
  have hb : (w.alloc (.cells (xs.map (Value.int .u8)).toArray 5)).heap[w.heap.size]? = some (.cells (xs.map (Value.int .u8)).toArray 5 (0, 0)) := heap_alloc_new _ _
  simp only [World.cell?, hb]
  have : i < xs.length := by omega
  simp [this, List.getD]

end Go.Proofs.YtgfkcbckddpbaaaDoor

/- The reference's First. -/
namespace Go.Proofs.YtgfkcbckddpbaaaDoor
open Go.RowKit
set_option linter.unusedSimpArgs false
set_option linter.unusedVariables false

theorem quiet_same {P : Program} {f : FuncId} {args : Array Value} {w : World} {n : Nat} {v : Value}
    (h : Calls P f args (w.drewN n) fun e w' => e = .returned v ∧ w.drewN n = w') : Calls P f args (w.drewN n) fun e w'' => e = .returned v ∧ ∃ m, w'' = w.drewN m :=
  Calls.quiet_of_same (h.mono fun _ _ ⟨he, hm⟩ => ⟨he, hm.symm⟩)

def U.firstK (l : List UInt8) : Int × Nat := match U.nextK l with | some (c, n) => (c, n) | none => (0, 0)
theorem U.first_some {l : List UInt8} {c : Int} {n : Nat} (h : U.nextK l = some (c, n)) : U.firstK l = (c, n) := by unfold U.firstK; rw [h]
theorem U.first_none {l : List UInt8} (h : U.nextK l = none) : U.firstK l = (0, 0) := by unfold U.firstK; rw [h]

theorem U.good_next (l : List UInt8) (c : Int) (j : Nat) (hj : j ≤ l.length) (hc : U.isC c = true) (he : U.enc c = l.take j) : U.nextK l = some (c, j) := by
  have h := U.nextK_of c hc (l.drop j)
  rw [he, List.take_append_drop, List.length_take, Nat.min_eq_left hj] at h
  exact h
theorem U.acc_enc (c : Int) (hc : U.isC c = true) : U.accK (U.enc c) (U.enc c).length ((U.enc c).length - 1) = c := by
  have h := U.nextK_of c hc []
  rw [List.append_nil] at h
  unfold U.nextK at h
  split at h
  · cases h
  · split at h
    · cases h
    · split at h
      · simp only [Option.some.injEq, Prod.mk.injEq] at h
        obtain ⟨h1, h2⟩ := h
        rw [h2] at h1
        exact h1
      · cases h
theorem U.next_good (l : List UInt8) (c : Int) (n : Nat) (h : U.nextK l = some (c, n)) : 1 ≤ n ∧ n ≤ 4 ∧ n ≤ l.length ∧ U.isC c = true ∧ U.enc c = l.take n ∧ U.accK (l.take n) n (n - 1) = c := by
  obtain ⟨hc, hn, t, rfl⟩ := U.nextK_some l c n h
  have hl := U.enc_len c hc
  have h1 := (U.width_pos c).2 hc
  have h4 := U.width_le c
  have ht : (U.enc c ++ t).take n = U.enc c := by rw [hn, ← hl]; simp
  refine ⟨by omega, by omega, by rw [List.length_append]; omega, hc, ht.symm, ?_⟩
  rw [ht, hn, ← hl]
  exact U.acc_enc c hc

theorem ba_take (s : ByteArray) (k : Nat) : (s.extract 0 k).data.toList = s.data.toList.take k := by
  simp [ByteArray.data_extract, Array.toList_extract]

end Go.Proofs.YtgfkcbckddpbaaaDoor
