/- The layer cpset: Xor, by walking its text. -/
import Derived.Test.YtgfkcbckddpbaaaDoorCpOps
namespace Go.Proofs.YtgfkcbckddpbaaaDoor
open Go.RowKit
set_option linter.unusedSimpArgs false
set_option linter.unusedVariables false

def C.xorF : Bool → Bool → Bool := fun x y => x != y
set_option maxRecDepth 100000 in
theorem C.xor_fn (x y : Bool) (w : World) : Calls Tryd.prog 62 #[.bool x, .bool y] w fun e w' => e = .returned (.bool (C.xorF x y)) ∧ w = w' := by
  go_enter Tryd.func62, Tryd.ntmps62
  cases x <;> cases y <;> (go_wp2; go_ret; exact ⟨rfl, rfl⟩)

set_option maxRecDepth 100000 in
set_option maxHeartbeats 1000000 in
theorem C.xor_any (A A' : Option Addr) (c c' n m B : Nat) (a b : List Int) (w : World) (hn : a.length = n) (hm : b.length = m) (hn' : n ≤ 1000000) (hm' : m ≤ 1000000) (ha : C.srt a) (hb : C.srt b) (hB : B ≤ w.heap.size)
    (hA : Sl w B A (a.map (Value.int .i32))) (hA' : Sl w B A' (b.map (Value.int .i32))) :
    Calls Tryd.prog 33 #[.agg #[.slice A n c], .agg #[.slice A' m c']] w (RetSet (C.mrg C.xorF a b) w) := by
  have HM := Lib.hid (C.merge_any 62 C.xorF (fun args w => C.enter' Tryd.func62 (by kernel_rfl) (by kernel_rfl) args w) C.xor_fn A A' c c' n m B a b)
  have HN := Lib.hid hn
  have HMM := Lib.hid hm
  have HSA := Lib.hid ha
  have HSB := Lib.hid hb
  clear hn hm ha hb
  go_enter Tryd.func33, Tryd.ntmps33
  go_wp2_with fail
  have hal : Below w.heap.size w (((w.alloc (.cells #[.slice A n c] 54)).alloc (.cells #[.slice A' m c'] 54)).alloc (.cells #[.slice none 0 0] 54)) := (((Below.refl _ _).alloc (Nat.le_refl _) _).alloc (by simp <;> omega) _).alloc (by simp <;> omega) _
  refine (HM.out _ HN.out HMM.out hn' hm' HSA.out HSB.out (by simp; omega) (hA.belowN hal hB (Nat.le_refl _)) (hA'.belowN hal hB (Nat.le_refl _))).mono ?_
  rintro e w1 ⟨A5, c5, rfl, hown, hbel⟩
  have hblk : w1.heap[w.heap.size + 2]? = some (.cells #[.slice none 0 0] 54 (0, 0)) := by
    rw [hbel.block (w.heap.size + 2) (by simp <;> omega)]
    have h := heap_alloc_new ((w.alloc (.cells #[.slice A n c] 54)).alloc (.cells #[.slice A' m c'] 54)) (.cells #[.slice none 0 0] 54)
    rw [show ((w.alloc (.cells #[.slice A n c] 54)).alloc (.cells #[.slice A' m c'] 54)).heap.size = w.heap.size + 2 by simp] at h
    exact h
  obtain ⟨hrc, hrf⟩ := blk_cell hblk 0
  have HBLK := Lib.hid hblk
  clear hblk
  simp only [List.getElem?_toArray, List.getElem?_cons_zero] at hrc
  go_wp2
  have hb2 := set_cell (v := .slice A5 (C.mrg C.xorF a b).length c5) HBLK.out
  refine bodyPost_ret (results_cell_row rfl _ _ (w.heap.size + 2) _ _ _ _ rfl hb2 Tryd.underlying54 rfl (by kernel_rfl)) rfl ?_
  refine ⟨A5, c5, rfl, ?_, (hal.trans (hbel.mono (by simp <;> omega))).setCell (by simp <;> omega) _⟩
  exact own_base (ownsRow_setCell_below hown (by simp <;> omega) _) (by simp <;> omega)
end Go.Proofs.YtgfkcbckddpbaaaDoor
