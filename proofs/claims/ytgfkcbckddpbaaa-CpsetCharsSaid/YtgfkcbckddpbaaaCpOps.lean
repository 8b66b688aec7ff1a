/- The layer cpset: Or, And, Less, by walking their texts. -/
import Derived.Test.YtgfkcbckddpbaaaCpMerge
namespace Go.Proofs.Ytgfkcbckddpbaaa
open Go.RowKit
set_option linter.unusedSimpArgs false
set_option linter.unusedVariables false


theorem C.enter' {P : Program} {f : FuncId} {fn : Func} (hf : P.funcs[f]? = some fn) (hname : (fn.name == "runtime.NumGoroutine") = false) (hb : fn.body.isNone = false) (args : Array Value) (w : World) :
    (callFunc f args).run P w = .ok (.enter f args) w := by
  rcases h : fn.body with _ | c
  · rw [h] at hb; cases hb
  · exact C.enter hf hname h args w

def C.orF : Bool → Bool → Bool := fun x y => x || y
set_option maxRecDepth 100000 in
theorem C.or_fn (x y : Bool) (w : World) : Calls Try.prog 32 #[.bool x, .bool y] w fun e w' => e = .returned (.bool (C.orF x y)) ∧ w = w' := by
  go_enter Try.func32, Try.ntmps32
  cases x <;> cases y <;> (go_wp2; go_ret; exact ⟨rfl, rfl⟩)

set_option maxRecDepth 100000 in
set_option maxHeartbeats 1000000 in
theorem C.or_any (A A' : Option Addr) (c c' n m B : Nat) (a b : List Int) (w : World) (hn : a.length = n) (hm : b.length = m) (hn' : n ≤ 1000000) (hm' : m ≤ 1000000) (ha : C.srt a) (hb : C.srt b) (hB : B ≤ w.heap.size)
    (hA : Sl w B A (a.map (Value.int .i32))) (hA' : Sl w B A' (b.map (Value.int .i32))) :
    Calls Try.prog 24 #[.agg #[.slice A n c], .agg #[.slice A' m c']] w (RetSet (C.mrg C.orF a b) w) := by
  have HM := Lib.hid (C.merge_any 32 C.orF (fun args w => C.enter' Try.func32 (by kernel_rfl) (by kernel_rfl) args w) C.or_fn A A' c c' n m B a b)
  have HN := Lib.hid hn
  have HMM := Lib.hid hm
  have HSA := Lib.hid ha
  have HSB := Lib.hid hb
  clear hn hm ha hb
  go_enter Try.func24, Try.ntmps24
  go_wp2_with fail
  have hal : Below w.heap.size w (((w.alloc (.cells #[.slice A n c] 25)).alloc (.cells #[.slice A' m c'] 25)).alloc (.cells #[.slice none 0 0] 25)) := (((Below.refl _ _).alloc (Nat.le_refl _) _).alloc (by simp <;> omega) _).alloc (by simp <;> omega) _
  refine (HM.out _ HN.out HMM.out hn' hm' HSA.out HSB.out (by simp; omega) (hA.belowN hal hB (Nat.le_refl _)) (hA'.belowN hal hB (Nat.le_refl _))).mono ?_
  rintro e w1 ⟨A5, c5, rfl, hown, hbel⟩
  have hblk : w1.heap[w.heap.size + 2]? = some (.cells #[.slice none 0 0] 25 (0, 0)) := by
    rw [hbel.block (w.heap.size + 2) (by simp <;> omega)]
    have h := heap_alloc_new ((w.alloc (.cells #[.slice A n c] 25)).alloc (.cells #[.slice A' m c'] 25)) (.cells #[.slice none 0 0] 25)
    rw [show ((w.alloc (.cells #[.slice A n c] 25)).alloc (.cells #[.slice A' m c'] 25)).heap.size = w.heap.size + 2 by simp] at h
    exact h
  obtain ⟨hrc, hrf⟩ := blk_cell hblk 0
  have HBLK := Lib.hid hblk
  clear hblk
  simp only [List.getElem?_toArray, List.getElem?_cons_zero] at hrc
  go_wp2
  have hb2 := set_cell (v := .slice A5 (C.mrg C.orF a b).length c5) HBLK.out
  refine bodyPost_ret (results_cell_row rfl _ _ (w.heap.size + 2) _ _ _ _ rfl hb2 Try.underlying25 rfl (by kernel_rfl)) rfl ?_
  refine ⟨A5, c5, rfl, ?_, (hal.trans (hbel.mono (by simp <;> omega))).setCell (by simp <;> omega) _⟩
  exact own_base (ownsRow_setCell_below hown (by simp <;> omega) _) (by simp <;> omega)

def C.andF : Bool → Bool → Bool := fun x y => x && y
set_option maxRecDepth 100000 in
theorem C.and_fn (x y : Bool) (w : World) : Calls Try.prog 33 #[.bool x, .bool y] w fun e w' => e = .returned (.bool (C.andF x y)) ∧ w = w' := by
  go_enter Try.func33, Try.ntmps33
  cases x <;> cases y <;> (go_wp2; go_ret; exact ⟨rfl, rfl⟩)

set_option maxRecDepth 100000 in
set_option maxHeartbeats 1000000 in
theorem C.and_any (A A' : Option Addr) (c c' n m B : Nat) (a b : List Int) (w : World) (hn : a.length = n) (hm : b.length = m) (hn' : n ≤ 1000000) (hm' : m ≤ 1000000) (ha : C.srt a) (hb : C.srt b) (hB : B ≤ w.heap.size)
    (hA : Sl w B A (a.map (Value.int .i32))) (hA' : Sl w B A' (b.map (Value.int .i32))) :
    Calls Try.prog 25 #[.agg #[.slice A n c], .agg #[.slice A' m c']] w (RetSet (C.mrg C.andF a b) w) := by
  have HM := Lib.hid (C.merge_any 33 C.andF (fun args w => C.enter' Try.func33 (by kernel_rfl) (by kernel_rfl) args w) C.and_fn A A' c c' n m B a b)
  have HN := Lib.hid hn
  have HMM := Lib.hid hm
  have HSA := Lib.hid ha
  have HSB := Lib.hid hb
  clear hn hm ha hb
  go_enter Try.func25, Try.ntmps25
  go_wp2_with fail
  have hal : Below w.heap.size w (((w.alloc (.cells #[.slice A n c] 25)).alloc (.cells #[.slice A' m c'] 25)).alloc (.cells #[.slice none 0 0] 25)) := (((Below.refl _ _).alloc (Nat.le_refl _) _).alloc (by simp <;> omega) _).alloc (by simp <;> omega) _
  refine (HM.out _ HN.out HMM.out hn' hm' HSA.out HSB.out (by simp; omega) (hA.belowN hal hB (Nat.le_refl _)) (hA'.belowN hal hB (Nat.le_refl _))).mono ?_
  rintro e w1 ⟨A5, c5, rfl, hown, hbel⟩
  have hblk : w1.heap[w.heap.size + 2]? = some (.cells #[.slice none 0 0] 25 (0, 0)) := by
    rw [hbel.block (w.heap.size + 2) (by simp <;> omega)]
    have h := heap_alloc_new ((w.alloc (.cells #[.slice A n c] 25)).alloc (.cells #[.slice A' m c'] 25)) (.cells #[.slice none 0 0] 25)
    rw [show ((w.alloc (.cells #[.slice A n c] 25)).alloc (.cells #[.slice A' m c'] 25)).heap.size = w.heap.size + 2 by simp] at h
    exact h
  obtain ⟨hrc, hrf⟩ := blk_cell hblk 0
  have HBLK := Lib.hid hblk
  clear hblk
  simp only [List.getElem?_toArray, List.getElem?_cons_zero] at hrc
  go_wp2
  have hb2 := set_cell (v := .slice A5 (C.mrg C.andF a b).length c5) HBLK.out
  refine bodyPost_ret (results_cell_row rfl _ _ (w.heap.size + 2) _ _ _ _ rfl hb2 Try.underlying25 rfl (by kernel_rfl)) rfl ?_
  refine ⟨A5, c5, rfl, ?_, (hal.trans (hbel.mono (by simp <;> omega))).setCell (by simp <;> omega) _⟩
  exact own_base (ownsRow_setCell_below hown (by simp <;> omega) _) (by simp <;> omega)

def C.lessF : Bool → Bool → Bool := fun x y => x && !y
set_option maxRecDepth 100000 in
theorem C.less_fn (x y : Bool) (w : World) : Calls Try.prog 34 #[.bool x, .bool y] w fun e w' => e = .returned (.bool (C.lessF x y)) ∧ w = w' := by
  go_enter Try.func34, Try.ntmps34
  cases x <;> cases y <;> (go_wp2; go_ret; exact ⟨rfl, rfl⟩)

set_option maxRecDepth 100000 in
set_option maxHeartbeats 1000000 in
theorem C.less_any (A A' : Option Addr) (c c' n m B : Nat) (a b : List Int) (w : World) (hn : a.length = n) (hm : b.length = m) (hn' : n ≤ 1000000) (hm' : m ≤ 1000000) (ha : C.srt a) (hb : C.srt b) (hB : B ≤ w.heap.size)
    (hA : Sl w B A (a.map (Value.int .i32))) (hA' : Sl w B A' (b.map (Value.int .i32))) :
    Calls Try.prog 27 #[.agg #[.slice A n c], .agg #[.slice A' m c']] w (RetSet (C.mrg C.lessF a b) w) := by
  have HM := Lib.hid (C.merge_any 34 C.lessF (fun args w => C.enter' Try.func34 (by kernel_rfl) (by kernel_rfl) args w) C.less_fn A A' c c' n m B a b)
  have HN := Lib.hid hn
  have HMM := Lib.hid hm
  have HSA := Lib.hid ha
  have HSB := Lib.hid hb
  clear hn hm ha hb
  go_enter Try.func27, Try.ntmps27
  go_wp2_with fail
  have hal : Below w.heap.size w (((w.alloc (.cells #[.slice A n c] 25)).alloc (.cells #[.slice A' m c'] 25)).alloc (.cells #[.slice none 0 0] 25)) := (((Below.refl _ _).alloc (Nat.le_refl _) _).alloc (by simp <;> omega) _).alloc (by simp <;> omega) _
  refine (HM.out _ HN.out HMM.out hn' hm' HSA.out HSB.out (by simp; omega) (hA.belowN hal hB (Nat.le_refl _)) (hA'.belowN hal hB (Nat.le_refl _))).mono ?_
  rintro e w1 ⟨A5, c5, rfl, hown, hbel⟩
  have hblk : w1.heap[w.heap.size + 2]? = some (.cells #[.slice none 0 0] 25 (0, 0)) := by
    rw [hbel.block (w.heap.size + 2) (by simp <;> omega)]
    have h := heap_alloc_new ((w.alloc (.cells #[.slice A n c] 25)).alloc (.cells #[.slice A' m c'] 25)) (.cells #[.slice none 0 0] 25)
    rw [show ((w.alloc (.cells #[.slice A n c] 25)).alloc (.cells #[.slice A' m c'] 25)).heap.size = w.heap.size + 2 by simp] at h
    exact h
  obtain ⟨hrc, hrf⟩ := blk_cell hblk 0
  have HBLK := Lib.hid hblk
  clear hblk
  simp only [List.getElem?_toArray, List.getElem?_cons_zero] at hrc
  go_wp2
  have hb2 := set_cell (v := .slice A5 (C.mrg C.lessF a b).length c5) HBLK.out
  refine bodyPost_ret (results_cell_row rfl _ _ (w.heap.size + 2) _ _ _ _ rfl hb2 Try.underlying25 rfl (by kernel_rfl)) rfl ?_
  refine ⟨A5, c5, rfl, ?_, (hal.trans (hbel.mono (by simp <;> omega))).setCell (by simp <;> omega) _⟩
  exact own_base (ownsRow_setCell_below hown (by simp <;> omega) _) (by simp <;> omega)
end Go.Proofs.Ytgfkcbckddpbaaa
