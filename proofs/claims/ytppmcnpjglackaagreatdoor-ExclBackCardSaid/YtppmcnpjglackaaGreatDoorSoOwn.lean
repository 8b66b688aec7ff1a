/- slices.Sort at rune: it sorts (a text of the kit at int, turned). -/
import Derived.Sort.AssemblyPlain
import Derived.Test.YtppmcnpjglackaaGreatDoorSoWalk13
import Derived.Test.YtppmcnpjglackaaGreatDoorSoWalkANil
import Derived.Test.YtppmcnpjglackaaGreatDoorSoWalkC4
import Derived.Test.YtppmcnpjglackaaGreatDoorSoWalk7
import Derived.Test.YtppmcnpjglackaaGreatDoorSoWalk11
import Derived.Test.YtppmcnpjglackaaGreatDoorSlt
import Derived.WalkSpells
namespace Go.Proofs.YtppmcnpjglackaaGreatDoor
set_option linter.unusedSimpArgs false
set_option linter.unusedVariables false
open Go.Sort

theorem callees13 : Callees13 where
  ins := So.insertionSort_int
  brk := So.breakPatterns_int
  piv := So.choosePivot_int
  par := So.partialInsertionSort_int
  peq := So.partitionEqualOrdered_int
  prt := So.partitionOrdered_int

theorem plain13 : Plain13 where
  swo := swo_ltInt
  ins := insertionSort_holds
  par := partialInsertionSort_holds
  prt := partition_holds _
  peq := partitionEqual_holds _
  pdq := pdq_sorts _

theorem pdqWalkInt : pdqWalk_int := fun blk off cap a b limit d w hH hb hab hbd hsz hl hB =>
  So.pdqsort_int callees13 plain13 (b - a + 1) blk off cap a b limit d w (by omega) hH hb hab hbd hsz hl hB

theorem sort_int_eq (zs : List Int) : Sort.sort ltInt zs.toArray = (zs.mergeSort fun x y => decide (x ≤ y)).toArray := by
  rw [← sortInt zs]


theorem So.slices_Sort_int (blk off cap : Nat) (zs : List Int) (w : World) (hH : Holds (Value.int .i32) w blk off zs.toArray) (hblk : blk < w.heap.size) (hsz : zs.length < 4611686018427387904) :
    Calls Tryz.prog 32 #[.slice (some ⟨blk, off, none⟩) zs.length cap] w fun e w' =>
      e = .returned (.tuple #[]) ∧ ∃ n os, w' = grow (putRow (Value.int .i32) (Sort.ahead w n) blk off (zs.mergeSort fun x y => decide (x ≤ y)).toArray) os := by
  have h := So.Sort_int pdqWalkInt blk off cap zs.toArray w hH hblk (by simpa using hsz)
  rw [sort_int_eq] at h
  simpa using h

end Go.Proofs.YtppmcnpjglackaaGreatDoor

/- A row of runes that the call has built: cloned; sorted by the library; and it owns what it owned, sorted. -/
namespace Go.Proofs.YtppmcnpjglackaaGreatDoor
open Go.RowKit Go.Sort
set_option linter.unusedSimpArgs false
set_option linter.unusedVariables false

theorem R.holds {w : World} {g : Nat} {cur : Array Value} {e : TypeId} {l : List Int} (hb : w.heap[g]? = some (.cells cur e (0, 0))) (ht : cur.toList.take l.length = l.map (Value.int .i32)) : Holds (Value.int .i32) w g 0 l.toArray := by
  intro j hj
  have hj' : j < l.length := by simpa using hj
  refine ⟨?_, by simp [World.frozen?, hb]⟩
  have h1 : (cur.toList.take l.length)[j]? = (l.map (Value.int .i32))[j]? := by rw [ht]
  rw [List.getElem?_take_of_lt hj'] at h1
  simp only [World.cell?, hb, Nat.zero_add]
  simp only [Option.isSome_none, Bool.false_eq_true, if_false]
  rw [← Array.getElem?_toList, h1]
  simp [hj']
theorem R.heap {w : World} {g n : Nat} {os : Array Obj} {cur : Array Value} {e : TypeId} {fr : Nat × Nat} (d : Array Int) (hb : w.heap[g]? = some (.cells cur e fr)) :
    (grow (putRow (Value.int .i32) (Sort.ahead w n) g 0 d) os).heap[g]? = some (.cells (putCells (Value.int .i32) 0 d cur) e fr) := by
  have hg : g < w.heap.size := (Array.getElem?_eq_some_iff.1 hb).1
  rw [heap_grow_old _ _ (by simpa using hg)]
  simp [putRow, mapBlock, Sort.ahead, Array.getElem?_modify, hb, onCells]
theorem R.below {w : World} {g n base : Nat} {os : Array Obj} (d : Array Int) (hg : base ≤ g) (hb : base ≤ w.heap.size) : Go.RowKit.Below base w (grow (putRow (Value.int .i32) (Sort.ahead w n) g 0 d) os) := by
  refine ⟨rfl, rfl, rfl, by simp, fun k hk => ?_⟩
  rw [heap_grow_old _ _ (by simp; omega)]
  have : g ≠ k := by omega
  simp [putRow, mapBlock, Sort.ahead, Array.getElem?_modify, this]
theorem R.take (cur : Array Value) (ts : List Int) (h : ts.length ≤ cur.size) : (putCells (Value.int .i32) 0 ts.toArray cur).toList.take ts.length = ts.map (Value.int .i32) := by
  apply List.ext_getElem?
  intro j
  by_cases hj : j < ts.length
  · rw [List.getElem?_take_of_lt hj, Array.getElem?_toList]
    simp [putCells, hj, show j < cur.size by omega]
  · rw [List.getElem?_take_eq_none (by omega), List.getElem?_eq_none (by simp; omega)]

/-- slices.Sort of a row of the call's own: it owns the same numbers, rising. -/
theorem R.sort_any (v : Value) (base e n : Nat) (l : List Int) (w : World) (hn : l.length = n) (hn' : n ≤ 1000000) (hown : w.ownsRow base e 1 v n (l.map (Value.int .i32))) (hbase : base ≤ w.heap.size) :
    Calls Tryz.prog 32 #[v] w fun r w' => r = .returned (.tuple #[]) ∧ w'.ownsRow base e 1 v n ((l.mergeSort fun x y => decide (x ≤ y)).map (Value.int .i32)) ∧ Go.RowKit.Below base w w' := by
  subst hn
  rcases hown.2 with ⟨rfl, h0⟩ | ⟨g, cap, cur, rfl, hg, hb, h1, h2, h3, h4⟩
  · have hl : l = [] := List.eq_nil_of_length_eq_zero h0
    subst hl
    refine (So.Sort_int_nil none 0 w).mono fun r w' ⟨hr, hw⟩ => ?_
    subst hw
    exact ⟨hr, by simpa using hown, Go.RowKit.Below.refl _ _⟩
  · rw [Nat.mul_one] at h4
    have hgl : g < w.heap.size := (Array.getElem?_eq_some_iff.1 hb).1
    refine (So.slices_Sort_int g 0 cap l w (R.holds hb h4) hgl (by omega)).mono fun r w' ⟨hr, n, os, hw⟩ => ?_
    subst hw
    have hl : (l.mergeSort fun x y => decide (x ≤ y)).length = l.length := by simp
    refine ⟨hr, ⟨by simp, .inr ⟨g, cap, _, rfl, hg, R.heap _ hb, h1, h2, by simp [putCells, h3], ?_⟩⟩, R.below _ hg hbase⟩
    rw [Nat.mul_one]
    have h := R.take cur (l.mergeSort fun x y => decide (x ≤ y)) (by rw [hl]; omega)
    rw [hl] at h
    exact h

set_option maxRecDepth 100000 in
set_option maxHeartbeats 1000000 in
/-- slices.Clone of runes that are read: a row of the call's own. -/
theorem R.clone_any (A : Option Addr) (n c B : Nat) (l : List Int) (w : World) (hn : l.length = n) (hn' : n ≤ 1000000) (hB : B ≤ w.heap.size) (hA : Sl w B A (l.map (Value.int .i32))) :
    Calls Tryz.prog 31 #[.slice A n c] w fun r w' => ∃ A' c', r = .returned (.slice A' n c') ∧ w'.ownsRow w.heap.size 21 1 (.slice A' n c') n (l.map (Value.int .i32)) ∧ Go.RowKit.Below w.heap.size w w' := by
  obtain ⟨j0, hj0, hy0, hy1, hy2⟩ := info_parts infoRune
  have HN := Lib.hid hn
  clear hn
  rcases A with _ | ad
  · have hl : l = [] := by
      rcases l with _ | ⟨x, t⟩
      · rfl
      · obtain ⟨b, o, h, _⟩ := hA (by simp)
        cases h
    subst hl
    obtain rfl : 0 = n := HN.out
    have heq : ∀ w, (binOp .eql 29 (.slice none 0 c) (.slice none 0 0)).run Tryz.prog w = .ok (.bool true) w := fun w => by kernel_rfl
    go_enter Tryz.func31, Tryz.ntmps31
    go_wp2
    go_ret
    exact ⟨none, 0, rfl, World.ownsRow_nil _ _ _ _, Go.RowKit.Below.refl _ _⟩
  · have hal : Go.RowKit.Below w.heap.size w (w.alloc (.cells #[] 21)) := (Go.RowKit.Below.refl _ _).alloc (Nat.le_refl _) _
    have hS := Lib.hid (hA.belowN hal hB (Nat.le_refl _))
    have heq : ∀ w, (binOp .eql 29 (.slice (some ad) n c) (.slice none 0 0)).run Tryz.prog w = .ok (.bool false) w := fun w => by first | exact Lib.run_eql_slice_nil w _ _ _ _ _ Tryz.underlying29 | kernel_rfl | simp [binOp, Op.equal, Op.maxDepth, Op.equalIn, run_underlying Tryz.underlying29]
    have hown0 : (w.alloc (.cells #[] 21)).ownsRow w.heap.size 21 1 (.slice (some ⟨w.heap.size, 0, none⟩) 0 0) 0 [] := ⟨rfl, .inr ⟨w.heap.size, 0, #[], rfl, Nat.le_refl _, heap_alloc_new w _, Nat.le_refl _, by decide, rfl, rfl⟩⟩
    go_enter Tryz.func31, Tryz.ntmps31
    go_wp2_with (at_builtin; refine wpList_appendSl _ rfl _ _ _ rfl w.heap.size 21 j0 _ 1 4 Tryz.underlying29 hj0 hy0 hy1 hy2 rfl (by omega) _ 0 _ rfl hown0 _ (some ad) n c (l.map (Value.int .i32)) rfl (by rw [List.length_map, HN.out]; omega) hS.out (oneCells _ _) (by simp only [maxLen]; omega) (by omega) (by simp) ?_; intro v1 w2 hown2 hb2 _)
    obtain ⟨A5, c5, rfl⟩ := own_form hown2
    go_wp2
    go_ret
    rw [Nat.zero_add] at hown2
    exact ⟨A5, c5, by simp, by simpa using hown2, hal.trans hb2⟩
end Go.Proofs.YtppmcnpjglackaaGreatDoor
