/- A row of runes that the call has built, each number once (slices.Compact). -/
import Derived.Test.YtppmcnpjglackaaGreatDoorSoOwn
import Derived.Test.YtppmcnpjglackaaGreatDoorSoCompact
namespace Go.Proofs.YtppmcnpjglackaaGreatDoor
open Go.RowKit Go.Sort
set_option linter.unusedSimpArgs false
set_option linter.unusedVariables false

theorem R.heap0 {w : World} {g n : Nat} {cur : Array Value} {e : TypeId} {fr : Nat × Nat} (d : Array Int) (hb : w.heap[g]? = some (.cells cur e fr)) :
    (putRow (Value.int .i32) (Sort.ahead w n) g 0 d).heap[g]? = some (.cells (putCells (Value.int .i32) 0 d cur) e fr) := by
  simp [putRow, mapBlock, Sort.ahead, Array.getElem?_modify, hb, onCells]
theorem R.below0 {w : World} {g n base : Nat} (d : Array Int) (hg : base ≤ g) : RowKit.Below base w (putRow (Value.int .i32) (Sort.ahead w n) g 0 d) := by
  refine ⟨rfl, rfl, rfl, by simp, fun k hk => ?_⟩
  have : g ≠ k := by omega
  simp [putRow, mapBlock, Sort.ahead, Array.getElem?_modify, this]
theorem R.compact_len (l : List Int) : (Lib.compact l).length ≤ l.length := by
  unfold Lib.compact Lib.compactUpTo
  rw [List.length_map]
  exact Nat.le_trans (List.length_filter_le _ _) (by simp)

theorem R.compact_any (A : Option Addr) (n c base e : Nat) (l : List Int) (w : World) (hn : l.length = n) (hn' : n ≤ 1000000) (hown : w.ownsRow base e 1 (.slice A n c) n (l.map (Value.int .i32))) (hbase : base ≤ w.heap.size) :
    Calls Tryz.prog 33 #[.slice A n c] w fun r w' => ∃ A' c', r = .returned (.slice A' (Lib.compact l).length c') ∧ Sl w' w'.heap.size A' ((Lib.compact l).map (Value.int .i32)) ∧ RowKit.Below base w w' := by
  subst hn
  rcases hown.2 with ⟨hv, h0⟩ | ⟨g, cap, cur, hv, hg, hb, h1, h2, h3, h4⟩
  · simp only [Value.slice.injEq] at hv
    obtain ⟨rfl, _, rfl⟩ := hv
    have hl : l = [] := List.eq_nil_of_length_eq_zero h0
    subst hl
    refine (So.slices_Compact_int_empty none 0 w).mono fun r w' hh => ?_
    obtain ⟨hr, hw⟩ := hh
    subst hw
    exact ⟨none, 0, by rw [hr]; rfl, Sl.nil _ _ _, RowKit.Below.refl _ _⟩
  · simp only [Value.slice.injEq] at hv
    obtain ⟨rfl, _, rfl⟩ := hv
    rw [Nat.mul_one] at h4
    have hgl : g < w.heap.size := (Array.getElem?_eq_some_iff.1 hb).1
    refine (So.slices_Compact_int g 0 c l w (R.holds hb h4) (by omega) h1).mono fun r w' hh => ?_
    obtain ⟨hr, q, hw⟩ := hh
    subst hw
    have hcl := R.compact_len l
    refine ⟨_, _, hr, ?_, R.below0 _ hg⟩
    intro hx
    rw [List.length_map] at hx
    refine ⟨g, 0, rfl, by simpa using hgl, fun i hi => ?_⟩
    rw [List.length_map] at hi
    have hc3 : cur.size = c := by rw [h3, Nat.mul_one]
    have hic : i < cur.size := by omega
    have hd : i < (Lib.compact l ++ List.replicate (l.length - (Lib.compact l).length) 0).toArray.size := by simp; omega
    simp only [World.cell?, R.heap0 _ hb, Nat.zero_add, Option.isSome_none, Bool.false_eq_true, if_false]
    rw [List.getElem?_map, List.getElem?_eq_getElem hi]
    simp only [putCells, Array.getElem?_mapIdx]
    rw [Array.getElem?_eq_getElem hic]
    simp only [Option.map_some, Nat.sub_zero, Nat.zero_le, true_and, Nat.zero_add]
    rw [if_pos hd, getElem!_pos _ i hd]
    simp [List.getElem_append, hi]
end Go.Proofs.YtppmcnpjglackaaGreatDoor
