/- A row of runes that the call has built, each number once (slices.Compact). -/
import Derived.Test.YtamcpdggpdaioaaSoCompact
import Derived.Test.YtamcpdggpdaioaaCpArgs
namespace Go.Proofs.Ytamcpdggpdaioaa
open Go.RowKit Go.Sort
set_option linter.unusedSimpArgs false
set_option linter.unusedVariables false

theorem R.heap0 {w : World} {g n : Nat} {cur : Array Value} {e : TypeId} {fr : Nat × Nat} (d : Array Int) (hb : w.heap[g]? = some (.cells cur e fr)) :
    (putRow (Value.int .i32) (Sort.ahead w n) g 0 d).heap[g]? = some (.cells (putCells (Value.int .i32) 0 d cur) e fr) := by
  simp [putRow, mapBlock, Sort.ahead, Array.getElem?_modify, hb, onCells]
theorem R.below0 {w : World} {g n base : Nat} (d : Array Int) (hg : base ≤ g) : RowKit.Below base w (putRow (Value.int .i32) (Sort.ahead w n) g 0 d) := by
  refine ⟨rfl, rfl, rfl, by simp, fun k hk => ?_⟩
  have : g ≠ k := by omega
  simp [putRow, mapBlock, Sort.ahead, Array.getElem?_modify, this]
theorem R.compact_len (l : List Int) : (Lib.compact l).length ≤ l.length := by
  unfold Lib.compact Lib.compactUpTo
  rw [List.length_map]
  exact Nat.le_trans (List.length_filter_le _ _) (by simp)

theorem R.compact_any (A : Option Addr) (n c base e : Nat) (l : List Int) (w : World) (hn : l.length = n) (hn' : n ≤ 1000000) (hown : w.ownsRow base e 1 (.slice A n c) n (l.map (Value.int .i32))) (hbase : base ≤ w.heap.size) :
    Calls Try.prog 49 #[.slice A n c] w fun r w' => ∃ A' c', r = .returned (.slice A' (Lib.compact l).length c') ∧ Sl w' w'.heap.size A' ((Lib.compact l).map (Value.int .i32)) ∧ RowKit.Below base w w' := by
  subst hn
  rcases hown.2 with ⟨hv, h0⟩ | ⟨g, cap, cur, hv, hg, hb, h1, h2, h3, h4⟩
  · simp only [Value.slice.injEq] at hv
    obtain ⟨rfl, _, rfl⟩ := hv
    have hl : l = [] := List.eq_nil_of_length_eq_zero h0
    subst hl
    refine (So.slices_Compact_int_empty none 0 w).mono fun r w' hh => ?_
    obtain ⟨hr, hw⟩ := hh
    subst hw
    exact ⟨none, 0, by rw [hr]; rfl, Sl.nil _ _ _, RowKit.Below.refl _ _⟩
  · simp only [Value.slice.injEq] at hv
    obtain ⟨rfl, _, rfl⟩ := hv
    rw [Nat.mul_one] at h4
    have hgl : g < w.heap.size := (Array.getElem?_eq_some_iff.1 hb).1
    refine (So.slices_Compact_int g 0 c l w (R.holds hb h4) (by omega) h1).mono fun r w' hh => ?_
    obtain ⟨hr, q, hw⟩ := hh
    subst hw
    have hcl := R.compact_len l
    refine ⟨_, _, hr, ?_, R.below0 _ hg⟩
    intro hx
    rw [List.length_map] at hx
    refine ⟨g, 0, rfl, by simpa using hgl, fun i hi => ?_⟩
    rw [List.length_map] at hi
    have hc3 : cur.size = c := by rw [h3, Nat.mul_one]
    have hic : i < cur.size := by omega
    have hd : i < (Lib.compact l ++ List.replicate (l.length - (Lib.compact l).length) 0).toArray.size := by simp; omega
    simp only [World.cell?, R.heap0 _ hb, Nat.zero_add, Option.isSome_none, Bool.false_eq_true, if_false]
    rw [List.getElem?_map, List.getElem?_eq_getElem hi]
    simp only [putCells, Array.getElem?_mapIdx]
    rw [Array.getElem?_eq_getElem hic]
    simp only [Option.map_some, Nat.sub_zero, Nat.zero_le, true_and, Nat.zero_add]
    rw [if_pos hd, getElem!_pos _ i hd]
    simp [List.getElem_append, hi]
end Go.Proofs.Ytamcpdggpdaioaa

/- The law's ranges: Right, Set, by walking their texts. -/
namespace Go.Proofs.Ytamcpdggpdaioaa
open Go.RowKit
set_option linter.unusedSimpArgs false
set_option linter.unusedVariables false

theorem C.and_21 (n : Int) : bits .and .i64 n 2097151 = n % 2097152 := by
  have hm : (BitVec.ofInt 64 2097151).toNat = 2 ^ 21 - 1 := by decide
  have key : (BitVec.ofInt 64 n &&& BitVec.ofInt 64 2097151).toNat = (n % ((2 ^ 64 : Nat) : Int)).toNat % 2 ^ 21 := by
    rw [BitVec.toNat_and, BitVec.toNat_ofInt, hm, Nat.and_two_pow_sub_one_eq_mod]
  show IntKind.i64.wrap ((BitVec.ofInt 64 n &&& BitVec.ofInt 64 2097151).toNat : Nat) = n % 2097152
  rw [key, IntKind.wrap_i64]
  omega

/-- A number made one of a character's. -/
def C.lim (x : Int) : Int := x % 2097152 % 1114112
theorem C.lim_bd (x : Int) : 0 ≤ C.lim x ∧ C.lim x ≤ 1114111 := by unfold C.lim; omega
def C.rt (r : Int × Int) : Int × Int := (min (C.lim r.1) (C.lim r.2), max (C.lim r.1) (C.lim r.2))
def C.right (rs : List (Int × Int)) : List (Int × Int) := (rs.take 12).map C.rt
theorem C.right_good (rs : List (Int × Int)) : C.good (C.right rs) = true := by
  unfold C.good C.right
  rw [List.all_eq_true]
  intro r hr
  obtain ⟨q, _, rfl⟩ := List.mem_map.1 hr
  have h1 := C.lim_bd q.1
  have h2 := C.lim_bd q.2
  have key : ∀ a b : Int, 0 ≤ a → a ≤ 1114111 → 0 ≤ b → b ≤ 1114111 → (0 ≤ min a b ∧ max a b ≤ 1114111) ∧ min a b ≤ max a b := by intros; omega
  have := key (C.lim q.1) (C.lim q.2) h1.1 h1.2 h2.1 h2.2
  show (decide (0 ≤ min (C.lim q.1) (C.lim q.2)) && decide (max (C.lim q.1) (C.lim q.2) ≤ 1114111) && decide (min (C.lim q.1) (C.lim q.2) ≤ max (C.lim q.1) (C.lim q.2))) = true
  rw [decide_eq_true this.1.1, decide_eq_true this.1.2, decide_eq_true this.2]; rfl

theorem own_set {w : World} {base : Nat} {e : TypeId} {size n c g j : Nat} {xs : List Value} (h : w.ownsRow base e size (.slice (some ⟨g, 0, none⟩) n c) n xs) (hj : j < xs.length) (u : Value) :
    (w.setCell ⟨g, j, none⟩ u).ownsRow base e size (.slice (some ⟨g, 0, none⟩) n c) n (xs.set j u) := by
  obtain ⟨h1, h2⟩ := h
  refine ⟨by rw [List.length_set]; exact h1, ?_⟩
  rcases h2 with ⟨h2, _⟩ | ⟨g', cap, cur, hv, hg, hc, hn, hm, hs, ht⟩
  · cases h2
  · cases hv
    refine .inr ⟨g, c, cur.set! j u, rfl, hg, ?_, hn, hm, by simp [hs], ?_⟩
    · simp [World.setCell, Array.getElem?_modify, hc]
    · rw [← ht]
      apply List.ext_getElem?
      intro i
      simp only [List.getElem?_take, List.getElem?_set, Array.toList_set!, List.length_take, Array.length_toList]
      have hl : n * size ≤ cur.size := by rw [hs]; exact Nat.mul_le_mul_right _ hn
      rw [h1] at hj
      by_cases h3 : j = i
      · subst h3
        simp [hj, show j < cur.size by omega]
        omega
      · simp [h3]
theorem own_zero {w : World} {base : Nat} {e : TypeId} {size n c b o : Nat} {xs : List Value} (h : w.ownsRow base e size (.slice (some ⟨b, o, none⟩) n c) n xs) : o = 0 ∧ base ≤ b ∧ b < w.heap.size ∧ ∀ j, w.frozen? ⟨b, j, none⟩ = false := by
  rcases h.2 with ⟨h2, _⟩ | ⟨g', cap, cur, hv, hg, hc, hn, hm, hs, ht⟩
  · cases h2
  · cases hv
    exact ⟨rfl, hg, heap_lt hc, fun j => by simp [World.frozen?, hc]⟩
theorem C.fl_set (k : IntKind) : ∀ (rs : List (Int × Int)) (i : Nat) (r : Int × Int), i < rs.length → ((C.fl k rs).set (i * 2) (.int k r.1)).set (i * 2 + 1) (.int k r.2) = C.fl k (rs.set i r)
  | [], i, r, h => by simp at h
  | (x, y) :: t, 0, r, h => rfl
  | (x, y) :: t, i + 1, r, h => by
    rw [show (i + 1) * 2 = i * 2 + 1 + 1 by omega]
    show _ :: _ :: ((C.fl k t).set (i * 2) _).set (i * 2 + 1) _ = _
    rw [C.fl_set k t i r (by simpa using h)]
    rfl

end Go.Proofs.Ytamcpdggpdaioaa

/- The law's Set, awake, by walking their texts. -/
namespace Go.Proofs.Ytamcpdggpdaioaa
open Go.RowKit
set_option linter.unusedSimpArgs false
set_option linter.unusedVariables false

theorem C.good_bd {rs : List (Int × Int)} (h : C.good rs = true) : ∀ r ∈ rs, (-2147483648 ≤ r.1 ∧ r.1 ≤ 2147483647) ∧ -2147483648 ≤ r.2 ∧ r.2 ≤ 2147483647 := by
  intro r hr
  have := List.all_eq_true.1 h r hr
  simp at this
  omega
theorem C.ofS_ok {rs : List (Int × Int)} (h : C.good rs = true) : C.ok (C.ofS rs) ∧ (C.ofS rs).length ≤ 2 * rs.length + 4 := by
  obtain ⟨h1, h2⟩ := C.ofL_ok rs h
  have h3 := C.mrg_len C.andF (C.ofL rs) C.all
  have h4 : C.all.length = 4 := rfl
  refine ⟨C.mrg_ok C.andF rfl h1 C.all_ok, ?_⟩
  unfold C.ofS
  omega

end Go.Proofs.Ytamcpdggpdaioaa
