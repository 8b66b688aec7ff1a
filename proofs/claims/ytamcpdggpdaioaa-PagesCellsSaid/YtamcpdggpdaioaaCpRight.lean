/- The law's ranges: Right, Set, by walking their texts. -/
import Derived.Test.YtamcpdggpdaioaaCpArgs
namespace Go.Proofs.Ytamcpdggpdaioaa
open Go.RowKit
set_option linter.unusedSimpArgs false
set_option linter.unusedVariables false

theorem C.and_21 (n : Int) : bits .and .i64 n 2097151 = n % 2097152 := by
  have hm : (BitVec.ofInt 64 2097151).toNat = 2 ^ 21 - 1 := by decide
  have key : (BitVec.ofInt 64 n &&& BitVec.ofInt 64 2097151).toNat = (n % ((2 ^ 64 : Nat) : Int)).toNat % 2 ^ 21 := by
    rw [BitVec.toNat_and, BitVec.toNat_ofInt, hm, Nat.and_two_pow_sub_one_eq_mod]
  show IntKind.i64.wrap ((BitVec.ofInt 64 n &&& BitVec.ofInt 64 2097151).toNat : Nat) = n % 2097152
  rw [key, IntKind.wrap_i64]
  omega

/-- A number made one of a character's. -/
def C.lim (x : Int) : Int := x % 2097152 % 1114112
theorem C.lim_bd (x : Int) : 0 ≤ C.lim x ∧ C.lim x ≤ 1114111 := by unfold C.lim; omega
def C.rt (r : Int × Int) : Int × Int := (min (C.lim r.1) (C.lim r.2), max (C.lim r.1) (C.lim r.2))
def C.right (rs : List (Int × Int)) : List (Int × Int) := (rs.take 12).map C.rt
theorem C.right_good (rs : List (Int × Int)) : C.good (C.right rs) = true := by
  unfold C.good C.right
  rw [List.all_eq_true]
  intro r hr
  obtain ⟨q, _, rfl⟩ := List.mem_map.1 hr
  have h1 := C.lim_bd q.1
  have h2 := C.lim_bd q.2
  have key : ∀ a b : Int, 0 ≤ a → a ≤ 1114111 → 0 ≤ b → b ≤ 1114111 → (0 ≤ min a b ∧ max a b ≤ 1114111) ∧ min a b ≤ max a b := by intros; omega
  have := key (C.lim q.1) (C.lim q.2) h1.1 h1.2 h2.1 h2.2
  show (decide (0 ≤ min (C.lim q.1) (C.lim q.2)) && decide (max (C.lim q.1) (C.lim q.2) ≤ 1114111) && decide (min (C.lim q.1) (C.lim q.2) ≤ max (C.lim q.1) (C.lim q.2))) = true
  rw [decide_eq_true this.1.1, decide_eq_true this.1.2, decide_eq_true this.2]; rfl

theorem own_set {w : World} {base : Nat} {e : TypeId} {size n c g j : Nat} {xs : List Value} (h : w.ownsRow base e size (.slice (some ⟨g, 0, none⟩) n c) n xs) (hj : j < xs.length) (u : Value) :
    (w.setCell ⟨g, j, none⟩ u).ownsRow base e size (.slice (some ⟨g, 0, none⟩) n c) n (xs.set j u) := by
  obtain ⟨h1, h2⟩ := h
  refine ⟨by rw [List.length_set]; exact h1, ?_⟩
  rcases h2 with ⟨h2, _⟩ | ⟨g', cap, cur, hv, hg, hc, hn, hm, hs, ht⟩
  · cases h2
  · cases hv
    refine .inr ⟨g, c, cur.set! j u, rfl, hg, ?_, hn, hm, by simp [hs], ?_⟩
    · simp [World.setCell, Array.getElem?_modify, hc]
    · rw [← ht]
      apply List.ext_getElem?
      intro i
      simp only [List.getElem?_take, List.getElem?_set, Array.toList_set!, List.length_take, Array.length_toList]
      have hl : n * size ≤ cur.size := by rw [hs]; exact Nat.mul_le_mul_right _ hn
      rw [h1] at hj
      by_cases h3 : j = i
      · subst h3
        simp [hj, show j < cur.size by omega]
        omega
      · simp [h3]
theorem own_zero {w : World} {base : Nat} {e : TypeId} {size n c b o : Nat} {xs : List Value} (h : w.ownsRow base e size (.slice (some ⟨b, o, none⟩) n c) n xs) : o = 0 ∧ base ≤ b ∧ b < w.heap.size ∧ ∀ j, w.frozen? ⟨b, j, none⟩ = false := by
  rcases h.2 with ⟨h2, _⟩ | ⟨g', cap, cur, hv, hg, hc, hn, hm, hs, ht⟩
  · cases h2
  · cases hv
    exact ⟨rfl, hg, heap_lt hc, fun j => by simp [World.frozen?, hc]⟩
theorem C.fl_set (k : IntKind) : ∀ (rs : List (Int × Int)) (i : Nat) (r : Int × Int), i < rs.length → ((C.fl k rs).set (i * 2) (.int k r.1)).set (i * 2 + 1) (.int k r.2) = C.fl k (rs.set i r)
  | [], i, r, h => by simp at h
  | (x, y) :: t, 0, r, h => rfl
  | (x, y) :: t, i + 1, r, h => by
    rw [show (i + 1) * 2 = i * 2 + 1 + 1 by omega]
    show _ :: _ :: ((C.fl k t).set (i * 2) _).set (i * 2 + 1) _ = _
    rw [C.fl_set k t i r (by simpa using h)]
    rfl

end Go.Proofs.Ytamcpdggpdaioaa
