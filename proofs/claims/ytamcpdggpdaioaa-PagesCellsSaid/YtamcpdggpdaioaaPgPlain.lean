/- Pages: the plain model: numbers of characters, block by block. -/
import Derived.Test.YtamcpdggpdaioaaLib4
namespace Go.Proofs.Ytamcpdggpdaioaa
set_option linter.unusedVariables false
set_option linter.unusedSimpArgs false

/-- The number of a character: its last cell's. -/
def Pg.last (L : List (Int × Int)) (c : Int) : Int := L.foldl (fun a x => if x.1 = c then x.2 else a) 0
def Pg.blk (f : Int → Int) (n : Nat) : List Int := (List.range 256).map fun i : Nat => f (256 * (n : Int) + (i : Int))
def Pg.zeros : List Int := List.replicate 256 0
def Pg.add (bl : List (List Int)) (b : List Int) : List (List Int) := if b ∈ bl then bl else bl ++ [b]
/-- The blocks of the first m ranges. -/
def Pg.bls (f : Int → Int) : Nat → List (List Int)
  | 0 => [Pg.zeros]
  | m + 1 => Pg.add (Pg.bls f m) (Pg.blk f m)
/-- A block's place. -/
def Pg.at (bl : List (List Int)) (b : List Int) : Nat := bl.idxOf b
theorem Pg.blk_len (f : Int → Int) (n : Nat) : (Pg.blk f n).length = 256 := by unfold Pg.blk; simp
theorem Pg.blk_get (f : Int → Int) (n : Nat) {i : Nat} (hi : i < 256) : (Pg.blk f n)[i]? = some (f (256 * (n : Int) + (i : Int))) := by
  unfold Pg.blk
  rw [List.getElem?_map, List.getElem?_range hi]
  rfl
theorem Pg.add_mem {bl : List (List Int)} {b x : List Int} : x ∈ Pg.add bl b ↔ x ∈ bl ∨ x = b := by
  unfold Pg.add
  split
  · rename_i h
    constructor
    · exact Or.inl
    · rintro (h' | rfl)
      · exact h'
      · exact h
  · simp
theorem Pg.add_at {bl : List (List Int)} {b x : List Int} (h : x ∈ bl) : Pg.at (Pg.add bl b) x = Pg.at bl x := by
  unfold Pg.add Pg.at
  split
  · rfl
  · rw [List.idxOf_append, if_pos h]
theorem Pg.bls_mem (f : Int → Int) : ∀ (m : Nat) (x : List Int), x ∈ Pg.bls f m ↔ x = Pg.zeros ∨ ∃ n, n < m ∧ x = Pg.blk f n
  | 0, x => by simp [Pg.bls]
  | m + 1, x => by
    rw [Pg.bls, Pg.add_mem, Pg.bls_mem f m x]
    constructor
    · rintro ((h | ⟨n, hn, h⟩) | h)
      · exact .inl h
      · exact .inr ⟨n, by omega, h⟩
      · exact .inr ⟨m, by omega, h⟩
    · rintro (h | ⟨n, hn, h⟩)
      · exact .inl (.inl h)
      · by_cases hm : n = m
        · subst hm; exact .inr h
        · exact .inl (.inr ⟨n, by omega, h⟩)
theorem Pg.bls_len256 (f : Int → Int) (m : Nat) : ∀ b ∈ Pg.bls f m, b.length = 256 := by
  intro b hb
  rcases (Pg.bls_mem f m b).1 hb with rfl | ⟨n, _, rfl⟩
  · unfold Pg.zeros; exact List.length_replicate
  · exact Pg.blk_len f n
theorem Pg.bls_len (f : Int → Int) : ∀ m, (Pg.bls f m).length ≤ m + 1
  | 0 => by simp [Pg.bls]
  | m + 1 => by
    have := Pg.bls_len f m
    rw [Pg.bls]
    unfold Pg.add
    split
    · omega
    · simp; omega
theorem Pg.bls_nodup (f : Int → Int) : ∀ m, (Pg.bls f m).Nodup
  | 0 => by simp [Pg.bls]
  | m + 1 => by
    have := Pg.bls_nodup f m
    rw [Pg.bls]
    unfold Pg.add
    split
    · exact this
    · rename_i h
      rw [List.nodup_append]
      exact ⟨this, by simp, fun a ha b hb => by simp at hb; subst hb; exact fun e => h (e ▸ ha)⟩
/-- What is kept: each range's place, and the blocks. -/
def Pg.idx (f : Int → Int) (m : Nat) : List Int := (List.range m).map fun n => (Pg.at (Pg.bls f m) (Pg.blk f n) : Int)
theorem Pg.idx_len (f : Int → Int) (m : Nat) : (Pg.idx f m).length = m := by unfold Pg.idx; simp
theorem Pg.idx_get (f : Int → Int) (m : Nat) {n : Nat} (hn : n < m) : (Pg.idx f m)[n]? = some (Pg.at (Pg.bls f m) (Pg.blk f n) : Int) := by
  unfold Pg.idx
  rw [List.getElem?_map, List.getElem?_range hn]
  rfl
theorem Pg.at_lt {bl : List (List Int)} {b : List Int} (h : b ∈ bl) : Pg.at bl b < bl.length := List.idxOf_lt_length_of_mem h
theorem Pg.at_get {bl : List (List Int)} {b : List Int} (h : b ∈ bl) : bl[Pg.at bl b]? = some b := by
  unfold Pg.at
  rw [List.getElem?_eq_getElem (List.idxOf_lt_length_of_mem h), List.getElem_idxOf]
theorem Pg.idx_succ (f : Int → Int) (m : Nat) : Pg.idx f (m + 1) = Pg.idx f m ++ [(Pg.at (Pg.bls f (m + 1)) (Pg.blk f m) : Int)] := by
  unfold Pg.idx
  rw [List.range_succ, List.map_append]
  congr 1
  refine List.map_congr_left fun n hn => ?_
  have hn := List.mem_range.1 hn
  rw [Pg.bls, Pg.add_at ((Pg.bls_mem f m _).2 (.inr ⟨n, hn, rfl⟩))]
theorem Pg.flat_get : ∀ (bl : List (List Int)) (k i : Nat) (b : List Int), (∀ b ∈ bl, b.length = 256) → bl[k]? = some b → i < 256 → bl.flatten[k * 256 + i]? = b[i]?
  | [], k, i, b, _, h, _ => by simp at h
  | x :: l, 0, i, b, hl, h, hi => by
    simp at h
    subst h
    rw [List.flatten_cons, Nat.zero_mul, Nat.zero_add, List.getElem?_append_left (by rw [hl x (by simp)]; exact hi)]
  | x :: l, k + 1, i, b, hl, h, hi => by
    simp at h
    have hx := hl x (by simp)
    rw [List.flatten_cons, List.getElem?_append_right (by rw [hx]; omega), hx]
    rw [show (k + 1) * 256 + i - 256 = k * 256 + i by omega]
    exact Pg.flat_get l k i b (fun b hb => hl b (by simp [hb])) h hi
theorem Pg.flat_len : ∀ (bl : List (List Int)), (∀ b ∈ bl, b.length = 256) → bl.flatten.length = bl.length * 256
  | [], _ => rfl
  | x :: l, h => by
    rw [List.flatten_cons, List.length_append, h x (by simp), Pg.flat_len l (fun b hb => h b (by simp [hb])), List.length_cons]
    omega
/-- The numbers that aren't 0, below a bound. -/
def Pg.cellsN (f : Int → Int) (m : Nat) : List (Int × Int) := (List.range m).filterMap fun c : Nat => if f c = 0 then none else some ((c : Int), f c)
theorem Pg.cellsN_succ (f : Int → Int) (m : Nat) : Pg.cellsN f (m + 1) = Pg.cellsN f m ++ (if f m = 0 then [] else [((m : Int), f m)]) := by
  unfold Pg.cellsN
  rw [List.range_succ, List.filterMap_append]
  congr 1
  by_cases h : f m = 0
  · simp [h]
  · simp [h]
theorem Pg.cellsN_skip (f : Int → Int) (m : Nat) : ∀ k : Nat, (∀ i : Nat, i < k → f ((m : Int) + (i : Int)) = 0) → Pg.cellsN f (m + k) = Pg.cellsN f m
  | 0, _ => rfl
  | k + 1, h => by
    have h1 := h k (Nat.lt_succ_self k)
    rw [← Nat.add_assoc, Pg.cellsN_succ, if_pos (by rw [← h1]; congr 1), List.append_nil]
    exact Pg.cellsN_skip f m k fun i hi => h i (by omega)
theorem Pg.cellsN_len (f : Int → Int) (m : Nat) : (Pg.cellsN f m).length ≤ m := by
  unfold Pg.cellsN
  exact Nat.le_trans (List.length_filterMap_le _ _) (by simp)
theorem Pg.bls_head (f : Int → Int) : ∀ m, (Pg.bls f m)[0]? = some Pg.zeros
  | 0 => rfl
  | m + 1 => by
    have := Pg.bls_head f m
    rw [Pg.bls]
    unfold Pg.add
    split
    · exact this
    · rw [List.getElem?_append_left (List.getElem?_eq_some_iff.1 this).1]
      exact this
theorem Pg.blk_zero {f : Int → Int} {n : Nat} (h : Pg.blk f n = Pg.zeros) {i : Nat} (hi : i < 256) : f (256 * (n : Int) + (i : Int)) = 0 := by
  have h1 := Pg.blk_get f n hi
  rw [h] at h1
  unfold Pg.zeros at h1
  rw [List.getElem?_replicate, if_pos hi] at h1
  exact (Option.some.inj h1).symm
theorem Pg.at_zero {f : Int → Int} {m : Nat} {b : List Int} (hm : b ∈ Pg.bls f m) (h : Pg.at (Pg.bls f m) b = 0) : b = Pg.zeros := by
  have h1 := Pg.at_get hm
  rw [h, Pg.bls_head] at h1
  exact (Option.some.inj h1).symm
/-- Cells, laid flat. -/
def Pg.fl : List (Int × Int) → List Value
  | [] => []
  | r :: l => .int .i32 r.1 :: .int .u16 r.2 :: Pg.fl l
theorem Pg.fl_app : ∀ (a b : List (Int × Int)), Pg.fl (a ++ b) = Pg.fl a ++ Pg.fl b
  | [], b => rfl
  | r :: a, b => by simp [Pg.fl, Pg.fl_app a b]
theorem Pg.fl_len : ∀ (a : List (Int × Int)), (Pg.fl a).length = a.length * 2
  | [] => rfl
  | r :: a => by simp [Pg.fl, Pg.fl_len a]; omega
theorem Pg.fl_get : ∀ (a : List (Int × Int)) (i : Nat) (r : Int × Int), a[i]? = some r → (Pg.fl a)[i * 2]? = some (.int .i32 r.1) ∧ (Pg.fl a)[i * 2 + 1]? = some (.int .u16 r.2)
  | [], i, r, h => by simp at h
  | q :: a, 0, r, h => by simp at h; subst h; exact ⟨rfl, rfl⟩
  | q :: a, i + 1, r, h => by
    have := Pg.fl_get a i r (by simpa using h)
    rw [show (i + 1) * 2 = i * 2 + 2 by omega, show i * 2 + 2 + 1 = i * 2 + 1 + 2 by omega]
    exact this
end Go.Proofs.Ytamcpdggpdaioaa
