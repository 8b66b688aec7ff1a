/- Pages: plain laws of what New makes: one cell more, one range more. -/
import Derived.Test.YtamcpdggpdaioaaPgPlain
namespace Go.Proofs.Ytamcpdggpdaioaa
set_option linter.unusedVariables false
set_option linter.unusedSimpArgs false

def Pg.ok (c : Int) : Bool := decide (0 ≤ c ∧ c ≤ 1114111)
theorem Pg.last_snoc (L : List (Int × Int)) (x : Int × Int) (c : Int) : Pg.last (L ++ [x]) c = if x.1 = c then x.2 else Pg.last L c := by
  unfold Pg.last
  rw [List.foldl_append]
  rfl
theorem Pg.last_nil (c : Int) : Pg.last [] c = 0 := rfl
theorem Pg.blk_skip (L : List (Int × Int)) (x : Int × Int) (h : Pg.ok x.1 = false) {m : Nat} (hm : m < 4352) : Pg.blk (Pg.last (L ++ [x])) m = Pg.blk (Pg.last L) m := by
  unfold Pg.blk
  refine List.map_congr_left fun i hi => ?_
  have hi := List.mem_range.1 hi
  rw [Pg.last_snoc, if_neg]
  intro e
  unfold Pg.ok at h
  rw [decide_eq_false_iff_not] at h
  omega
theorem Pg.blk_other (L : List (Int × Int)) (x : Int × Int) {m n : Nat} (hn : x.1 / 256 = (n : Int)) (hne : m ≠ n) : Pg.blk (Pg.last (L ++ [x])) m = Pg.blk (Pg.last L) m := by
  unfold Pg.blk
  refine List.map_congr_left fun i hi => ?_
  have hi := List.mem_range.1 hi
  rw [Pg.last_snoc, if_neg]
  intro e
  omega
theorem Pg.blk_set (L : List (Int × Int)) (x : Int × Int) {n j : Nat} (hn : x.1 / 256 = (n : Int)) (hj : x.1 % 256 = (j : Int)) : Pg.blk (Pg.last (L ++ [x])) n = (Pg.blk (Pg.last L) n).set j x.2 := by
  refine List.ext_getElem? fun i => ?_
  rw [List.getElem?_set, Pg.blk_len]
  by_cases hi : i < 256
  · rw [Pg.blk_get _ _ hi, Pg.blk_get _ _ hi, Pg.last_snoc]
    by_cases e : j = i
    · subst e
      rw [if_pos (by omega), if_pos rfl, if_pos hi]
    · rw [if_neg (by omega), if_neg e]
  · rw [List.getElem?_eq_none (by rw [Pg.blk_len]; omega)]
    split
    · rw [if_neg (by omega)]
    · rw [List.getElem?_eq_none (by rw [Pg.blk_len]; omega)]
theorem Pg.blk_last_nil (n : Nat) : Pg.blk (Pg.last []) n = Pg.zeros := by
  unfold Pg.blk Pg.zeros
  refine List.ext_getElem? fun i => ?_
  by_cases hi : i < 256
  · rw [List.getElem?_map, List.getElem?_range hi, List.getElem?_replicate, if_pos hi]; rfl
  · rw [List.getElem?_eq_none (by rw [List.length_map, List.length_range]; omega), List.getElem?_eq_none (by rw [List.length_replicate]; omega)]
/-- A block's place, if it is there. -/
def Pg.place (bl : List (List Int)) (b : List Int) : Option Nat := if b ∈ bl then some (Pg.at bl b) else none
theorem Pg.place_add {bl : List (List Int)} {b : List Int} (h : b ∉ bl) (x : List Int) : Pg.place (Pg.add bl b) x = if x = b then some bl.length else Pg.place bl x := by
  unfold Pg.place
  by_cases hx : x = b
  · subst hx
    rw [if_pos (Pg.add_mem.2 (.inr rfl)), if_pos rfl]
    unfold Pg.add Pg.at
    rw [if_neg h, List.idxOf_append, if_neg h]
    simp
  · rw [if_neg hx]
    by_cases hm : x ∈ bl
    · rw [if_pos (Pg.add_mem.2 (.inl hm)), if_pos hm, Pg.add_at hm]
    · rw [if_neg fun h' => (Pg.add_mem.1 h').elim hm hx, if_neg hm]
theorem Pg.add_there {bl : List (List Int)} {b : List Int} (h : b ∈ bl) : Pg.add bl b = bl := if_pos h
theorem Pg.add_new {bl : List (List Int)} {b : List Int} (h : b ∉ bl) : Pg.add bl b = bl ++ [b] := if_neg h
theorem Pg.zeros_mem (f : Int → Int) (m : Nat) : Pg.zeros ∈ Pg.bls f m := (Pg.bls_mem f m _).2 (.inl rfl)
theorem Pg.at_zeros (f : Int → Int) (m : Nat) : Pg.at (Pg.bls f m) Pg.zeros = 0 := by
  have h := Pg.bls_head f m
  obtain ⟨l, hl⟩ : ∃ l, Pg.bls f m = Pg.zeros :: l := by
    cases hb : Pg.bls f m with
    | nil => rw [hb] at h; cases h
    | cons y l => rw [hb] at h; simp at h; exact ⟨l, by rw [h]⟩
  rw [hl]
  unfold Pg.at
  simp
/-- The places that are laid when m ranges are done. -/
def Pg.idxZ (f : Int → Int) (m : Nat) : List Int := Pg.idx f m ++ List.replicate (4352 - m) 0
theorem Pg.idxZ_len (f : Int → Int) {m : Nat} (h : m ≤ 4352) : (Pg.idxZ f m).length = 4352 := by
  unfold Pg.idxZ
  rw [List.length_append, Pg.idx_len, List.length_replicate]
  omega
theorem Pg.idxZ_zero (f : Int → Int) : Pg.idxZ f 0 = List.replicate 4352 0 := rfl
theorem Pg.idxZ_end (f : Int → Int) : Pg.idxZ f 4352 = Pg.idx f 4352 := by unfold Pg.idxZ; simp
theorem Pg.idxZ_set (f : Int → Int) {m : Nat} (h : m < 4352) : Pg.idxZ f (m + 1) = (Pg.idxZ f m).set m (Pg.at (Pg.bls f (m + 1)) (Pg.blk f m) : Int) := by
  unfold Pg.idxZ
  rw [Pg.idx_succ, show 4352 - m = (4352 - (m + 1)) + 1 by omega, List.replicate_succ, List.append_assoc, List.set_append_right _ _ (by rw [Pg.idx_len]; exact Nat.le_refl _), Pg.idx_len, Nat.sub_self]
  rfl
theorem Pg.idxZ_skip (f : Int → Int) {m : Nat} (h : m < 4352) (hb : Pg.blk f m = Pg.zeros) : Pg.bls f (m + 1) = Pg.bls f m ∧ Pg.idxZ f (m + 1) = Pg.idxZ f m := by
  have h1 : Pg.bls f (m + 1) = Pg.bls f m := by rw [Pg.bls, hb, Pg.add_there (Pg.zeros_mem f m)]
  refine ⟨h1, ?_⟩
  rw [Pg.idxZ_set f h, h1, hb, Pg.at_zeros]
  refine List.ext_getElem? fun i => ?_
  rw [List.getElem?_set]
  by_cases e : m = i
  · subst e
    rw [if_pos rfl, if_pos (by rw [Pg.idxZ_len f (by omega)]; exact h)]
    unfold Pg.idxZ
    rw [List.getElem?_append_right (by rw [Pg.idx_len]; exact Nat.le_refl _), Pg.idx_len, Nat.sub_self, List.getElem?_replicate, if_pos (by omega)]
    rfl
  · rw [if_neg e]
end Go.Proofs.Ytamcpdggpdaioaa
