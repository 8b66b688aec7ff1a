/- Pages: plain laws of the document's count of blocks. -/
import Derived.Test.YtamcpdggpdaioaaPgPlain4
namespace Go.Proofs.Ytamcpdggpdaioaa
set_option linter.unusedVariables false
set_option linter.unusedSimpArgs false

/-- A block's numbers as the document writes them: a place and a number, of each that isn't 0. -/
def Pg.nz (b : List Int) : List (Int × Int) := Pg.cellsN (fun i => b.getD i.toNat 0) 256
theorem Pg.cellsN_congr {f g : Int → Int} : ∀ m : Nat, (∀ i : Nat, i < m → f i = g i) → Pg.cellsN f m = Pg.cellsN g m
  | 0, _ => rfl
  | m + 1, h => by rw [Pg.cellsN_succ, Pg.cellsN_succ, Pg.cellsN_congr m (fun i hi => h i (by omega)), h m (by omega)]
theorem Pg.nz_blk (f : Int → Int) (n : Nat) : Pg.nz (Pg.blk f n) = Pg.cellsN (fun i => f (256 * (n : Int) + i)) 256 := by
  unfold Pg.nz
  refine Pg.cellsN_congr 256 fun i hi => ?_
  have : ((i : Int)).toNat = i := by omega
  rw [this, List.getD_eq_getElem?_getD, Pg.blk_get f n hi]
  rfl
theorem Pg.nz_zeros : Pg.nz Pg.zeros = [] := by
  unfold Pg.nz
  have : Pg.cellsN (fun i => Pg.zeros.getD i.toNat 0) 256 = Pg.cellsN (fun _ => 0) 256 := by
    refine Pg.cellsN_congr 256 fun i hi => ?_
    rw [List.getD_eq_getElem?_getD]
    unfold Pg.zeros
    rw [List.getElem?_replicate]
    split <;> rfl
  rw [this]
  suffices ∀ m, Pg.cellsN (fun _ => 0) m = [] from this 256
  intro m
  induction m with
  | zero => rfl
  | succ m ih => rw [Pg.cellsN_succ, ih]; simp
theorem Pg.nz_inj {a b : List Int} (ha : a.length = 256) (hb : b.length = 256) (h : Pg.nz a = Pg.nz b) : a = b := by
  refine List.ext_getElem? fun i => ?_
  by_cases hi : i < 256
  · have h1 := Pg.cellsN_last (fun i => a.getD i.toNat 0) 256 i (by omega) (by omega)
    have h2 := Pg.cellsN_last (fun i => b.getD i.toNat 0) 256 i (by omega) (by omega)
    unfold Pg.nz at h
    rw [h, h2] at h1
    have e : ((i : Int)).toNat = i := by omega
    simp only [e, List.getD_eq_getElem?_getD] at h1
    rw [List.getElem?_eq_getElem (by omega), List.getElem?_eq_getElem (by omega)] at h1 ⊢
    simp at h1
    rw [h1]
  · rw [List.getElem?_eq_none (by omega), List.getElem?_eq_none (by omega)]
theorem Pg.cnt_256 (f : Int → Int) (l : List (Int × Int)) : ∀ b ∈ Pg.cnt f l [Pg.zeros], b.length = 256 := by
  intro b hb
  rcases ((Pg.cnt_spec f l [Pg.zeros] (by simp)).2 b).1 hb with h | ⟨x, _, _, rfl⟩
  · rw [List.mem_singleton.1 h]; exact List.length_replicate
  · exact Pg.blk_len _ _
theorem Pg.cnt_len_le (f : Int → Int) : ∀ (l : List (Int × Int)) (all : List (List Int)), (Pg.cnt f l all).length ≤ all.length + l.length
  | [], all => by simp [Pg.cnt]
  | x :: l, all => by
    have e : Pg.cnt f (x :: l) all = Pg.cnt f l (if Pg.ok x.1 = true then Pg.add all (Pg.blk f (x.1 / 256).toNat) else all) := rfl
    rw [e]
    refine Nat.le_trans (Pg.cnt_len_le f l _) ?_
    have hc : (x :: l).length = l.length + 1 := rfl
    rw [hc]
    split
    · have : (Pg.add all (Pg.blk f (x.1 / 256).toNat)).length ≤ all.length + 1 := by
        unfold Pg.add
        split
        · omega
        · rw [List.length_append]; exact Nat.le_refl _
      omega
    · omega
/-- Is a block there: told by what the document writes. -/
theorem Pg.any_nz {all : List (List Int)} {b : List Int} (h : ∀ a ∈ all, a.length = 256) (hb : b.length = 256) : ((all.map Pg.nz).any fun y => decide (y = Pg.nz b)) = decide (b ∈ all) := by
  rw [Bool.eq_iff_iff, List.any_eq_true, decide_eq_true_eq]
  constructor
  · rintro ⟨y, hy, he⟩
    obtain ⟨a, ha, rfl⟩ := List.mem_map.1 hy
    rw [Pg.nz_inj (h a ha) hb (of_decide_eq_true he)] at ha
    exact ha
  · intro hm
    exact ⟨Pg.nz b, List.mem_map_of_mem hm, by simp⟩
end Go.Proofs.Ytamcpdggpdaioaa
