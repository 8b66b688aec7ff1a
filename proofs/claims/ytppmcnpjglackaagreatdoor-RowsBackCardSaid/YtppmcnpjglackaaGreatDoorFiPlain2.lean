/- Layer field, plain: fields, notes and blanks; no program in sight. -/
import Derived.Test.YtppmcnpjglackaaGreatDoorFiText
import Derived.Lib.SplitLaws
import Derived.Lib.IndexBytes
import Derived.Lib.CutLaws
import Derived.Lib.TrimByte
namespace Go.Proofs.YtppmcnpjglackaaGreatDoor
open Go.RowKit Go.Stop
set_option linter.unusedSimpArgs false

/-- The parts between bytes c; w: what of the first part has come already. -/
def Fi.spl (c : UInt8) : List UInt8 → List UInt8 → List (List UInt8)
  | w, [] => [w]
  | w, b :: r => if b = c then w :: Fi.spl c [] r else Fi.spl c (w ++ [b]) r
theorem Fi.spl_ne (c : UInt8) : ∀ (l w : List UInt8), Fi.spl c w l ≠ []
  | [], w => by simp [Fi.spl]
  | b :: r, w => by
    unfold Fi.spl
    split
    · simp
    · exact Fi.spl_ne c r _
theorem Fi.spl_app (c : UInt8) : ∀ (a w r : List UInt8), c ∉ a → Fi.spl c w (a ++ r) = Fi.spl c (w ++ a) r
  | [], w, r, _ => by simp
  | b :: a, w, r, h => by
    have hb : b ≠ c := fun e => h (by rw [e]; exact List.mem_cons_self)
    rw [List.cons_append, Fi.spl, if_neg hb, Fi.spl_app c a _ r (fun h' => h (List.mem_cons_of_mem _ h')), List.append_assoc]
    rfl
theorem Fi.spl_hit (c : UInt8) (a r : List UInt8) (h : c ∉ a) : Fi.spl c [] (a ++ c :: r) = a :: Fi.spl c [] r := by
  rw [Fi.spl_app c a [] _ h, Fi.spl, if_pos rfl]; rfl
theorem Fi.spl_miss (c : UInt8) (a : List UInt8) (h : c ∉ a) : Fi.spl c [] a = [a] := by
  have := Fi.spl_app c a [] [] h
  rw [List.append_nil] at this
  rw [this]; rfl
theorem Fi.spl_len (c : UInt8) : ∀ (l w : List UInt8), (Fi.spl c w l).length ≤ l.length + 1
  | [], w => by simp [Fi.spl]
  | b :: r, w => by
    unfold Fi.spl
    split
    · have := Fi.spl_len c r []; simp; omega
    · have := Fi.spl_len c r (w ++ [b]); simp; omega
theorem Fi.spl_sizes (c : UInt8) : ∀ (l w : List UInt8), ∀ x ∈ Fi.spl c w l, x.length ≤ w.length + l.length
  | [], w, x, h => by simp [Fi.spl] at h; subst h; simp
  | b :: r, w, x, h => by
    unfold Fi.spl at h
    split at h
    · rcases List.mem_cons.1 h with rfl | h
      · simp
      · have := Fi.spl_sizes c r [] x h; simp at this ⊢; omega
    · have := Fi.spl_sizes c r (w ++ [b]) x h; simp at this ⊢; omega

theorem Fi.idx_miss (c : UInt8) : ∀ l : List UInt8, Lib.indexByte l c = -1 → c ∉ l
  | [], _ => by simp
  | b :: l, h => by
    unfold Lib.indexByte at h
    split at h
    · cases h
    · rename_i hb
      split at h
      · rename_i h2
        have := Fi.idx_miss c l (by simpa using h2)
        simp at hb
        simp [this, Ne.symm hb]
      · have := Lib.indexByte_ge l c
        rename_i h2
        simp at h2
        omega
theorem Fi.idx_hit (c : UInt8) : ∀ (l : List UInt8) (i : Nat), Lib.indexByte l c = i → l = l.take i ++ c :: l.drop (i + 1) ∧ c ∉ l.take i
  | [], i, h => by
    simp only [Lib.indexByte] at h
    omega
  | b :: l, i, h => by
    unfold Lib.indexByte at h
    split at h
    · rename_i hb
      have hi : i = 0 := by omega
      subst hi
      simp at hb
      subst hb
      simp
    · rename_i hb
      simp at hb
      split at h
      · omega
      · obtain ⟨j, rfl⟩ : ∃ j, i = j + 1 := ⟨i - 1, by have := Lib.indexByte_ge l c; rename_i h2; simp at h2; omega⟩
        obtain ⟨h1, h2⟩ := Fi.idx_hit c l j (by omega)
        refine ⟨?_, ?_⟩
        · rw [List.take_succ_cons, List.drop_succ_cons, List.cons_append, ← h1]
        · rw [List.take_succ_cons]
          simp [h2, Ne.symm hb]
theorem Fi.mk_data (s : ByteArray) : (⟨s.data.toList.toArray⟩ : ByteArray) = s := Lib.mk_data s

theorem Fi.split_eq (c : UInt8) : ∀ (k : Nat) (s : ByteArray), Lib.countB s ⟨#[c]⟩ ≤ k → (Lib.splitB ⟨#[c]⟩ 0 k s).map (·.data.toList) = Fi.spl c [] s.data.toList := by
  have hone : ∀ s : ByteArray, Lib.indexB s ⟨#[c]⟩ = Lib.indexByte s.data.toList c := fun s => by
    show Lib.index s.data.toList [c] = _
    exact Lib.index_one _ _
  intro k
  induction k with
  | zero =>
    intro s hk
    rcases Lib.indexB_cases s ⟨#[c]⟩ with hix | ⟨i, hix, _⟩
    · rw [Lib.splitB_miss _ _ _ _ hix, Fi.spl_miss c _ (Fi.idx_miss c _ (by rw [← hone]; exact hix))]; rfl
    · have := Lib.countB_hit s ⟨#[c]⟩ i (Nat.le_refl 1) hix
      omega
  | succ k ih =>
    intro s hk
    rcases Lib.indexB_cases s ⟨#[c]⟩ with hix | ⟨i, hix, _⟩
    · rw [Lib.splitB_miss _ _ _ _ hix, Fi.spl_miss c _ (Fi.idx_miss c _ (by rw [← hone]; exact hix))]; rfl
    · have hc := Lib.countB_hit s ⟨#[c]⟩ i (Nat.le_refl 1) hix
      obtain ⟨h1, h2⟩ := Fi.idx_hit c s.data.toList i (by rw [← hone]; exact hix)
      unfold Lib.splitB
      rw [if_neg (by rw [hix]; simp; try omega), hix, List.map_cons]
      have hd : (s.extract (i + 1) s.size).data.toList = s.data.toList.drop (i + 1) := by
        rw [Lib.extract_data, List.take_of_length_le (by simp)]
      have ht : (s.extract 0 i).data.toList = s.data.toList.take i := by rw [Lib.extract_data]; simp
      have hi2 := ih (s.extract (i + 1) s.size) (by have e : (⟨#[c]⟩ : ByteArray).size = 1 := rfl
                                                    rw [e] at hc; omega)
      rw [hd] at hi2
      show (s.extract 0 (((i : Int)).toNat + 0)).data.toList :: (Lib.splitB ⟨#[c]⟩ 0 k (s.extract (((i : Int)).toNat + 1) s.size)).map (·.data.toList) = _
      rw [Int.toNat_natCast, Nat.add_zero, ht, hi2]
      conv => rhs; rw [h1]
      rw [Fi.spl_hit c _ _ h2]
theorem Fi.cut_head (c : UInt8) (l : List UInt8) : (Fi.spl c [] l).head? = some (Lib.cut l [c]).1 := by
  unfold Lib.cut
  rw [Lib.index_one]
  by_cases h : Lib.indexByte l c = -1
  · rw [if_neg (by omega), Fi.spl_miss c l (Fi.idx_miss c l h)]; rfl
  · have hge := Lib.indexByte_ge l c
    obtain ⟨i, hi⟩ : ∃ i : Nat, Lib.indexByte l c = i := ⟨(Lib.indexByte l c).toNat, by omega⟩
    obtain ⟨h1, h2⟩ := Fi.idx_hit c l i hi
    rw [if_pos (by omega), hi]
    conv => lhs; rw [h1]
    rw [Fi.spl_hit c _ _ h2]
    simp

/-- Texts, with byte c between them. -/
def Fi.glue (c : UInt8) : List (List UInt8) → List UInt8
  | [] => []
  | x :: r => x ++ (r.map fun y => c :: y).flatten
theorem Fi.glue_spl (c : UInt8) : ∀ (l w : List UInt8), Fi.glue c (Fi.spl c w l) = w ++ l
  | [], w => by simp [Fi.spl, Fi.glue]
  | b :: r, w => by
    unfold Fi.spl
    split
    · rename_i hb
      subst hb
      have ih := Fi.glue_spl b r []
      rcases hr : Fi.spl b [] r with _ | ⟨y, t⟩
      · exact absurd hr (Fi.spl_ne b r [])
      · rw [hr] at ih
        simp only [Fi.glue, List.map_cons, List.flatten_cons, List.cons_append, List.nil_append] at ih ⊢
        rw [← ih]
    · rw [Fi.glue_spl c r (w ++ [b]), List.append_assoc]; rfl
theorem Fi.glue_snoc (c : UInt8) (l : List (List UInt8)) (x : List UInt8) : Fi.glue c (l ++ [x]) = (if l = [] then x else Fi.glue c l ++ c :: x) := by
  rcases l with _ | ⟨y, t⟩
  · simp [Fi.glue]
  · simp [Fi.glue]

theorem Fi.trimR_cons (c : UInt8) (b : UInt8) (t : List UInt8) : Lib.trimRightB (b :: t) c = if Lib.trimRightB t c = [] then (if b = c then [] else [b]) else b :: Lib.trimRightB t c := by
  unfold Lib.trimRightB
  rw [List.reverse_cons, List.dropWhile_append]
  by_cases h : (t.reverse.dropWhile (· == c)) = []
  · rw [h]
    simp [List.dropWhile_cons]
    split <;> simp
  · have h' : (t.reverse.dropWhile (· == c)).isEmpty = false := by simpa using h
    rw [h']
    simp [h]
/-- Blanks behind and ahead go in any turn. -/
theorem Fi.trim_comm (c : UInt8) : ∀ l : List UInt8, Lib.trimB l c = Lib.trimRightB (Lib.trimLeftB l c) c
  | [] => rfl
  | b :: t => by
    have ih := Fi.trim_comm c t
    unfold Lib.trimB Lib.trimLeftB at ih ⊢
    rw [Fi.trimR_cons, List.dropWhile_cons]
    by_cases hb : b = c
    · subst hb
      simp only [beq_self_eq_true, if_true]
      split
      · rename_i h
        rw [← ih, h]
      · rw [List.dropWhile_cons]
        simp only [beq_self_eq_true, if_true]
        exact ih
    · have hbf : (b == c) = false := by simpa using hb
      rw [hbf]
      simp only [hb, if_false, Bool.false_eq_true]
      rw [Fi.trimR_cons]
      simp only [hb, if_false]
      split
      · rw [List.dropWhile_cons, hbf]; simp
      · rw [List.dropWhile_cons, hbf]; simp
theorem Fi.trimR_snoc (c : UInt8) (l : List UInt8) : Lib.trimRightB (l ++ [c]) c = Lib.trimRightB l c := by
  unfold Lib.trimRightB
  rw [List.reverse_append]
  simp [List.dropWhile_cons]
theorem Fi.trimR_stop (c : UInt8) (l : List UInt8) (b : UInt8) (h : b ≠ c) : Lib.trimRightB (l ++ [b]) c = l ++ [b] := by
  unfold Lib.trimRightB
  rw [List.reverse_append]
  simp [List.dropWhile_cons, h]
end Go.Proofs.YtppmcnpjglackaaGreatDoor
