/- Pages: plain laws: cells of unlike characters, in any order; cells told again. -/
import Derived.Test.YtamcpdggpdaioaaPgPlain3
namespace Go.Proofs.Ytamcpdggpdaioaa
set_option linter.unusedVariables false
set_option linter.unusedSimpArgs false

/-- No two cells of one character. -/
def Pg.one (L : List (Int × Int)) : Prop := L.Pairwise fun x y => x.1 ≠ y.1
theorem Pg.last_mem : ∀ {L : List (Int × Int)}, Pg.one L → ∀ {x : Int × Int}, x ∈ L → Pg.last L x.1 = x.2 := by
  intro L
  suffices ∀ (L : List (Int × Int)) (a : Int), Pg.one L → ∀ x : Int × Int, x ∈ L → L.foldl (fun a y => if y.1 = x.1 then y.2 else a) a = x.2 from fun h x hx => this L 0 h x hx
  intro L
  induction L with
  | nil => intro a _ x hx; cases hx
  | cons y l ih =>
    intro a h x hx
    unfold Pg.one at h
    rw [List.pairwise_cons] at h
    rw [List.foldl_cons]
    rcases List.mem_cons.1 hx with rfl | hx
    · rw [if_pos rfl]
      suffices ∀ (l : List (Int × Int)) (a : Int), (∀ y ∈ l, x.1 ≠ y.1) → l.foldl (fun a y => if y.1 = x.1 then y.2 else a) a = a from this l x.2 h.1
      intro l
      induction l with
      | nil => intro a _; rfl
      | cons z l ih2 =>
        intro a hl
        rw [List.foldl_cons, if_neg (fun e => hl z List.mem_cons_self e.symm)]
        exact ih2 a fun y hy => hl y (List.mem_cons_of_mem _ hy)
    · exact ih _ h.2 x hx
theorem Pg.last_perm {L L' : List (Int × Int)} (h : Pg.one L) (hp : L'.Perm L) : Pg.last L' = Pg.last L := by
  have h' : Pg.one L' := hp.symm.pairwise h fun h => fun e => h e.symm
  funext c
  by_cases hx : ∃ x ∈ L, x.1 = c
  · obtain ⟨x, hx, rfl⟩ := hx
    rw [Pg.last_mem h hx, Pg.last_mem h' (hp.mem_iff.2 hx)]
  · rw [Pg.last_none fun x hm e => hx ⟨x, hm, e⟩, Pg.last_none fun x hm e => hx ⟨x, hp.mem_iff.1 hm, e⟩]
/-- The first cells of their characters, of the first k. -/
def Pg.fs (X : List (Int × Int)) : Nat → List (Int × Int)
  | 0 => []
  | k + 1 => Pg.fs X k ++ (match X[k]? with | some x => if (X.take k).any (fun y => y.1 == x.1) = true then [] else [x] | none => [])
theorem Pg.fs_sub (X : List (Int × Int)) : ∀ k, ∀ x ∈ Pg.fs X k, x ∈ X.take k
  | 0, x, h => by cases h
  | k + 1, x, h => by
    rw [Pg.fs] at h
    rw [List.take_add_one]
    rcases List.mem_append.1 h with h | h
    · exact List.mem_append_left _ (Pg.fs_sub X k x h)
    · cases hx : X[k]? with
      | none => rw [hx] at h; cases h
      | some y =>
        rw [hx] at h
        simp only at h
        split at h
        · cases h
        · exact List.mem_append_right _ (by simpa using h)
theorem Pg.fs_one (X : List (Int × Int)) : ∀ k, Pg.one (Pg.fs X k)
  | 0 => List.Pairwise.nil
  | k + 1 => by
    unfold Pg.one
    rw [Pg.fs, List.pairwise_append]
    refine ⟨Pg.fs_one X k, ?_, fun a ha b hb => ?_⟩
    · cases X[k]? with
      | none => exact List.Pairwise.nil
      | some y => simp only; split <;> simp
    · cases hx : X[k]? with
      | none => rw [hx] at hb; cases hb
      | some y =>
        rw [hx] at hb
        simp only at hb
        split at hb
        · cases hb
        · rename_i hn
          have hb : b = y := by simpa using hb
          subst hb
          intro e
          apply hn
          rw [List.any_eq_true]
          exact ⟨a, Pg.fs_sub X k a ha, by simpa using e⟩
theorem Pg.fs_len (X : List (Int × Int)) : ∀ k, (Pg.fs X k).length ≤ k
  | 0 => by simp [Pg.fs]
  | k + 1 => by
    have := Pg.fs_len X k
    rw [Pg.fs, List.length_append]
    have h2 : (match X[k]? with | some x => if (X.take k).any (fun y => y.1 == x.1) = true then [] else [x] | none => ([] : List (Int × Int))).length ≤ 1 := by
      cases X[k]? with
      | none => simp
      | some y => simp only; split <;> simp
    omega
theorem Pg.swap_perm (S : List (Int × Int)) (i j : Nat) (x y : Int × Int) (hi : S[i]? = some x) (hj : S[j]? = some y) : ((S.set i y).set j x).Perm S := by
  obtain ⟨hi', hx⟩ := List.getElem?_eq_some_iff.1 hi
  obtain ⟨hj', hy⟩ := List.getElem?_eq_some_iff.1 hj
  have := Array.swap_perm (xs := S.toArray) (i := i) (j := j) (by simpa using hi') (by simpa using hj')
  have h2 := Array.perm_iff_toList_perm.1 this
  simpa [Array.swap, hx, hy] using h2
/-- What is told: characters with their numbers, each once. -/
theorem Pg.cellsN_mem (f : Int → Int) (m : Nat) : ∀ x ∈ Pg.cellsN f m, 0 ≤ x.1 ∧ x.1 < m ∧ x.2 = f x.1 ∧ x.2 ≠ 0 := by
  intro x hx
  unfold Pg.cellsN at hx
  rw [List.mem_filterMap] at hx
  obtain ⟨c, hc, he⟩ := hx
  have hc := List.mem_range.1 hc
  split at he
  · cases he
  · rename_i hne
    simp only [Option.some.injEq] at he
    subst he
    exact ⟨by omega, by simp; omega, rfl, hne⟩
theorem Pg.cellsN_has (f : Int → Int) (m : Nat) {c : Int} (h0 : 0 ≤ c) (h1 : c < m) (hf : f c ≠ 0) : (c, f c) ∈ Pg.cellsN f m := by
  unfold Pg.cellsN
  rw [List.mem_filterMap]
  refine ⟨c.toNat, List.mem_range.2 (by omega), ?_⟩
  have : ((c.toNat : Nat) : Int) = c := by omega
  rw [this, if_neg hf]
theorem Pg.cellsN_rise (f : Int → Int) : ∀ m, (Pg.cellsN f m).Pairwise fun x y => x.1 < y.1
  | 0 => List.Pairwise.nil
  | m + 1 => by
    rw [Pg.cellsN_succ, List.pairwise_append]
    refine ⟨Pg.cellsN_rise f m, by split <;> simp, fun a ha b hb => ?_⟩
    have := (Pg.cellsN_mem f m a ha).2.1
    split at hb
    · cases hb
    · have hb : b = ((m : Int), f m) := by simpa using hb
      subst hb
      exact this
theorem Pg.cellsN_last (f : Int → Int) (m : Nat) (c : Int) (h0 : 0 ≤ c) (h1 : c < m) : Pg.last (Pg.cellsN f m) c = f c := by
  have h : Pg.one (Pg.cellsN f m) := (Pg.cellsN_rise f m).imp fun h => by omega
  by_cases hf : f c = 0
  · rw [hf]
    refine Pg.last_none fun x hx e => ?_
    obtain ⟨_, _, h2, h3⟩ := Pg.cellsN_mem f _ x hx
    rw [e, hf] at h2
    exact h3 h2
  · exact Pg.last_mem h (x := (c, f c)) (Pg.cellsN_has f m h0 h1 hf)
end Go.Proofs.Ytamcpdggpdaioaa
