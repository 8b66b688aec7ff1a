/- Tables in plain words: looking up, and what is wrong with one. -/
import Derived.Test.YtamcpdggpdaioaaHangul
import Derived.Test.YtamcpdggpdaioaaMdFull
import Derived.Test.YtamcpdggpdaioaaRwRow
namespace Go.Proofs.Ytamcpdggpdaioaa
def Md.find (T : List Rw.Row) (c : Int) : Option Rw.Row := T.find? fun r => decide (r.1 = c)
def Md.cls (T : List Rw.Row) (c : Int) : Int := ((Md.find T c).map fun r => r.2.1).getD 0
def Md.rmp (T : List Rw.Row) (c : Int) : List Int := ((Md.find T c).map fun r => r.2.2).getD []
def Md.mp (T : List Rw.Row) (c : Int) : List Int := if (Hg.pairK c).2.2 = true then [(Hg.pairK c).1, (Hg.pairK c).2.1] else Md.rmp T c
def Md.full (T : List Rw.Row) (c : Int) : Option (List Int) := Md.exp (Md.mp T) (T.length + 3) [] c
/-- X: is a character one of those that aren't composed? -/
def Md.comp (T : List Rw.Row) (X : Int → Bool) (r : Rw.Row) : Bool := decide (r.2.1 = 0) && (decide (r.2.2.length = 2) && (decide (Md.cls T (r.2.2.headD 0) = 0) && !X r.1))
def Md.prim (T : List Rw.Row) (X : Int → Bool) (c : Int) : Bool := (Hg.pairK c).2.2 || ((Md.find T c).map (Md.comp T X)).getD false
/-- Which row is wrong, and how: 1 row, 2 hangul, 3 target. -/
def Md.bad (last : Int) (r : Rw.Row) : Nat :=
  if (!C.isC r.1 || decide (r.1 ≤ last) || decide (r.2.1 < 0) || decide (254 < r.2.1) || decide (2 < r.2.2.length)) = true then 1
  else if ((r.1 :: r.2.2).any fun c => decide (Hg.ofK c ≠ 0)) = true then 2
  else if (r.2.2.any fun c => !C.isC c) = true then 3 else 0
def Md.rowsBad : Int → List Rw.Row → Nat
  | _, [] => 0
  | last, r :: l => if Md.bad last r = 0 then Md.rowsBad r.1 l else Md.bad last r
def Md.fullBad (T : List Rw.Row) : Bool := T.any fun r => (Md.full T r.1).isNone
def Md.twice (T : List Rw.Row) (X : Int → Bool) : List (List Int) → List Rw.Row → Bool
  | _, [] => false
  | seen, r :: l => if Md.comp T X r = true then (seen.contains r.2.2 || Md.twice T X (seen ++ [r.2.2]) l) else Md.twice T X seen l
/-- What is wrong with a table: 0 nothing, 1 row, 2 hangul, 3 target, 4 full, 5 pair. -/
def Md.chk (T : List Rw.Row) (X : Int → Bool) : Nat :=
  if Md.rowsBad (-1) T ≠ 0 then Md.rowsBad (-1) T else if Md.fullBad T = true then 4 else if Md.twice T X [] T = true then 5 else 0

theorem Md.bad_le (last : Int) (r : Rw.Row) : Md.bad last r ≤ 3 := by
  unfold Md.bad
  repeat' split
  all_goals omega
theorem Md.rowsBad_le : ∀ (l : List Rw.Row) (last : Int), Md.rowsBad last l ≤ 3
  | [], _ => Nat.zero_le _
  | r :: l, last => by
    unfold Md.rowsBad
    split
    · exact Md.rowsBad_le l r.1
    · exact Md.bad_le last r
/-- A row that is right. -/
def Md.good (r : Rw.Row) : Prop := C.isC r.1 = true ∧ 0 ≤ r.2.1 ∧ r.2.1 ≤ 254 ∧ r.2.2.length ≤ 2 ∧ Hg.ofK r.1 = 0 ∧ ∀ c ∈ r.2.2, C.isC c = true ∧ Hg.ofK c = 0
theorem Md.bad_zero {last : Int} {r : Rw.Row} (h : Md.bad last r = 0) : Md.good r ∧ last < r.1 := by
  unfold Md.bad at h
  split at h
  · cases h
  · rename_i h1
    split at h
    · cases h
    · rename_i h2
      split at h
      · cases h
      · rename_i h3
        simp only [Bool.or_eq_true, Bool.not_eq_true', decide_eq_true_eq, not_or, Bool.not_eq_false, Int.not_le, Int.not_lt, Nat.not_lt] at h1
        obtain ⟨⟨⟨⟨a1, a2⟩, a3⟩, a4⟩, a5⟩ := h1
        simp only [List.any_eq_true, decide_eq_true_eq, not_exists, not_and, Decidable.not_not] at h2
        simp only [List.any_eq_true, Bool.not_eq_true', not_exists, not_and, Bool.not_eq_false] at h3
        exact ⟨⟨a1, a3, a4, a5, h2 r.1 List.mem_cons_self, fun c hc => ⟨h3 c hc, h2 c (List.mem_cons_of_mem _ hc)⟩⟩, a2⟩
/-- The codes rise. -/
def Md.rises (T : List Rw.Row) : Prop := T.Pairwise fun r q => r.1 < q.1
theorem Md.rowsBad_zero : ∀ (l : List Rw.Row) (last : Int), Md.rowsBad last l = 0 → (∀ r ∈ l, Md.good r ∧ last < r.1) ∧ Md.rises l
  | [], _, _ => ⟨fun r hr => absurd hr List.not_mem_nil, List.Pairwise.nil⟩
  | r :: l, last, h => by
    unfold Md.rowsBad at h
    by_cases hb : Md.bad last r = 0
    · rw [if_pos hb] at h
      obtain ⟨h1, h2⟩ := Md.bad_zero hb
      obtain ⟨h3, h4⟩ := Md.rowsBad_zero l r.1 h
      refine ⟨fun q hq => ?_, List.Pairwise.cons (fun q hq => (h3 q hq).2) h4⟩
      rcases List.mem_cons.1 hq with rfl | hq
      · exact ⟨h1, h2⟩
      · exact ⟨(h3 q hq).1, by have := (h3 q hq).2; omega⟩
    · rw [if_neg hb] at h
      exact absurd h hb
theorem Md.rises_get {T : List Rw.Row} (h : Md.rises T) {i j : Nat} {r q : Rw.Row} (hi : T[i]? = some r) (hj : T[j]? = some q) (hij : i < j) : r.1 < q.1 := by
  obtain ⟨a1, rfl⟩ := List.getElem?_eq_some_iff.1 hi
  obtain ⟨a2, rfl⟩ := List.getElem?_eq_some_iff.1 hj
  exact List.pairwise_iff_getElem.1 h i j a1 a2 hij
theorem Md.find_mem {T : List Rw.Row} (h : Md.rises T) {r : Rw.Row} (hr : r ∈ T) : Md.find T r.1 = some r := by
  induction T with
  | nil => cases hr
  | cons q l ih =>
    unfold Md.rises at h
    rw [List.pairwise_cons] at h
    unfold Md.find
    rw [List.find?_cons]
    rcases List.mem_cons.1 hr with rfl | hr
    · simp
    · rw [decide_eq_false (by have := h.1 r hr; omega)]
      exact ih h.2 hr
theorem Md.find_at {T : List Rw.Row} (h : Md.rises T) {i : Nat} {r : Rw.Row} (hi : T[i]? = some r) : Md.find T r.1 = some r := Md.find_mem h (List.mem_of_getElem? hi)
theorem Md.find_none {T : List Rw.Row} {c : Int} (h : ∀ r ∈ T, r.1 ≠ c) : Md.find T c = none := by
  unfold Md.find
  rw [List.find?_eq_none]
  intro r hr
  simpa using h r hr
theorem Md.find_some {T : List Rw.Row} {c : Int} {r : Rw.Row} (h : Md.find T c = some r) : r ∈ T ∧ r.1 = c := by
  unfold Md.find at h
  exact ⟨List.mem_of_find?_eq_some h, by simpa using List.find?_some h⟩
/-- Where a search by halves ends. -/
theorem Md.find_cut {T : List Rw.Row} (h : Md.rises T) (c : Int) (i : Nat) (h1 : ∀ t r, t < i → T[t]? = some r → r.1 < c) (h2 : ∀ t r, i ≤ t → T[t]? = some r → c ≤ r.1) :
    Md.find T c = (T[i]?).bind fun r => if r.1 = c then some r else none := by
  cases hi : T[i]? with
  | none =>
    refine Md.find_none fun r hr => ?_
    obtain ⟨t, ht⟩ := List.mem_iff_getElem?.1 hr
    have hlen := List.getElem?_eq_none_iff.1 hi
    obtain ⟨a1, _⟩ := List.getElem?_eq_some_iff.1 ht
    have := h1 t r (by omega) ht
    omega
  | some r =>
    rw [Option.bind_some]
    by_cases hc : r.1 = c
    · rw [if_pos hc, ← hc, Md.find_at h hi]
    · rw [if_neg hc]
      refine Md.find_none fun q hq => ?_
      obtain ⟨t, ht⟩ := List.mem_iff_getElem?.1 hq
      have := h2 i r (Nat.le_refl _) hi
      by_cases a : t < i
      · have := h1 t q a ht; omega
      · by_cases b : t = i
        · subst b; rw [hi] at ht; cases ht; exact hc
        · have := Md.rises_get h hi ht (by omega)
          omega
theorem Md.find_bd {T : List Rw.Row} {c : Int} {P : Rw.Row → Prop} (h : ∀ r ∈ T, P r) {r : Rw.Row} (hf : Md.find T c = some r) : P r := h r (Md.find_some hf).1
theorem Md.pair_bd' (c : Int) : 0 ≤ (Hg.pairK c).1 ∧ (Hg.pairK c).1 ≤ 60000 ∧ 0 ≤ (Hg.pairK c).2.1 ∧ (Hg.pairK c).2.1 ≤ 60000 := by
  have key : Hg.ofK c = 4 ∨ Hg.ofK c = 5 → 44032 ≤ c ∧ c < 55204 := by
    unfold Hg.ofK
    grind
  unfold Hg.pairK
  split
  · rename_i h
    have := key (.inl h)
    simp only
    omega
  · split
    · rename_i h
      have := key (.inr h)
      simp only
      omega
    · simp
/-- All that characters of a table are mapped to are numbers of 32 bits. -/
def Md.bd (T : List Rw.Row) : Prop := ∀ r ∈ T, (-2147483648 ≤ r.1 ∧ r.1 ≤ 2147483647) ∧ ∀ c ∈ r.2.2, -2147483648 ≤ c ∧ c ≤ 2147483647
theorem Md.mp_bd {T : List Rw.Row} (h : Md.bd T) (c : Int) : ∀ d ∈ Md.mp T c, -2147483648 ≤ d ∧ d ≤ 2147483647 := by
  intro d hd
  unfold Md.mp at hd
  split at hd
  · have := Md.pair_bd' c
    simp only [List.mem_cons, List.not_mem_nil, or_false] at hd
    rcases hd with rfl | rfl <;> omega
  · unfold Md.rmp at hd
    cases hf : Md.find T c with
    | none => rw [hf] at hd; cases hd
    | some r =>
      rw [hf] at hd
      exact (h r (Md.find_some hf).1).2 d hd
theorem Md.chk_zero {T : List Rw.Row} {X : Int → Bool} (h : Md.chk T X = 0) : Md.rowsBad (-1) T = 0 ∧ Md.fullBad T = false ∧ Md.twice T X [] T = false := by
  unfold Md.chk at h
  split at h
  · rename_i h1; exact absurd h h1
  · rename_i h1
    split at h
    · cases h
    · rename_i h2
      split at h
      · cases h
      · rename_i h3
        exact ⟨Decidable.not_not.1 h1, by simpa using h2, by simpa using h3⟩
theorem Md.pairK_zero {c : Int} (h : Hg.ofK c = 0) : (Hg.pairK c).2.2 = false := by
  unfold Hg.pairK
  rw [if_neg (by omega), if_neg (by omega)]
theorem Md.prim_row {T : List Rw.Row} {X : Int → Bool} (hr : Md.rises T) {r : Rw.Row} (hm : r ∈ T) (hg : Md.good r) : Md.prim T X r.1 = Md.comp T X r := by
  unfold Md.prim
  rw [Md.pairK_zero hg.2.2.2.2.1, Md.find_mem hr hm, Bool.false_or]
  rfl
theorem Md.mp_row {T : List Rw.Row} (hr : Md.rises T) {r : Rw.Row} (hm : r ∈ T) (hg : Md.good r) : Md.mp T r.1 = r.2.2 := by
  unfold Md.mp Md.rmp
  rw [Md.pairK_zero hg.2.2.2.2.1, if_neg (by simp), Md.find_mem hr hm]
  rfl
theorem Md.cls_row {T : List Rw.Row} (hr : Md.rises T) {r : Rw.Row} (hm : r ∈ T) : Md.cls T r.1 = r.2.1 := by
  unfold Md.cls
  rw [Md.find_mem hr hm]
  rfl
/-- Is one of those ahead composed of the same? -/
def Md.ahead (T : List Rw.Row) (X : Int → Bool) (pre : List Rw.Row) (r : Rw.Row) : Bool := pre.any fun q => Md.comp T X r && (Md.comp T X q && decide (q.2.2 = r.2.2))
def Md.docTwice (T : List Rw.Row) (X : Int → Bool) : List Rw.Row → List Rw.Row → Bool
  | _, [] => false
  | pre, r :: l => Md.ahead T X pre r || Md.docTwice T X (pre ++ [r]) l
theorem Md.any_map {α β : Type} [BEq β] [LawfulBEq β] (p : α → Bool) (f : α → β) (y : β) : ∀ (l : List α), ((l.filter p).map f).contains y = l.any fun q => p q && (f q == y)
  | [] => rfl
  | q :: l => by
    rw [List.filter_cons, List.any_cons]
    by_cases h : p q = true
    · rw [if_pos h, List.map_cons, List.contains_cons, Md.any_map p f y l, h, Bool.true_and]
      congr 1
      exact Bool.eq_iff_iff.2 ⟨fun e => by simp at e; simp [e], fun e => by simp at e; simp [e]⟩
    · rw [if_neg h, Md.any_map p f y l]
      simp [h]
theorem Md.twice_doc (T : List Rw.Row) (X : Int → Bool) : ∀ (l pre : List Rw.Row), Md.twice T X ((pre.filter (Md.comp T X)).map fun r => r.2.2) l = Md.docTwice T X pre l
  | [], _ => rfl
  | r :: l, pre => by
    rw [Md.twice, Md.docTwice]
    by_cases hc : Md.comp T X r = true
    · have e : ((pre.filter (Md.comp T X)).map fun r => r.2.2) ++ [r.2.2] = (((pre ++ [r]).filter (Md.comp T X)).map fun r => r.2.2) := by
        rw [List.filter_append, List.map_append, List.filter_cons, if_pos hc]
        rfl
      rw [if_pos hc, e, Md.twice_doc T X l (pre ++ [r]), Md.any_map]
      congr 1
      unfold Md.ahead
      congr 1
      funext q
      rw [hc, Bool.true_and]
      congr 1
      exact Bool.eq_iff_iff.2 (by simp)
    · have e : ((pre.filter (Md.comp T X)).map fun r => r.2.2) = (((pre ++ [r]).filter (Md.comp T X)).map fun r => r.2.2) := by
        rw [List.filter_append, List.filter_cons, if_neg hc]
        simp
      rw [if_neg hc, e, Md.twice_doc T X l (pre ++ [r])]
      have : Md.ahead T X pre r = false := by
        unfold Md.ahead
        rw [List.any_eq_false]
        intro q _
        simp [hc]
      rw [this, Bool.false_or]
end Go.Proofs.Ytamcpdggpdaioaa
