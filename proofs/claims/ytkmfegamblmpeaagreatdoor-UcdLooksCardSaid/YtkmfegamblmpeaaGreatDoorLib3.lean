/- The layer cpset in plain Lean, more: ranges, counts, places, a set made again of marks. -/
import Derived.Test.YtkmfegamblmpeaaGreatDoorCpPlain
import Derived.Test.YtkmfegamblmpeaaGreatDoorHangul
import Derived.BigQuiet
import Derived.Deep.QuietTactic
import Derived.Deep.RegionHeld3
import Derived.Deep.AppendLies
namespace Go.Proofs.YtkmfegamblmpeaaGreatDoor
set_option linter.unusedSimpArgs false
set_option linter.unusedVariables false

def C.atK : List Int → Int → Int × Bool
  | x :: y :: t, i => if i < y - x then (x + i, true) else C.atK t (i - (y - x))
  | _, _ => (0, false)
/-- All characters. -/
def C.all : List Int := [0, 55296, 57344, 1114112]
theorem C.all_ok : C.ok C.all := by
  refine ⟨?_, ?_, rfl⟩
  · unfold C.srt C.all; decide
  · unfold C.all; simp
def C.isC (c : Int) : Bool := decide (0 ≤ c ∧ c ≤ 1114111 ∧ (c < 55296 ∨ 57343 < c))
theorem C.nil_ok : C.ok [] := ⟨List.Pairwise.nil, by simp, rfl⟩
/-- One range's places. -/
theorem C.one_ok (a b : Int) (h1 : 0 ≤ a) (h2 : a ≤ b) (h3 : b ≤ 1114111) : C.ok [a, b + 1] := by
  refine ⟨?_, ?_, by simp⟩
  · unfold C.srt; simp; omega
  · simp; omega
end Go.Proofs.YtkmfegamblmpeaaGreatDoor

/- A row, in plain words: its character, its class, its mapping. -/
namespace Go.Proofs.YtkmfegamblmpeaaGreatDoor
abbrev Rw.Row := Int × Int × List Int
end Go.Proofs.YtkmfegamblmpeaaGreatDoor

/- Tables in plain words: looking up, and what is wrong with one. -/
namespace Go.Proofs.YtkmfegamblmpeaaGreatDoor
def Md.find (T : List Rw.Row) (c : Int) : Option Rw.Row := T.find? fun r => decide (r.1 = c)
def Md.cls (T : List Rw.Row) (c : Int) : Int := ((Md.find T c).map fun r => r.2.1).getD 0
def Md.rmp (T : List Rw.Row) (c : Int) : List Int := ((Md.find T c).map fun r => r.2.2).getD []
def Md.mp (T : List Rw.Row) (c : Int) : List Int := if (Hg.pairK c).2.2 = true then [(Hg.pairK c).1, (Hg.pairK c).2.1] else Md.rmp T c
def Md.full (T : List Rw.Row) (c : Int) : Option (List Int) := Md.exp (Md.mp T) (T.length + 3) [] c
/-- X: is a character one of those that aren't composed? -/
def Md.comp (T : List Rw.Row) (X : Int → Bool) (r : Rw.Row) : Bool := decide (r.2.1 = 0) && (decide (r.2.2.length = 2) && (decide (Md.cls T (r.2.2.headD 0) = 0) && !X r.1))
def Md.prim (T : List Rw.Row) (X : Int → Bool) (c : Int) : Bool := (Hg.pairK c).2.2 || ((Md.find T c).map (Md.comp T X)).getD false
/-- Which row is wrong, and how: 1 row, 2 hangul, 3 target. -/
def Md.bad (last : Int) (r : Rw.Row) : Nat :=
  if (!C.isC r.1 || decide (r.1 ≤ last) || decide (r.2.1 < 0) || decide (254 < r.2.1) || decide (2 < r.2.2.length)) = true then 1
  else if ((r.1 :: r.2.2).any fun c => decide (Hg.ofK c ≠ 0)) = true then 2
  else if (r.2.2.any fun c => !C.isC c) = true then 3 else 0
def Md.rowsBad : Int → List Rw.Row → Nat
  | _, [] => 0
  | last, r :: l => if Md.bad last r = 0 then Md.rowsBad r.1 l else Md.bad last r
def Md.fullBad (T : List Rw.Row) : Bool := T.any fun r => (Md.full T r.1).isNone
def Md.twice (T : List Rw.Row) (X : Int → Bool) : List (List Int) → List Rw.Row → Bool
  | _, [] => false
  | seen, r :: l => if Md.comp T X r = true then (seen.contains r.2.2 || Md.twice T X (seen ++ [r.2.2]) l) else Md.twice T X seen l
/-- What is wrong with a table: 0 nothing, 1 row, 2 hangul, 3 target, 4 full, 5 pair. -/
def Md.chk (T : List Rw.Row) (X : Int → Bool) : Nat :=
  if Md.rowsBad (-1) T ≠ 0 then Md.rowsBad (-1) T else if Md.fullBad T = true then 4 else if Md.twice T X [] T = true then 5 else 0

theorem Md.bad_le (last : Int) (r : Rw.Row) : Md.bad last r ≤ 3 := by
  unfold Md.bad
  repeat' split
  all_goals omega
/-- A row that is right. -/
def Md.good (r : Rw.Row) : Prop := C.isC r.1 = true ∧ 0 ≤ r.2.1 ∧ r.2.1 ≤ 254 ∧ r.2.2.length ≤ 2 ∧ Hg.ofK r.1 = 0 ∧ ∀ c ∈ r.2.2, C.isC c = true ∧ Hg.ofK c = 0
theorem Md.bad_zero {last : Int} {r : Rw.Row} (h : Md.bad last r = 0) : Md.good r ∧ last < r.1 := by
  unfold Md.bad at h
  split at h
  · cases h
  · rename_i h1
    split at h
    · cases h
    · rename_i h2
      split at h
      · cases h
      · rename_i h3
        simp only [Bool.or_eq_true, Bool.not_eq_true', decide_eq_true_eq, not_or, Bool.not_eq_false, Int.not_le, Int.not_lt, Nat.not_lt] at h1
        obtain ⟨⟨⟨⟨a1, a2⟩, a3⟩, a4⟩, a5⟩ := h1
        simp only [List.any_eq_true, decide_eq_true_eq, not_exists, not_and, Decidable.not_not] at h2
        simp only [List.any_eq_true, Bool.not_eq_true', not_exists, not_and, Bool.not_eq_false] at h3
        exact ⟨⟨a1, a3, a4, a5, h2 r.1 List.mem_cons_self, fun c hc => ⟨h3 c hc, h2 c (List.mem_cons_of_mem _ hc)⟩⟩, a2⟩
/-- The codes rise. -/
def Md.rises (T : List Rw.Row) : Prop := T.Pairwise fun r q => r.1 < q.1
theorem Md.rowsBad_zero : ∀ (l : List Rw.Row) (last : Int), Md.rowsBad last l = 0 → (∀ r ∈ l, Md.good r ∧ last < r.1) ∧ Md.rises l
  | [], _, _ => ⟨fun r hr => absurd hr List.not_mem_nil, List.Pairwise.nil⟩
  | r :: l, last, h => by
    unfold Md.rowsBad at h
    by_cases hb : Md.bad last r = 0
    · rw [if_pos hb] at h
      obtain ⟨h1, h2⟩ := Md.bad_zero hb
      obtain ⟨h3, h4⟩ := Md.rowsBad_zero l r.1 h
      refine ⟨fun q hq => ?_, List.Pairwise.cons (fun q hq => (h3 q hq).2) h4⟩
      rcases List.mem_cons.1 hq with rfl | hq
      · exact ⟨h1, h2⟩
      · exact ⟨(h3 q hq).1, by have := (h3 q hq).2; omega⟩
    · rw [if_neg hb] at h
      exact absurd h hb
theorem Md.rises_get {T : List Rw.Row} (h : Md.rises T) {i j : Nat} {r q : Rw.Row} (hi : T[i]? = some r) (hj : T[j]? = some q) (hij : i < j) : r.1 < q.1 := by
  obtain ⟨a1, rfl⟩ := List.getElem?_eq_some_iff.1 hi
  obtain ⟨a2, rfl⟩ := List.getElem?_eq_some_iff.1 hj
  exact List.pairwise_iff_getElem.1 h i j a1 a2 hij
theorem Md.find_mem {T : List Rw.Row} (h : Md.rises T) {r : Rw.Row} (hr : r ∈ T) : Md.find T r.1 = some r := by
  induction T with
  | nil => cases hr
  | cons q l ih =>
    unfold Md.rises at h
    rw [List.pairwise_cons] at h
    unfold Md.find
    rw [List.find?_cons]
    rcases List.mem_cons.1 hr with rfl | hr
    · simp
    · rw [decide_eq_false (by have := h.1 r hr; omega)]
      exact ih h.2 hr
theorem Md.find_at {T : List Rw.Row} (h : Md.rises T) {i : Nat} {r : Rw.Row} (hi : T[i]? = some r) : Md.find T r.1 = some r := Md.find_mem h (List.mem_of_getElem? hi)
theorem Md.find_none {T : List Rw.Row} {c : Int} (h : ∀ r ∈ T, r.1 ≠ c) : Md.find T c = none := by
  unfold Md.find
  rw [List.find?_eq_none]
  intro r hr
  simpa using h r hr
theorem Md.find_some {T : List Rw.Row} {c : Int} {r : Rw.Row} (h : Md.find T c = some r) : r ∈ T ∧ r.1 = c := by
  unfold Md.find at h
  exact ⟨List.mem_of_find?_eq_some h, by simpa using List.find?_some h⟩
/-- Where a search by halves ends. -/
theorem Md.find_cut {T : List Rw.Row} (h : Md.rises T) (c : Int) (i : Nat) (h1 : ∀ t r, t < i → T[t]? = some r → r.1 < c) (h2 : ∀ t r, i ≤ t → T[t]? = some r → c ≤ r.1) :
    Md.find T c = (T[i]?).bind fun r => if r.1 = c then some r else none := by
  cases hi : T[i]? with
  | none =>
    refine Md.find_none fun r hr => ?_
    obtain ⟨t, ht⟩ := List.mem_iff_getElem?.1 hr
    have hlen := List.getElem?_eq_none_iff.1 hi
    obtain ⟨a1, _⟩ := List.getElem?_eq_some_iff.1 ht
    have := h1 t r (by omega) ht
    omega
  | some r =>
    rw [Option.bind_some]
    by_cases hc : r.1 = c
    · rw [if_pos hc, ← hc, Md.find_at h hi]
    · rw [if_neg hc]
      refine Md.find_none fun q hq => ?_
      obtain ⟨t, ht⟩ := List.mem_iff_getElem?.1 hq
      have := h2 i r (Nat.le_refl _) hi
      by_cases a : t < i
      · have := h1 t q a ht; omega
      · by_cases b : t = i
        · subst b; rw [hi] at ht; cases ht; exact hc
        · have := Md.rises_get h hi ht (by omega)
          omega
theorem Md.pair_bd' (c : Int) : 0 ≤ (Hg.pairK c).1 ∧ (Hg.pairK c).1 ≤ 60000 ∧ 0 ≤ (Hg.pairK c).2.1 ∧ (Hg.pairK c).2.1 ≤ 60000 := by
  have key : Hg.ofK c = 4 ∨ Hg.ofK c = 5 → 44032 ≤ c ∧ c < 55204 := by
    unfold Hg.ofK
    grind
  unfold Hg.pairK
  split
  · rename_i h
    have := key (.inl h)
    simp only
    omega
  · split
    · rename_i h
      have := key (.inr h)
      simp only
      omega
    · simp
/-- All that characters of a table are mapped to are numbers of 32 bits. -/
def Md.bd (T : List Rw.Row) : Prop := ∀ r ∈ T, (-2147483648 ≤ r.1 ∧ r.1 ≤ 2147483647) ∧ ∀ c ∈ r.2.2, -2147483648 ≤ c ∧ c ≤ 2147483647
theorem Md.mp_bd {T : List Rw.Row} (h : Md.bd T) (c : Int) : ∀ d ∈ Md.mp T c, -2147483648 ≤ d ∧ d ≤ 2147483647 := by
  intro d hd
  unfold Md.mp at hd
  split at hd
  · have := Md.pair_bd' c
    simp only [List.mem_cons, List.not_mem_nil, or_false] at hd
    rcases hd with rfl | rfl <;> omega
  · unfold Md.rmp at hd
    cases hf : Md.find T c with
    | none => rw [hf] at hd; cases hd
    | some r =>
      rw [hf] at hd
      exact (h r (Md.find_some hf).1).2 d hd
theorem Md.pairK_zero {c : Int} (h : Hg.ofK c = 0) : (Hg.pairK c).2.2 = false := by
  unfold Hg.pairK
  rw [if_neg (by omega), if_neg (by omega)]
theorem Md.prim_row {T : List Rw.Row} {X : Int → Bool} (hr : Md.rises T) {r : Rw.Row} (hm : r ∈ T) (hg : Md.good r) : Md.prim T X r.1 = Md.comp T X r := by
  unfold Md.prim
  rw [Md.pairK_zero hg.2.2.2.2.1, Md.find_mem hr hm, Bool.false_or]
  rfl
/-- Is one of those ahead composed of the same? -/
def Md.ahead (T : List Rw.Row) (X : Int → Bool) (pre : List Rw.Row) (r : Rw.Row) : Bool := pre.any fun q => Md.comp T X r && (Md.comp T X q && decide (q.2.2 = r.2.2))
def Md.docTwice (T : List Rw.Row) (X : Int → Bool) : List Rw.Row → List Rw.Row → Bool
  | _, [] => false
  | pre, r :: l => Md.ahead T X pre r || Md.docTwice T X (pre ++ [r]) l
theorem Md.any_map {α β : Type} [BEq β] [LawfulBEq β] (p : α → Bool) (f : α → β) (y : β) : ∀ (l : List α), ((l.filter p).map f).contains y = l.any fun q => p q && (f q == y)
  | [] => rfl
  | q :: l => by
    rw [List.filter_cons, List.any_cons]
    by_cases h : p q = true
    · rw [if_pos h, List.map_cons, List.contains_cons, Md.any_map p f y l, h, Bool.true_and]
      congr 1
      exact Bool.eq_iff_iff.2 ⟨fun e => by simp at e; simp [e], fun e => by simp at e; simp [e]⟩
    · rw [if_neg h, Md.any_map p f y l]
      simp [h]
theorem Md.twice_doc (T : List Rw.Row) (X : Int → Bool) : ∀ (l pre : List Rw.Row), Md.twice T X ((pre.filter (Md.comp T X)).map fun r => r.2.2) l = Md.docTwice T X pre l
  | [], _ => rfl
  | r :: l, pre => by
    rw [Md.twice, Md.docTwice]
    by_cases hc : Md.comp T X r = true
    · have e : ((pre.filter (Md.comp T X)).map fun r => r.2.2) ++ [r.2.2] = (((pre ++ [r]).filter (Md.comp T X)).map fun r => r.2.2) := by
        rw [List.filter_append, List.map_append, List.filter_cons, if_pos hc]
        rfl
      rw [if_pos hc, e, Md.twice_doc T X l (pre ++ [r]), Md.any_map]
      congr 1
      unfold Md.ahead
      congr 1
      funext q
      rw [hc, Bool.true_and]
      congr 1
      exact Bool.eq_iff_iff.2 (by simp)
    · have e : ((pre.filter (Md.comp T X)).map fun r => r.2.2) = (((pre ++ [r]).filter (Md.comp T X)).map fun r => r.2.2) := by
        rw [List.filter_append, List.filter_cons, if_neg hc]
        simp
      rw [if_neg hc, e, Md.twice_doc T X l (pre ++ [r])]
      have : Md.ahead T X pre r = false := by
        unfold Md.ahead
        rw [List.any_eq_false]
        intro q _
        simp [hc]
      rw [this, Bool.false_or]
end Go.Proofs.YtkmfegamblmpeaaGreatDoor

/- A right table: each character has a full decomposition. -/
namespace Go.Proofs.YtkmfegamblmpeaaGreatDoor
set_option linter.unusedVariables false
theorem Md.chk_none {T : List Rw.Row} {X : Int → Bool} (h : Md.chk T X = 0) : (∀ r ∈ T, Md.good r) ∧ Md.rises T ∧ (∀ r ∈ T, ∃ l, Md.full T r.1 = some l) ∧ Md.twice T X [] T = false := by
  unfold Md.chk at h
  by_cases h1 : Md.rowsBad (-1) T = 0
  · rw [if_neg (by simp [h1])] at h
    obtain ⟨g1, g2⟩ := Md.rowsBad_zero T (-1) h1
    cases h2 : Md.fullBad T with
    | true => rw [if_pos h2] at h; cases h
    | false =>
      rw [if_neg (by simp [h2])] at h
      refine ⟨fun r hr => (g1 r hr).1, g2, fun r hr => ?_, ?_⟩
      · unfold Md.fullBad at h2
        have := List.any_eq_false.1 h2 r hr
        cases hf : Md.full T r.1 with
        | none => simp [hf] at this
        | some l => exact ⟨l, rfl⟩
      · cases h3 : Md.twice T X [] T with
        | true => rw [if_pos h3] at h; cases h
        | false => rfl
  · rw [if_pos h1] at h
    exact absurd h h1
theorem Md.rmp_kind {T : List Rw.Row} (h : ∀ r ∈ T, Md.good r) {x : Int} (hx : Hg.ofK x ≠ 0) : Md.rmp T x = [] := by
  unfold Md.rmp
  rw [Md.find_none fun r hr he => hx (by rw [← he]; exact (h r hr).2.2.2.2.1)]
  rfl
theorem Md.mp_kind {T : List Rw.Row} (h : ∀ r ∈ T, Md.good r) {x : Int} (hx : Hg.ofK x = 1 ∨ Hg.ofK x = 2 ∨ Hg.ofK x = 3) : Md.mp T x = [] := by
  unfold Md.mp
  rw [Hg.pairK_none x (by omega) (by omega)]
  simp only [Bool.false_eq_true, if_false]
  exact Md.rmp_kind h (by omega)
theorem Md.lv_two (mp : Int → List Int) (k : Nat) {c x y : Int} (hc : mp c = [x, y]) (hx : mp x = []) (hy : mp y = []) : Md.lv mp (k + 1) c = some [x, y] := by
  unfold Md.lv
  rw [if_neg (by rw [hc]; simp), hc]
  simp [Md.lvL, Md.lv_plain mp k hx, Md.lv_plain mp k hy]
theorem Md.full_some {T : List Rw.Row} {X : Int → Bool} (h : Md.chk T X = 0) (a : Int) : ∃ l, Md.full T a = some l := by
  obtain ⟨hg, hr, hf, _⟩ := Md.chk_none h
  cases hfa : Md.find T a with
  | some r =>
    obtain ⟨h1, h2⟩ := Md.find_some hfa
    rw [← h2]
    exact hf r h1
  | none =>
    have hrm : Md.rmp T a = [] := by unfold Md.rmp; rw [hfa]; rfl
    unfold Md.full
    by_cases h4 : Hg.ofK a = 4
    · have hs := Hg.ofK_syl a (.inl h4)
      have hm : Md.mp T a = [4352 + (a - 44032) / 588, 4449 + (a - 44032) % 588 / 28] := by
        unfold Md.mp; rw [Hg.pairK_four a h4]; simp
      have hl : Hg.ofK (4352 + (a - 44032) / 588) = 1 := by unfold Hg.ofK; grind
      have hv : Hg.ofK (4449 + (a - 44032) % 588 / 28) = 2 := by unfold Hg.ofK; grind
      rw [Md.exp_lv _ _ _ _ (by simp), show T.length + 3 = (T.length + 2) + 1 from rfl, Md.lv_two _ _ hm (Md.mp_kind hg (by omega)) (Md.mp_kind hg (by omega))]
      exact ⟨_, rfl⟩
    · by_cases h5 : Hg.ofK a = 5
      · have hs := Hg.ofK_syl a (.inr h5)
        have hm : Md.mp T a = [a - (a - 44032) % 28, 4519 + (a - 44032) % 28] := by
          unfold Md.mp; rw [Hg.pairK_five a h5]; simp
        have hm2 : Md.mp T (a - (a - 44032) % 28) = [4352 + (a - 44032) / 588, 4449 + (a - 44032) % 588 / 28] := by
          unfold Md.mp; rw [Hg.two_of a hs.1 hs.2]; simp
        have h50 : (a - 44032) % 28 ≠ 0 := fun e => by rw [Hg.ofK_four a hs.1 hs.2 e] at h5; omega
        have hl : Hg.ofK (4352 + (a - 44032) / 588) = 1 := by unfold Hg.ofK; grind
        have hv : Hg.ofK (4449 + (a - 44032) % 588 / 28) = 2 := by unfold Hg.ofK; grind
        have ht : Hg.ofK (4519 + (a - 44032) % 28) = 3 := by unfold Hg.ofK; grind
        rw [Md.exp_lv _ _ _ _ (by simp), show T.length + 3 = (T.length + 2) + 1 from rfl]
        have e1 : Md.lv (Md.mp T) (T.length + 2 + 1) a = some [4352 + (a - 44032) / 588, 4449 + (a - 44032) % 588 / 28, 4519 + (a - 44032) % 28] := by
          unfold Md.lv
          rw [if_neg (by rw [hm]; simp), hm]
          simp [Md.lvL, Md.lv_plain _ (T.length + 2) (Md.mp_kind hg (.inr (.inr ht))), show T.length + 2 = (T.length + 1) + 1 from rfl, Md.lv_two _ (T.length + 1) hm2 (Md.mp_kind hg (.inl hl)) (Md.mp_kind hg (.inr (.inl hv)))]
        rw [e1]
        exact ⟨_, rfl⟩
      · have hm : Md.mp T a = [] := by
          unfold Md.mp
          rw [Hg.pairK_none a h4 h5]
          simpa using hrm
        exact ⟨_, Md.exp_plain _ hm⟩
/-- What a full decomposition is like. -/
theorem Md.full_none {T : List Rw.Row} {a : Int} {l : List Int} (h : Md.full T a = some l) : (∀ y ∈ l, Md.mp T y = [] ∧ Md.full T y = some [y]) ∧ 1 ≤ l.length ∧ l.length ≤ 32 ∧ (3 < Hg.ofK a → 2 ≤ l.length) := by
  obtain ⟨h1, h2, h3, h4⟩ := Md.exp_none h
  refine ⟨fun y hy => ⟨h1 y hy, Md.exp_plain _ (h1 y hy)⟩, h2, h4, fun hk => ?_⟩
  have hm : (Md.mp T a).length = 2 := by
    unfold Md.mp
    by_cases h4 : Hg.ofK a = 4
    · rw [Hg.pairK_four a h4]; simp
    · have h5 : Hg.ofK a = 5 := by unfold Hg.ofK at hk h4 ⊢; grind
      rw [Hg.pairK_five a h5]; simp
  omega
theorem Md.lvL_all {Q : Int → Prop} {f : Int → Option (List Int)} (hf : ∀ c l, f c = some l → Q c → ∀ d ∈ l, Q d) : ∀ (L l : List Int), Md.lvL f L = some l → (∀ c ∈ L, Q c) → ∀ d ∈ l, Q d
  | [], l, h, _, d, hd => by
    simp only [Md.lvL, Option.some.injEq] at h
    subst h
    cases hd
  | e :: r, l, h, hL, d, hd => by
    simp only [Md.lvL] at h
    cases he : f e with
    | none => rw [he] at h; cases h
    | some a =>
      rw [he, Option.bind_some] at h
      cases hr : Md.lvL f r with
      | none => rw [hr] at h; cases h
      | some b =>
        rw [hr, Option.map_some] at h
        cases h
        rcases List.mem_append.1 hd with h1 | h1
        · exact hf e a he (hL e List.mem_cons_self) d h1
        · exact Md.lvL_all hf r b hr (fun c hc => hL c (List.mem_cons_of_mem _ hc)) d h1
theorem Md.lv_all {Q : Int → Prop} {mp : Int → List Int} (hm : ∀ c, ∀ d ∈ mp c, Q d) : ∀ (k : Nat) (c : Int) (l : List Int), Md.lv mp k c = some l → Q c → ∀ d ∈ l, Q d
  | 0, c, l, h, hc, d, hd => by
    unfold Md.lv at h
    split at h
    · cases h
      rw [List.mem_singleton] at hd
      rw [hd]; exact hc
    · cases h
  | k + 1, c, l, h, hc, d, hd => by
    unfold Md.lv at h
    split at h
    · cases h
      rw [List.mem_singleton] at hd
      rw [hd]; exact hc
    · exact Md.lvL_all (Md.lv_all hm k) _ _ h (hm c) d hd
theorem Md.full_bd {T : List Rw.Row} (hT : Md.bd T) {a : Int} (ha : -2147483648 ≤ a ∧ a ≤ 2147483647) {l : List Int} (h : Md.full T a = some l) : ∀ y ∈ l, -2147483648 ≤ y ∧ y ≤ 2147483647 := by
  unfold Md.full at h
  rw [Md.exp_lv _ _ _ _ (by simp)] at h
  cases hl : Md.lv (Md.mp T) (T.length + 3) a with
  | none => rw [hl] at h; cases h
  | some b =>
    rw [hl, Option.bind_some] at h
    unfold Md.fit at h
    split at h
    · cases h
      rw [List.nil_append]
      exact Md.lv_all (Md.mp_bd hT) _ a b hl ha
    · cases h
end Go.Proofs.YtkmfegamblmpeaaGreatDoor

/- More small laws: an append of one inside a region that draws its order. -/
namespace Go.Proofs.YtkmfegamblmpeaaGreatDoor
open Go.RowKit
set_option linter.unusedSimpArgs false
set_option linter.unusedVariables false

theorem cell1 (w : World) (u : Value) (e : TypeId) (g : Nat) (hg : w.heap.size = g) : (w.alloc (.cells #[u] e)).drew.cell? ⟨g, 0, none⟩ = some u := by
  subst hg
  show (w.alloc (.cells #[u] e)).cell? ⟨w.heap.size, 0, none⟩ = some u
  have h : (w.alloc (.cells #[u] e)).heap[w.heap.size]? = some (.cells #[u] e (0, 0)) := heap_alloc_new _ _
  simp only [World.cell?, h]
  rfl
section
variable {P : Program}
theorem wp_push1 {o : Oper} {a : Act} {K : Act → World → Prop} {Q : Exit → Act → World → Prop} (w : World) (s x : Operand) (t : TypeId)
    (ho : o.op = .call { callee := .builtin .append, args := #[s, x], argTypes := #[t, t] })
    (base : Nat) (e : TypeId) (i : TypeInfo) (z : Value) (bytes : Nat) (ht : P.underlying t = some (.slice e)) (hi : P.info? e = some i) (hz : i.zero = some z)
    (hsize : i.size = 1) (hby : i.bytes = bytes) (hzs : z.cells.size = 1)
    (v : Value) (n : Nat) (xs : List Value) (hs : a.eval s = v) (hown : w.ownsRow base e 1 v n xs)
    (u : Value) (h1 : u.oneCell' = true) (g : Nat) (hx : a.eval x = .slice (some ⟨g, 0, none⟩) 1 1) (hcell : w.cell? ⟨g, 0, none⟩ = some u)
    (h63 : n + 1 ≤ maxLen) (hbytes : (n + 1) * bytes ≤ 140737488355328) (hbase : base ≤ w.heap.size)
    (h : ∀ v' w', w'.ownsRow base e 1 v' (n + 1) (xs ++ [u]) → Below base w w' → w.grownBy w' v.ownBlock → K (a.put o.dst v') w') :
    o.wp P a w K Q := by
  refine wp_append_own (P := P) w s x t ho base e i z 1 bytes ht hi hz hsize hby hzs (by omega) v n xs hs hown ⟨g, 0, none⟩ 1 1 [u] hx rfl ?_ ?_ h63 hbytes hbase ?_
  · intro j q hq
    rcases j with _ | j
    · simp only [List.getElem?_cons_zero, Option.some.injEq] at hq
      subst hq
      simpa [Addr.add] using hcell
    · simp at hq
  · intro q hq
    simp only [List.mem_singleton] at hq
    subst hq
    exact h1
  · intro v' w' h2 h3 _
    refine h v' w' h2 ?_ h3
    refine (Below.refl _ _).grown h3 hbase ?_
    intro k hk
    exact (hown.lt k hk).1

theorem step_push1 {ops : Array Oper} {o : Oper} {a : Act} {K : Act → World → Prop} {Q : Exit → Act → World → Prop} {E : Prop} (w : World) (hgd : o.guard = none) (s x : Operand) (t : TypeId)
    (ho : o.op = .call { callee := .builtin .append, args := #[s, x], argTypes := #[t, t] })
    (base : Nat) (e : TypeId) (i : TypeInfo) (z : Value) (bytes : Nat) (ht : P.underlying t = some (.slice e)) (hi : P.info? e = some i) (hz : i.zero = some z)
    (hsize : i.size = 1) (hby : i.bytes = bytes) (hzs : z.cells.size = 1)
    (v : Value) (n : Nat) (xs : List Value) (hs : a.eval s = v) (hown : w.ownsRow base e 1 v n xs)
    (u : Value) (h1 : u.oneCell' = true) (g : Nat) (hx : a.eval x = .slice (some ⟨g, 0, none⟩) 1 1) (hcell : w.cell? ⟨g, 0, none⟩ = some u)
    (h63 : n + 1 ≤ maxLen) (hbytes : (n + 1) * bytes ≤ 140737488355328) (hbase : base ≤ w.heap.size)
    (h : ∀ v' w', w'.ownsRow base e 1 v' (n + 1) (xs ++ [u]) → Below base w w' → w.grownBy w' v.ownBlock → K (a.put o.dst v') w') :
    if Region.wanted o (yielded ops a.tmps) = true then Oper.wp P o a w K Q else E := by
  have hw : Region.wanted o (yielded ops a.tmps) = true := by simp [Region.wanted, hgd]
  rw [if_pos hw]
  exact wp_push1 w s x t ho base e i z bytes ht hi hz hsize hby hzs v n xs hs hown u h1 g hx hcell h63 hbytes hbase h
end
end Go.Proofs.YtkmfegamblmpeaaGreatDoor

/- A slice of whole numbers that came in. -/
namespace Go.Proofs.YtkmfegamblmpeaaGreatDoor
open Go.RowKit
set_option linter.unusedSimpArgs false
set_option linter.unusedVariables false

/-- A slice of integers that came in: nil; or a row of cap cells, the numbers zs, the first len of them its elements. -/
def IsRow (k : IntKind) (w : World) (a : Option Addr) (len cap : Nat) (zs : List Int) : Prop :=
  (a = none ∧ len = 0 ∧ cap = 0 ∧ zs = []) ∨
  ∃ x, a = some x ∧ len ≤ cap ∧ cap ≤ maxLen ∧ zs.length = cap ∧ (∀ i, i < zs.length → w.cell? (x.add i) = some (.int k (zs.getD i 0))) ∧ ∀ n ∈ zs, (Lit.int k n).wf = true

theorem IsRow.len_le {k : IntKind} {w : World} {a : Option Addr} {len cap : Nat} {zs : List Int} (h : IsRow k w a len cap zs) : len ≤ cap ∧ cap ≤ maxLen ∧ zs.length = cap := by
  rcases h with ⟨rfl, rfl, rfl, rfl⟩ | ⟨x, rfl, h1, h2, h3, _⟩
  · exact ⟨Nat.le_refl _, by decide, rfl⟩
  · exact ⟨h1, h2, h3⟩
theorem IsRow.wf {k : IntKind} {w : World} {a : Option Addr} {len cap : Nat} {zs : List Int} (h : IsRow k w a len cap zs) : ∀ n ∈ zs, (Lit.int k n).wf = true := by
  rcases h with ⟨rfl, rfl, rfl, rfl⟩ | ⟨x, rfl, h1, h2, h3, h4, h5⟩
  · simp
  · exact h5
theorem IsRow.sl {k : IntKind} {w : World} {a : Option Addr} {len cap : Nat} {zs : List Int} (h : IsRow k w a len cap zs) (m : Nat) (hm : m ≤ len) : Sl w w.heap.size a ((zs.take m).map (Value.int k)) := by
  rcases h with ⟨rfl, rfl, rfl, rfl⟩ | ⟨x, rfl, h1, h2, h3, h4, h5⟩
  · simpa using Sl.nil w w.heap.size none
  · intro hx
    rw [List.length_map, List.length_take] at hx
    obtain ⟨b, off, spot⟩ := x
    have hc0 := h4 0 (by omega)
    have hspot : spot = none := by simpa [Addr.add] using World.cell?_spot hc0
    subst hspot
    have hadd : ∀ i, (⟨b, off, none⟩ : Addr).add i = ⟨b, off + i, none⟩ := by
      intro i; unfold Addr.add; split <;> simp_all
    refine ⟨b, off, rfl, ?_, ?_⟩
    · rw [hadd] at hc0
      exact World.block_lt_of_cell? w _ hc0
    · intro i hi
      rw [List.length_map, List.length_take] at hi
      rw [← hadd, h4 i (by omega), List.getElem?_map, List.getElem?_take, if_pos (by omega), List.getElem?_eq_getElem (by omega)]
      simp [List.getD, show i < zs.length by omega]
end Go.Proofs.YtkmfegamblmpeaaGreatDoor
