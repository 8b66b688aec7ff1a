/- What a table denotes, in plain words: full decompositions, of the document and of the program, are one. -/
import Derived.Test.YtkmfegamblmpeaaGreatDoorHangul
import Derived.WalkKit
namespace Go.Proofs.YtkmfegamblmpeaaGreatDoor
/-- A mapping tells of each character what it is mapped to: [] where it has none. -/
def Md.one (mp : Int → List Int) (c : Int) : List Int := if mp c = [] then [c] else mp c
def Md.step (mp : Int → List Int) (L : List Int) : List Int := L.flatMap (Md.one mp)
def Md.plain (mp : Int → List Int) (L : List Int) : Bool := L.all fun c => (mp c).isEmpty
/-- The document's full decomposition: of a list, k rounds at most. -/
def Md.docF (mp : Int → List Int) : Nat → List Int → Option (List Int)
  | 0, _ => none
  | k + 1, L => if Md.plain mp L = true then some L else if (Md.step mp L).length > 32 then none else Md.docF mp k (Md.step mp L)
def Md.leaf (out : List Int) (c : Int) : Option (List Int) := if out.length < 32 then some (out ++ [c]) else none
def Md.expL (f : List Int → Int → Option (List Int)) : List Int → List Int → Option (List Int)
  | out, [] => some out
  | out, d :: r => (f out d).bind fun o => Md.expL f o r
/-- The program's: k levels more may have a mapping. -/
def Md.exp (mp : Int → List Int) : Nat → List Int → Int → Option (List Int)
  | 0, out, c => if mp c = [] then Md.leaf out c else none
  | k + 1, out, c => if mp c = [] then Md.leaf out c else Md.expL (Md.exp mp k) out (mp c)
def Md.lvL (f : Int → Option (List Int)) : List Int → Option (List Int)
  | [] => some []
  | d :: r => (f d).bind fun a => (Md.lvL f r).map (a ++ ·)
/-- The leaves. -/
def Md.lv (mp : Int → List Int) : Nat → Int → Option (List Int)
  | 0, c => if mp c = [] then some [c] else none
  | k + 1, c => if mp c = [] then some [c] else Md.lvL (Md.lv mp k) (mp c)
def Md.fit (out : List Int) (l : List Int) : Option (List Int) := if out.length + l.length ≤ 32 then some (out ++ l) else none

theorem Md.lvL_len {f : Int → Option (List Int)} (hf : ∀ c l, f c = some l → 1 ≤ l.length) : ∀ (L l : List Int), Md.lvL f L = some l → L.length ≤ l.length
  | [], l, _ => Nat.zero_le _
  | d :: r, l, h => by
    unfold Md.lvL at h
    cases hd : f d with
    | none => rw [hd] at h; cases h
    | some a =>
      rw [hd, Option.bind_some] at h
      cases hr : Md.lvL f r with
      | none => rw [hr] at h; cases h
      | some b =>
        rw [hr, Option.map_some] at h
        cases h
        have h1 := hf d a hd
        have h2 := Md.lvL_len hf r b hr
        simp
        omega
theorem Md.lv_len (mp : Int → List Int) : ∀ (k : Nat) (c : Int) (l : List Int), Md.lv mp k c = some l → 1 ≤ l.length
  | 0, c, l, h => by
    unfold Md.lv at h
    split at h
    · cases h; simp
    · cases h
  | k + 1, c, l, h => by
    unfold Md.lv at h
    split at h
    · cases h; simp
    · rename_i hne
      have := Md.lvL_len (Md.lv_len mp k) _ _ h
      have h2 : 1 ≤ (mp c).length := by
        cases hm : mp c with
        | nil => exact absurd hm hne
        | cons a b => simp
      omega
theorem Md.lv_more (mp : Int → List Int) {c : Int} (k : Nat) {l : List Int} (h : Md.lv mp k c = some l) (hc : mp c ≠ []) : (mp c).length ≤ l.length := by
  cases k with
  | zero => unfold Md.lv at h; rw [if_neg hc] at h; cases h
  | succ k => unfold Md.lv at h; rw [if_neg hc] at h; exact Md.lvL_len (Md.lv_len mp k) _ _ h
theorem Md.expL_lv {f : List Int → Int → Option (List Int)} {g : Int → Option (List Int)} (hf : ∀ out c, out.length ≤ 32 → f out c = (g c).bind (Md.fit out)) :
    ∀ (L out : List Int), out.length ≤ 32 → Md.expL f out L = (Md.lvL g L).bind (Md.fit out)
  | [], out, ho => by
    unfold Md.expL Md.lvL Md.fit
    simp [ho]
  | d :: r, out, ho => by
    unfold Md.expL Md.lvL
    rw [hf out d ho]
    cases hd : g d with
    | none => rfl
    | some a =>
      rw [Option.bind_some, Option.bind_some]
      by_cases h1 : out.length + a.length ≤ 32
      · rw [show Md.fit out a = some (out ++ a) by unfold Md.fit; rw [if_pos h1], Option.bind_some, Md.expL_lv hf r (out ++ a) (by simpa using h1)]
        cases hr : Md.lvL g r with
        | none => rfl
        | some b =>
          rw [Option.bind_some, Option.map_some, Option.bind_some]
          unfold Md.fit
          simp [Nat.add_assoc]
      · rw [show Md.fit out a = none by unfold Md.fit; rw [if_neg h1], Option.bind_none]
        cases hr : Md.lvL g r with
        | none => rfl
        | some b =>
          rw [Option.map_some, Option.bind_some]
          unfold Md.fit
          rw [if_neg (by simp; omega)]
theorem Md.leaf_fit (out : List Int) (c : Int) : Md.leaf out c = Md.fit out [c] := by
  unfold Md.leaf Md.fit
  by_cases h : out.length < 32
  · rw [if_pos h, if_pos (by simp; omega)]
  · rw [if_neg h, if_neg (by simp; omega)]
theorem Md.exp_lv (mp : Int → List Int) : ∀ (k : Nat) (out : List Int) (c : Int), out.length ≤ 32 → Md.exp mp k out c = (Md.lv mp k c).bind (Md.fit out)
  | 0, out, c, ho => by
    unfold Md.exp Md.lv
    by_cases h : mp c = []
    · rw [if_pos h, if_pos h, Md.leaf_fit]; rfl
    · rw [if_neg h, if_neg h]; rfl
  | k + 1, out, c, ho => by
    unfold Md.exp Md.lv
    by_cases h : mp c = []
    · rw [if_pos h, if_pos h, Md.leaf_fit]; rfl
    · rw [if_neg h, if_neg h]
      exact Md.expL_lv (fun o d hd => Md.exp_lv mp k o d hd) _ _ ho
theorem Md.lvL_app (f : Int → Option (List Int)) : ∀ (a b : List Int), Md.lvL f (a ++ b) = (Md.lvL f a).bind fun x => (Md.lvL f b).map (x ++ ·)
  | [], b => by simp [Md.lvL]
  | d :: r, b => by
    rw [List.cons_append, Md.lvL, Md.lvL, Md.lvL_app f r b]
    cases f d with
    | none => rfl
    | some x =>
      cases Md.lvL f r with
      | none => rfl
      | some y =>
        cases Md.lvL f b with
        | none => rfl
        | some z => simp
theorem Md.lv_plain (mp : Int → List Int) (k : Nat) {c : Int} (h : mp c = []) : Md.lv mp k c = some [c] := by
  cases k with
  | zero => unfold Md.lv; rw [if_pos h]
  | succ k => unfold Md.lv; rw [if_pos h]
theorem Md.lv_one (mp : Int → List Int) (k : Nat) (c : Int) : Md.lv mp (k + 1) c = Md.lvL (Md.lv mp k) (Md.one mp c) := by
  unfold Md.one
  by_cases h : mp c = []
  · rw [if_pos h, Md.lv_plain mp _ h, Md.lvL, Md.lv_plain mp _ h]; rfl
  · rw [if_neg h, Md.lv, if_neg h]
theorem Md.lvL_step (mp : Int → List Int) (k : Nat) : ∀ (L : List Int), Md.lvL (Md.lv mp (k + 1)) L = Md.lvL (Md.lv mp k) (Md.step mp L)
  | [] => rfl
  | d :: r => by
    have e : Md.step mp (d :: r) = Md.one mp d ++ Md.step mp r := by simp [Md.step]
    rw [e, Md.lvL_app, Md.lvL, Md.lvL_step mp k r, Md.lv_one]
theorem Md.lvL_plain (mp : Int → List Int) (k : Nat) : ∀ (L : List Int), Md.plain mp L = true → Md.lvL (Md.lv mp k) L = some L
  | [], _ => rfl
  | d :: r, h => by
    unfold Md.plain at h
    rw [List.all_cons, Bool.and_eq_true, List.isEmpty_iff] at h
    rw [Md.lvL, Md.lv_plain mp k h.1, Md.lvL_plain mp k r (by unfold Md.plain; exact h.2)]
    rfl
theorem Md.lvL_zero (mp : Int → List Int) : ∀ (L : List Int), Md.plain mp L ≠ true → Md.lvL (Md.lv mp 0) L = none
  | [], h => absurd rfl h
  | d :: r, h => by
    rw [Md.lvL]
    by_cases hd : mp d = []
    · have : Md.plain mp r ≠ true := fun hr => h (by unfold Md.plain at hr ⊢; rw [List.all_cons, hr, hd]; rfl)
      rw [Md.lvL_zero mp r this]
      cases Md.lv mp 0 d <;> rfl
    · rw [Md.lv, if_neg hd]; rfl
/-- The document's and the program's full decomposition are one. -/
theorem Md.doc_lv (mp : Int → List Int) : ∀ (k : Nat) (L : List Int), L.length ≤ 32 → Md.docF mp (k + 1) L = (Md.lvL (Md.lv mp k) L).bind (Md.fit [])
  | 0, L, hL => by
    rw [Md.docF]
    by_cases h : Md.plain mp L = true
    · rw [if_pos h, Md.lvL_plain mp 0 L h, Option.bind_some]
      unfold Md.fit
      simp [hL]
    · rw [if_neg h, Md.lvL_zero mp L h]
      split <;> rfl
  | k + 1, L, hL => by
    rw [Md.docF]
    by_cases h : Md.plain mp L = true
    · rw [if_pos h, Md.lvL_plain mp _ L h, Option.bind_some]
      unfold Md.fit
      simp [hL]
    · rw [if_neg h, Md.lvL_step]
      by_cases h2 : (Md.step mp L).length > 32
      · rw [if_pos h2]
        cases hl : Md.lvL (Md.lv mp k) (Md.step mp L) with
        | none => rfl
        | some l =>
          have := Md.lvL_len (Md.lv_len mp k) _ _ hl
          rw [Option.bind_some]
          unfold Md.fit
          rw [if_neg (by simp; omega)]
      · rw [if_neg h2, Md.doc_lv mp k _ (by omega)]
theorem Md.full_eq (mp : Int → List Int) (k : Nat) (c : Int) : Md.docF mp (k + 1) [c] = Md.exp mp k [] c := by
  rw [Md.doc_lv mp k [c] (by simp), Md.exp_lv mp k [] c (by simp), Md.lvL]
  cases Md.lv mp k c with
  | none => rfl
  | some a => simp [Md.lvL]
/-- None of a full decomposition has a mapping. -/
theorem Md.lvL_none {mp : Int → List Int} {f : Int → Option (List Int)} (hf : ∀ c l, f c = some l → ∀ d ∈ l, mp d = []) : ∀ (L l : List Int), Md.lvL f L = some l → ∀ d ∈ l, mp d = []
  | [], l, h, d, hd => by cases h; cases hd
  | e :: r, l, h, d, hd => by
    unfold Md.lvL at h
    cases he : f e with
    | none => rw [he] at h; cases h
    | some a =>
      rw [he, Option.bind_some] at h
      cases hr : Md.lvL f r with
      | none => rw [hr] at h; cases h
      | some b =>
        rw [hr, Option.map_some] at h
        cases h
        rcases List.mem_append.1 hd with h1 | h1
        · exact hf e a he d h1
        · exact Md.lvL_none hf r b hr d h1
theorem Md.lv_none (mp : Int → List Int) : ∀ (k : Nat) (c : Int) (l : List Int), Md.lv mp k c = some l → ∀ d ∈ l, mp d = []
  | 0, c, l, h, d, hd => by
    unfold Md.lv at h
    split at h
    · rename_i hc
      cases h
      rw [List.mem_singleton] at hd
      rw [hd]; exact hc
    · cases h
  | k + 1, c, l, h, d, hd => by
    unfold Md.lv at h
    split at h
    · rename_i hc
      cases h
      rw [List.mem_singleton] at hd
      rw [hd]; exact hc
    · exact Md.lvL_none (Md.lv_none mp k) _ _ h d hd
theorem Md.exp_none {mp : Int → List Int} {k : Nat} {c : Int} {l : List Int} (h : Md.exp mp k [] c = some l) : (∀ d ∈ l, mp d = []) ∧ 1 ≤ l.length ∧ (mp c).length ≤ l.length ∧ l.length ≤ 32 := by
  rw [Md.exp_lv mp k [] c (by simp)] at h
  cases hl : Md.lv mp k c with
  | none => rw [hl] at h; cases h
  | some a =>
    rw [hl, Option.bind_some] at h
    unfold Md.fit at h
    split at h
    · rename_i hle
      cases h
      rw [List.nil_append]
      refine ⟨Md.lv_none mp k c a hl, Md.lv_len mp k c a hl, ?_, by simpa using hle⟩
      by_cases hc : mp c = []
      · rw [hc]; exact Nat.zero_le _
      · exact Md.lv_more mp k hl hc
    · cases h
theorem Md.exp_plain {mp : Int → List Int} (k : Nat) {c : Int} (h : mp c = []) : Md.exp mp k [] c = some [c] := by
  rw [Md.exp_lv mp k [] c (by simp), Md.lv_plain mp k h]; rfl
end Go.Proofs.YtkmfegamblmpeaaGreatDoor

/- The layer cpset in plain Lean: sets as rising lists of places. No program in sight. -/
namespace Go.Proofs.YtkmfegamblmpeaaGreatDoor
set_option linter.unusedSimpArgs false
set_option linter.unusedVariables false

/-- Rising, each once. -/
def C.srt (l : List Int) : Prop := l.Pairwise (· < ·)
/-- Membership, read off the places. -/
def C.mem : List Int → Int → Bool
  | [], _ => false
  | x :: l, c => decide (x ≤ c) && !C.mem l c

theorem C.mem_cons (x : Int) (l : List Int) (c : Int) : C.mem (x :: l) c = (decide (x ≤ c) && !C.mem l c) := rfl
theorem C.mem_low {l : List Int} {c : Int} (h : ∀ y ∈ l, c < y) : C.mem l c = false := by
  cases l with
  | nil => rfl
  | cons x l => rw [C.mem_cons, decide_eq_false (by have := h x (by simp); omega)]; rfl
theorem C.srt_tail {x : Int} {l : List Int} (h : C.srt (x :: l)) : C.srt l := (List.pairwise_cons.1 h).2
theorem C.srt_head {x : Int} {l : List Int} (h : C.srt (x :: l)) : ∀ y ∈ l, x < y := (List.pairwise_cons.1 h).1
theorem C.mem_low' {x : Int} {l : List Int} (h : C.srt (x :: l)) {c : Int} (hc : c ≤ x) : C.mem l c = false :=
  C.mem_low fun y hy => by have := C.srt_head h y hy; omega

/-- A place is put ahead where something changes. -/
def C.emit (was is : Bool) (x : Int) (r : List Int) : List Int := if is = was then r else x :: r
/-- What two lists have, by whether each has it. -/
def C.mrgF (f : Bool → Bool → Bool) : Nat → Bool → Bool → Bool → List Int → List Int → List Int
  | 0, _, _, _, _, _ => []
  | n + 1, was, p, q, [], [] => []
  | n + 1, was, p, q, a :: as', [] => C.emit was (f (!p) q) a (C.mrgF f n (f (!p) q) (!p) q as' [])
  | n + 1, was, p, q, [], b :: bs => C.emit was (f p (!q)) b (C.mrgF f n (f p (!q)) p (!q) [] bs)
  | n + 1, was, p, q, a :: as', b :: bs =>
    if a < b then C.emit was (f (!p) q) a (C.mrgF f n (f (!p) q) (!p) q as' (b :: bs))
    else if b < a then C.emit was (f p (!q)) b (C.mrgF f n (f p (!q)) p (!q) (a :: as') bs)
    else C.emit was (f (!p) (!q)) a (C.mrgF f n (f (!p) (!q)) (!p) (!q) as' bs)

def C.mrg (f : Bool → Bool → Bool) (a b : List Int) : List Int := C.mrgF f (a.length + b.length) false false false a b
/-- The places of a set: rising, of numbers up to 0x110000, even. -/
def C.ok (l : List Int) : Prop := C.srt l ∧ (∀ x ∈ l, 0 ≤ x ∧ x ≤ 1114112) ∧ l.length % 2 = 0
end Go.Proofs.YtkmfegamblmpeaaGreatDoor

/- The layer cpset in plain Lean, more: ranges, counts, places, a set made again of marks. -/
namespace Go.Proofs.YtkmfegamblmpeaaGreatDoor
set_option linter.unusedSimpArgs false
set_option linter.unusedVariables false

def C.atK : List Int → Int → Int × Bool
  | x :: y :: t, i => if i < y - x then (x + i, true) else C.atK t (i - (y - x))
  | _, _ => (0, false)
/-- All characters. -/
def C.all : List Int := [0, 55296, 57344, 1114112]
def C.isC (c : Int) : Bool := decide (0 ≤ c ∧ c ≤ 1114111 ∧ (c < 55296 ∨ 57343 < c))
end Go.Proofs.YtkmfegamblmpeaaGreatDoor

/- A row, in plain words: its character, its class, its mapping. -/
namespace Go.Proofs.YtkmfegamblmpeaaGreatDoor
abbrev Rw.Row := Int × Int × List Int
end Go.Proofs.YtkmfegamblmpeaaGreatDoor

/- Tables in plain words: looking up, and what is wrong with one. -/
namespace Go.Proofs.YtkmfegamblmpeaaGreatDoor
def Md.find (T : List Rw.Row) (c : Int) : Option Rw.Row := T.find? fun r => decide (r.1 = c)
def Md.cls (T : List Rw.Row) (c : Int) : Int := ((Md.find T c).map fun r => r.2.1).getD 0
def Md.rmp (T : List Rw.Row) (c : Int) : List Int := ((Md.find T c).map fun r => r.2.2).getD []
def Md.mp (T : List Rw.Row) (c : Int) : List Int := if (Hg.pairK c).2.2 = true then [(Hg.pairK c).1, (Hg.pairK c).2.1] else Md.rmp T c
def Md.full (T : List Rw.Row) (c : Int) : Option (List Int) := Md.exp (Md.mp T) (T.length + 3) [] c
/-- X: is a character one of those that aren't composed? -/
def Md.comp (T : List Rw.Row) (X : Int → Bool) (r : Rw.Row) : Bool := decide (r.2.1 = 0) && (decide (r.2.2.length = 2) && (decide (Md.cls T (r.2.2.headD 0) = 0) && !X r.1))
def Md.prim (T : List Rw.Row) (X : Int → Bool) (c : Int) : Bool := (Hg.pairK c).2.2 || ((Md.find T c).map (Md.comp T X)).getD false
/-- Which row is wrong, and how: 1 row, 2 hangul, 3 target. -/
def Md.bad (last : Int) (r : Rw.Row) : Nat :=
  if (!C.isC r.1 || decide (r.1 ≤ last) || decide (r.2.1 < 0) || decide (254 < r.2.1) || decide (2 < r.2.2.length)) = true then 1
  else if ((r.1 :: r.2.2).any fun c => decide (Hg.ofK c ≠ 0)) = true then 2
  else if (r.2.2.any fun c => !C.isC c) = true then 3 else 0
def Md.rowsBad : Int → List Rw.Row → Nat
  | _, [] => 0
  | last, r :: l => if Md.bad last r = 0 then Md.rowsBad r.1 l else Md.bad last r
def Md.fullBad (T : List Rw.Row) : Bool := T.any fun r => (Md.full T r.1).isNone
def Md.twice (T : List Rw.Row) (X : Int → Bool) : List (List Int) → List Rw.Row → Bool
  | _, [] => false
  | seen, r :: l => if Md.comp T X r = true then (seen.contains r.2.2 || Md.twice T X (seen ++ [r.2.2]) l) else Md.twice T X seen l
/-- What is wrong with a table: 0 nothing, 1 row, 2 hangul, 3 target, 4 full, 5 pair. -/
def Md.chk (T : List Rw.Row) (X : Int → Bool) : Nat :=
  if Md.rowsBad (-1) T ≠ 0 then Md.rowsBad (-1) T else if Md.fullBad T = true then 4 else if Md.twice T X [] T = true then 5 else 0

theorem Md.bad_le (last : Int) (r : Rw.Row) : Md.bad last r ≤ 3 := by
  unfold Md.bad
  repeat' split
  all_goals omega
theorem Md.rowsBad_le : ∀ (l : List Rw.Row) (last : Int), Md.rowsBad last l ≤ 3
  | [], _ => Nat.zero_le _
  | r :: l, last => by
    unfold Md.rowsBad
    split
    · exact Md.rowsBad_le l r.1
    · exact Md.bad_le last r
/-- A row that is right. -/
def Md.good (r : Rw.Row) : Prop := C.isC r.1 = true ∧ 0 ≤ r.2.1 ∧ r.2.1 ≤ 254 ∧ r.2.2.length ≤ 2 ∧ Hg.ofK r.1 = 0 ∧ ∀ c ∈ r.2.2, C.isC c = true ∧ Hg.ofK c = 0
theorem Md.bad_zero {last : Int} {r : Rw.Row} (h : Md.bad last r = 0) : Md.good r ∧ last < r.1 := by
  unfold Md.bad at h
  split at h
  · cases h
  · rename_i h1
    split at h
    · cases h
    · rename_i h2
      split at h
      · cases h
      · rename_i h3
        simp only [Bool.or_eq_true, Bool.not_eq_true', decide_eq_true_eq, not_or, Bool.not_eq_false, Int.not_le, Int.not_lt, Nat.not_lt] at h1
        obtain ⟨⟨⟨⟨a1, a2⟩, a3⟩, a4⟩, a5⟩ := h1
        simp only [List.any_eq_true, decide_eq_true_eq, not_exists, not_and, Decidable.not_not] at h2
        simp only [List.any_eq_true, Bool.not_eq_true', not_exists, not_and, Bool.not_eq_false] at h3
        exact ⟨⟨a1, a3, a4, a5, h2 r.1 List.mem_cons_self, fun c hc => ⟨h3 c hc, h2 c (List.mem_cons_of_mem _ hc)⟩⟩, a2⟩
/-- The codes rise. -/
def Md.rises (T : List Rw.Row) : Prop := T.Pairwise fun r q => r.1 < q.1
theorem Md.rowsBad_zero : ∀ (l : List Rw.Row) (last : Int), Md.rowsBad last l = 0 → (∀ r ∈ l, Md.good r ∧ last < r.1) ∧ Md.rises l
  | [], _, _ => ⟨fun r hr => absurd hr List.not_mem_nil, List.Pairwise.nil⟩
  | r :: l, last, h => by
    unfold Md.rowsBad at h
    by_cases hb : Md.bad last r = 0
    · rw [if_pos hb] at h
      obtain ⟨h1, h2⟩ := Md.bad_zero hb
      obtain ⟨h3, h4⟩ := Md.rowsBad_zero l r.1 h
      refine ⟨fun q hq => ?_, List.Pairwise.cons (fun q hq => (h3 q hq).2) h4⟩
      rcases List.mem_cons.1 hq with rfl | hq
      · exact ⟨h1, h2⟩
      · exact ⟨(h3 q hq).1, by have := (h3 q hq).2; omega⟩
    · rw [if_neg hb] at h
      exact absurd h hb
theorem Md.rises_get {T : List Rw.Row} (h : Md.rises T) {i j : Nat} {r q : Rw.Row} (hi : T[i]? = some r) (hj : T[j]? = some q) (hij : i < j) : r.1 < q.1 := by
  obtain ⟨a1, rfl⟩ := List.getElem?_eq_some_iff.1 hi
  obtain ⟨a2, rfl⟩ := List.getElem?_eq_some_iff.1 hj
  exact List.pairwise_iff_getElem.1 h i j a1 a2 hij
theorem Md.find_mem {T : List Rw.Row} (h : Md.rises T) {r : Rw.Row} (hr : r ∈ T) : Md.find T r.1 = some r := by
  induction T with
  | nil => cases hr
  | cons q l ih =>
    unfold Md.rises at h
    rw [List.pairwise_cons] at h
    unfold Md.find
    rw [List.find?_cons]
    rcases List.mem_cons.1 hr with rfl | hr
    · simp
    · rw [decide_eq_false (by have := h.1 r hr; omega)]
      exact ih h.2 hr
theorem Md.find_at {T : List Rw.Row} (h : Md.rises T) {i : Nat} {r : Rw.Row} (hi : T[i]? = some r) : Md.find T r.1 = some r := Md.find_mem h (List.mem_of_getElem? hi)
theorem Md.find_none {T : List Rw.Row} {c : Int} (h : ∀ r ∈ T, r.1 ≠ c) : Md.find T c = none := by
  unfold Md.find
  rw [List.find?_eq_none]
  intro r hr
  simpa using h r hr
theorem Md.find_some {T : List Rw.Row} {c : Int} {r : Rw.Row} (h : Md.find T c = some r) : r ∈ T ∧ r.1 = c := by
  unfold Md.find at h
  exact ⟨List.mem_of_find?_eq_some h, by simpa using List.find?_some h⟩
/-- Where a search by halves ends. -/
theorem Md.find_cut {T : List Rw.Row} (h : Md.rises T) (c : Int) (i : Nat) (h1 : ∀ t r, t < i → T[t]? = some r → r.1 < c) (h2 : ∀ t r, i ≤ t → T[t]? = some r → c ≤ r.1) :
    Md.find T c = (T[i]?).bind fun r => if r.1 = c then some r else none := by
  cases hi : T[i]? with
  | none =>
    refine Md.find_none fun r hr => ?_
    obtain ⟨t, ht⟩ := List.mem_iff_getElem?.1 hr
    have hlen := List.getElem?_eq_none_iff.1 hi
    obtain ⟨a1, _⟩ := List.getElem?_eq_some_iff.1 ht
    have := h1 t r (by omega) ht
    omega
  | some r =>
    rw [Option.bind_some]
    by_cases hc : r.1 = c
    · rw [if_pos hc, ← hc, Md.find_at h hi]
    · rw [if_neg hc]
      refine Md.find_none fun q hq => ?_
      obtain ⟨t, ht⟩ := List.mem_iff_getElem?.1 hq
      have := h2 i r (Nat.le_refl _) hi
      by_cases a : t < i
      · have := h1 t q a ht; omega
      · by_cases b : t = i
        · subst b; rw [hi] at ht; cases ht; exact hc
        · have := Md.rises_get h hi ht (by omega)
          omega
theorem Md.pair_bd' (c : Int) : 0 ≤ (Hg.pairK c).1 ∧ (Hg.pairK c).1 ≤ 60000 ∧ 0 ≤ (Hg.pairK c).2.1 ∧ (Hg.pairK c).2.1 ≤ 60000 := by
  have key : Hg.ofK c = 4 ∨ Hg.ofK c = 5 → 44032 ≤ c ∧ c < 55204 := by
    unfold Hg.ofK
    grind
  unfold Hg.pairK
  split
  · rename_i h
    have := key (.inl h)
    simp only
    omega
  · split
    · rename_i h
      have := key (.inr h)
      simp only
      omega
    · simp
/-- All that characters of a table are mapped to are numbers of 32 bits. -/
def Md.bd (T : List Rw.Row) : Prop := ∀ r ∈ T, (-2147483648 ≤ r.1 ∧ r.1 ≤ 2147483647) ∧ ∀ c ∈ r.2.2, -2147483648 ≤ c ∧ c ≤ 2147483647
theorem Md.mp_bd {T : List Rw.Row} (h : Md.bd T) (c : Int) : ∀ d ∈ Md.mp T c, -2147483648 ≤ d ∧ d ≤ 2147483647 := by
  intro d hd
  unfold Md.mp at hd
  split at hd
  · have := Md.pair_bd' c
    simp only [List.mem_cons, List.not_mem_nil, or_false] at hd
    rcases hd with rfl | rfl <;> omega
  · unfold Md.rmp at hd
    cases hf : Md.find T c with
    | none => rw [hf] at hd; cases hd
    | some r =>
      rw [hf] at hd
      exact (h r (Md.find_some hf).1).2 d hd
theorem Md.pairK_zero {c : Int} (h : Hg.ofK c = 0) : (Hg.pairK c).2.2 = false := by
  unfold Hg.pairK
  rw [if_neg (by omega), if_neg (by omega)]
theorem Md.prim_row {T : List Rw.Row} {X : Int → Bool} (hr : Md.rises T) {r : Rw.Row} (hm : r ∈ T) (hg : Md.good r) : Md.prim T X r.1 = Md.comp T X r := by
  unfold Md.prim
  rw [Md.pairK_zero hg.2.2.2.2.1, Md.find_mem hr hm, Bool.false_or]
  rfl
/-- Is one of those ahead composed of the same? -/
def Md.ahead (T : List Rw.Row) (X : Int → Bool) (pre : List Rw.Row) (r : Rw.Row) : Bool := pre.any fun q => Md.comp T X r && (Md.comp T X q && decide (q.2.2 = r.2.2))
def Md.docTwice (T : List Rw.Row) (X : Int → Bool) : List Rw.Row → List Rw.Row → Bool
  | _, [] => false
  | pre, r :: l => Md.ahead T X pre r || Md.docTwice T X (pre ++ [r]) l
theorem Md.any_map {α β : Type} [BEq β] [LawfulBEq β] (p : α → Bool) (f : α → β) (y : β) : ∀ (l : List α), ((l.filter p).map f).contains y = l.any fun q => p q && (f q == y)
  | [] => rfl
  | q :: l => by
    rw [List.filter_cons, List.any_cons]
    by_cases h : p q = true
    · rw [if_pos h, List.map_cons, List.contains_cons, Md.any_map p f y l, h, Bool.true_and]
      congr 1
      exact Bool.eq_iff_iff.2 ⟨fun e => by simp at e; simp [e], fun e => by simp at e; simp [e]⟩
    · rw [if_neg h, Md.any_map p f y l]
      simp [h]
theorem Md.twice_doc (T : List Rw.Row) (X : Int → Bool) : ∀ (l pre : List Rw.Row), Md.twice T X ((pre.filter (Md.comp T X)).map fun r => r.2.2) l = Md.docTwice T X pre l
  | [], _ => rfl
  | r :: l, pre => by
    rw [Md.twice, Md.docTwice]
    by_cases hc : Md.comp T X r = true
    · have e : ((pre.filter (Md.comp T X)).map fun r => r.2.2) ++ [r.2.2] = (((pre ++ [r]).filter (Md.comp T X)).map fun r => r.2.2) := by
        rw [List.filter_append, List.map_append, List.filter_cons, if_pos hc]
        rfl
      rw [if_pos hc, e, Md.twice_doc T X l (pre ++ [r]), Md.any_map]
      congr 1
      unfold Md.ahead
      congr 1
      funext q
      rw [hc, Bool.true_and]
      congr 1
      exact Bool.eq_iff_iff.2 (by simp)
    · have e : ((pre.filter (Md.comp T X)).map fun r => r.2.2) = (((pre ++ [r]).filter (Md.comp T X)).map fun r => r.2.2) := by
        rw [List.filter_append, List.filter_cons, if_neg hc]
        simp
      rw [if_neg hc, e, Md.twice_doc T X l (pre ++ [r])]
      have : Md.ahead T X pre r = false := by
        unfold Md.ahead
        rw [List.any_eq_false]
        intro q _
        simp [hc]
      rw [this, Bool.false_or]
end Go.Proofs.YtkmfegamblmpeaaGreatDoor
