/- What a table denotes, in plain words: full decompositions, of the document and of the program, are one. -/
import Derived.Test.YtamcpdggpdaioaaHangul
namespace Go.Proofs.Ytamcpdggpdaioaa
/-- A mapping tells of each character what it is mapped to: [] where it has none. -/
def Md.one (mp : Int → List Int) (c : Int) : List Int := if mp c = [] then [c] else mp c
def Md.step (mp : Int → List Int) (L : List Int) : List Int := L.flatMap (Md.one mp)
def Md.plain (mp : Int → List Int) (L : List Int) : Bool := L.all fun c => (mp c).isEmpty
/-- The document's full decomposition: of a list, k rounds at most. -/
def Md.docF (mp : Int → List Int) : Nat → List Int → Option (List Int)
  | 0, _ => none
  | k + 1, L => if Md.plain mp L = true then some L else if (Md.step mp L).length > 32 then none else Md.docF mp k (Md.step mp L)
def Md.leaf (out : List Int) (c : Int) : Option (List Int) := if out.length < 32 then some (out ++ [c]) else none
def Md.expL (f : List Int → Int → Option (List Int)) : List Int → List Int → Option (List Int)
  | out, [] => some out
  | out, d :: r => (f out d).bind fun o => Md.expL f o r
/-- The program's: k levels more may have a mapping. -/
def Md.exp (mp : Int → List Int) : Nat → List Int → Int → Option (List Int)
  | 0, out, c => if mp c = [] then Md.leaf out c else none
  | k + 1, out, c => if mp c = [] then Md.leaf out c else Md.expL (Md.exp mp k) out (mp c)
def Md.lvL (f : Int → Option (List Int)) : List Int → Option (List Int)
  | [] => some []
  | d :: r => (f d).bind fun a => (Md.lvL f r).map (a ++ ·)
/-- The leaves. -/
def Md.lv (mp : Int → List Int) : Nat → Int → Option (List Int)
  | 0, c => if mp c = [] then some [c] else none
  | k + 1, c => if mp c = [] then some [c] else Md.lvL (Md.lv mp k) (mp c)
def Md.fit (out : List Int) (l : List Int) : Option (List Int) := if out.length + l.length ≤ 32 then some (out ++ l) else none

theorem Md.lvL_len {f : Int → Option (List Int)} (hf : ∀ c l, f c = some l → 1 ≤ l.length) : ∀ (L l : List Int), Md.lvL f L = some l → L.length ≤ l.length
  | [], l, _ => Nat.zero_le _
  | d :: r, l, h => by
    unfold Md.lvL at h
    cases hd : f d with
    | none => rw [hd] at h; cases h
    | some a =>
      rw [hd, Option.bind_some] at h
      cases hr : Md.lvL f r with
      | none => rw [hr] at h; cases h
      | some b =>
        rw [hr, Option.map_some] at h
        cases h
        have h1 := hf d a hd
        have h2 := Md.lvL_len hf r b hr
        simp
        omega
theorem Md.lv_len (mp : Int → List Int) : ∀ (k : Nat) (c : Int) (l : List Int), Md.lv mp k c = some l → 1 ≤ l.length
  | 0, c, l, h => by
    unfold Md.lv at h
    split at h
    · cases h; simp
    · cases h
  | k + 1, c, l, h => by
    unfold Md.lv at h
    split at h
    · cases h; simp
    · rename_i hne
      have := Md.lvL_len (Md.lv_len mp k) _ _ h
      have h2 : 1 ≤ (mp c).length := by
        cases hm : mp c with
        | nil => exact absurd hm hne
        | cons a b => simp
      omega
theorem Md.lv_more (mp : Int → List Int) {c : Int} (k : Nat) {l : List Int} (h : Md.lv mp k c = some l) (hc : mp c ≠ []) : (mp c).length ≤ l.length := by
  cases k with
  | zero => unfold Md.lv at h; rw [if_neg hc] at h; cases h
  | succ k => unfold Md.lv at h; rw [if_neg hc] at h; exact Md.lvL_len (Md.lv_len mp k) _ _ h
theorem Md.expL_lv {f : List Int → Int → Option (List Int)} {g : Int → Option (List Int)} (hf : ∀ out c, out.length ≤ 32 → f out c = (g c).bind (Md.fit out)) :
    ∀ (L out : List Int), out.length ≤ 32 → Md.expL f out L = (Md.lvL g L).bind (Md.fit out)
  | [], out, ho => by
    unfold Md.expL Md.lvL Md.fit
    simp [ho]
  | d :: r, out, ho => by
    unfold Md.expL Md.lvL
    rw [hf out d ho]
    cases hd : g d with
    | none => rfl
    | some a =>
      rw [Option.bind_some, Option.bind_some]
      by_cases h1 : out.length + a.length ≤ 32
      · rw [show Md.fit out a = some (out ++ a) by unfold Md.fit; rw [if_pos h1], Option.bind_some, Md.expL_lv hf r (out ++ a) (by simpa using h1)]
        cases hr : Md.lvL g r with
        | none => rfl
        | some b =>
          rw [Option.bind_some, Option.map_some, Option.bind_some]
          unfold Md.fit
          simp [Nat.add_assoc]
      · rw [show Md.fit out a = none by unfold Md.fit; rw [if_neg h1], Option.bind_none]
        cases hr : Md.lvL g r with
        | none => rfl
        | some b =>
          rw [Option.map_some, Option.bind_some]
          unfold Md.fit
          rw [if_neg (by simp; omega)]
theorem Md.leaf_fit (out : List Int) (c : Int) : Md.leaf out c = Md.fit out [c] := by
  unfold Md.leaf Md.fit
  by_cases h : out.length < 32
  · rw [if_pos h, if_pos (by simp; omega)]
  · rw [if_neg h, if_neg (by simp; omega)]
theorem Md.exp_lv (mp : Int → List Int) : ∀ (k : Nat) (out : List Int) (c : Int), out.length ≤ 32 → Md.exp mp k out c = (Md.lv mp k c).bind (Md.fit out)
  | 0, out, c, ho => by
    unfold Md.exp Md.lv
    by_cases h : mp c = []
    · rw [if_pos h, if_pos h, Md.leaf_fit]; rfl
    · rw [if_neg h, if_neg h]; rfl
  | k + 1, out, c, ho => by
    unfold Md.exp Md.lv
    by_cases h : mp c = []
    · rw [if_pos h, if_pos h, Md.leaf_fit]; rfl
    · rw [if_neg h, if_neg h]
      exact Md.expL_lv (fun o d hd => Md.exp_lv mp k o d hd) _ _ ho
theorem Md.lvL_app (f : Int → Option (List Int)) : ∀ (a b : List Int), Md.lvL f (a ++ b) = (Md.lvL f a).bind fun x => (Md.lvL f b).map (x ++ ·)
  | [], b => by simp [Md.lvL]
  | d :: r, b => by
    rw [List.cons_append, Md.lvL, Md.lvL, Md.lvL_app f r b]
    cases f d with
    | none => rfl
    | some x =>
      cases Md.lvL f r with
      | none => rfl
      | some y =>
        cases Md.lvL f b with
        | none => rfl
        | some z => simp
theorem Md.lv_plain (mp : Int → List Int) (k : Nat) {c : Int} (h : mp c = []) : Md.lv mp k c = some [c] := by
  cases k with
  | zero => unfold Md.lv; rw [if_pos h]
  | succ k => unfold Md.lv; rw [if_pos h]
theorem Md.lv_one (mp : Int → List Int) (k : Nat) (c : Int) : Md.lv mp (k + 1) c = Md.lvL (Md.lv mp k) (Md.one mp c) := by
  unfold Md.one
  by_cases h : mp c = []
  · rw [if_pos h, Md.lv_plain mp _ h, Md.lvL, Md.lv_plain mp _ h]; rfl
  · rw [if_neg h, Md.lv, if_neg h]
theorem Md.lvL_step (mp : Int → List Int) (k : Nat) : ∀ (L : List Int), Md.lvL (Md.lv mp (k + 1)) L = Md.lvL (Md.lv mp k) (Md.step mp L)
  | [] => rfl
  | d :: r => by
    have e : Md.step mp (d :: r) = Md.one mp d ++ Md.step mp r := by simp [Md.step]
    rw [e, Md.lvL_app, Md.lvL, Md.lvL_step mp k r, Md.lv_one]
theorem Md.lvL_plain (mp : Int → List Int) (k : Nat) : ∀ (L : List Int), Md.plain mp L = true → Md.lvL (Md.lv mp k) L = some L
  | [], _ => rfl
  | d :: r, h => by
    unfold Md.plain at h
    rw [List.all_cons, Bool.and_eq_true, List.isEmpty_iff] at h
    rw [Md.lvL, Md.lv_plain mp k h.1, Md.lvL_plain mp k r (by unfold Md.plain; exact h.2)]
    rfl
theorem Md.lvL_zero (mp : Int → List Int) : ∀ (L : List Int), Md.plain mp L ≠ true → Md.lvL (Md.lv mp 0) L = none
  | [], h => absurd rfl h
  | d :: r, h => by
    rw [Md.lvL]
    by_cases hd : mp d = []
    · have : Md.plain mp r ≠ true := fun hr => h (by unfold Md.plain at hr ⊢; rw [List.all_cons, hr, hd]; rfl)
      rw [Md.lvL_zero mp r this]
      cases Md.lv mp 0 d <;> rfl
    · rw [Md.lv, if_neg hd]; rfl
/-- The document's and the program's full decomposition are one. -/
theorem Md.doc_lv (mp : Int → List Int) : ∀ (k : Nat) (L : List Int), L.length ≤ 32 → Md.docF mp (k + 1) L = (Md.lvL (Md.lv mp k) L).bind (Md.fit [])
  | 0, L, hL => by
    rw [Md.docF]
    by_cases h : Md.plain mp L = true
    · rw [if_pos h, Md.lvL_plain mp 0 L h, Option.bind_some]
      unfold Md.fit
      simp [hL]
    · rw [if_neg h, Md.lvL_zero mp L h]
      split <;> rfl
  | k + 1, L, hL => by
    rw [Md.docF]
    by_cases h : Md.plain mp L = true
    · rw [if_pos h, Md.lvL_plain mp _ L h, Option.bind_some]
      unfold Md.fit
      simp [hL]
    · rw [if_neg h, Md.lvL_step]
      by_cases h2 : (Md.step mp L).length > 32
      · rw [if_pos h2]
        cases hl : Md.lvL (Md.lv mp k) (Md.step mp L) with
        | none => rfl
        | some l =>
          have := Md.lvL_len (Md.lv_len mp k) _ _ hl
          rw [Option.bind_some]
          unfold Md.fit
          rw [if_neg (by simp; omega)]
      · rw [if_neg h2, Md.doc_lv mp k _ (by omega)]
theorem Md.full_eq (mp : Int → List Int) (k : Nat) (c : Int) : Md.docF mp (k + 1) [c] = Md.exp mp k [] c := by
  rw [Md.doc_lv mp k [c] (by simp), Md.exp_lv mp k [] c (by simp), Md.lvL]
  cases Md.lv mp k c with
  | none => rfl
  | some a => simp [Md.lvL]
/-- None of a full decomposition has a mapping. -/
theorem Md.lvL_none {mp : Int → List Int} {f : Int → Option (List Int)} (hf : ∀ c l, f c = some l → ∀ d ∈ l, mp d = []) : ∀ (L l : List Int), Md.lvL f L = some l → ∀ d ∈ l, mp d = []
  | [], l, h, d, hd => by cases h; cases hd
  | e :: r, l, h, d, hd => by
    unfold Md.lvL at h
    cases he : f e with
    | none => rw [he] at h; cases h
    | some a =>
      rw [he, Option.bind_some] at h
      cases hr : Md.lvL f r with
      | none => rw [hr] at h; cases h
      | some b =>
        rw [hr, Option.map_some] at h
        cases h
        rcases List.mem_append.1 hd with h1 | h1
        · exact hf e a he d h1
        · exact Md.lvL_none hf r b hr d h1
theorem Md.lv_none (mp : Int → List Int) : ∀ (k : Nat) (c : Int) (l : List Int), Md.lv mp k c = some l → ∀ d ∈ l, mp d = []
  | 0, c, l, h, d, hd => by
    unfold Md.lv at h
    split at h
    · rename_i hc
      cases h
      rw [List.mem_singleton] at hd
      rw [hd]; exact hc
    · cases h
  | k + 1, c, l, h, d, hd => by
    unfold Md.lv at h
    split at h
    · rename_i hc
      cases h
      rw [List.mem_singleton] at hd
      rw [hd]; exact hc
    · exact Md.lvL_none (Md.lv_none mp k) _ _ h d hd
theorem Md.exp_none {mp : Int → List Int} {k : Nat} {c : Int} {l : List Int} (h : Md.exp mp k [] c = some l) : (∀ d ∈ l, mp d = []) ∧ 1 ≤ l.length ∧ (mp c).length ≤ l.length ∧ l.length ≤ 32 := by
  rw [Md.exp_lv mp k [] c (by simp)] at h
  cases hl : Md.lv mp k c with
  | none => rw [hl] at h; cases h
  | some a =>
    rw [hl, Option.bind_some] at h
    unfold Md.fit at h
    split at h
    · rename_i hle
      cases h
      rw [List.nil_append]
      refine ⟨Md.lv_none mp k c a hl, Md.lv_len mp k c a hl, ?_, by simpa using hle⟩
      by_cases hc : mp c = []
      · rw [hc]; exact Nat.zero_le _
      · exact Md.lv_more mp k hl hc
    · cases h
theorem Md.exp_plain {mp : Int → List Int} (k : Nat) {c : Int} (h : mp c = []) : Md.exp mp k [] c = some [c] := by
  rw [Md.exp_lv mp k [] c (by simp), Md.lv_plain mp k h]; rfl
end Go.Proofs.Ytamcpdggpdaioaa
