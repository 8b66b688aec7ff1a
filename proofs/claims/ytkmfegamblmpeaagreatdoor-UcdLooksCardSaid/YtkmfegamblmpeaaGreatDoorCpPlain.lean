/- What a table denotes, in plain words: full decompositions, of the document and of the program, are one. -/
import Derived.Test.YtkmfegamblmpeaaGreatDoorHangul
import Derived.WalkKit
namespace Go.Proofs.YtkmfegamblmpeaaGreatDoor
/-- A mapping tells of each character what it is mapped to: [] where it has none. -/
def Md.one (mp : Int → List Int) (c : Int) : List Int := if mp c = [] then [c] else mp c
def Md.step (mp : Int → List Int) (L : List Int) : List Int := L.flatMap (Md.one mp)
def Md.plain (mp : Int → List Int) (L : List Int) : Bool := L.all fun c => (mp c).isEmpty
/-- The document's full decomposition: of a list, k rounds at most. -/
def Md.docF (mp : Int → List Int) : Nat → List Int → Option (List Int)
  | 0, _ => none
  | k + 1, L => if Md.plain mp L = true then some L else if (Md.step mp L).length > 32 then none else Md.docF mp k (Md.step mp L)
def Md.leaf (out : List Int) (c : Int) : Option (List Int) := if out.length < 32 then some (out ++ [c]) else none
def Md.expL (f : List Int → Int → Option (List Int)) : List Int → List Int → Option (List Int)
  | out, [] => some out
  | out, d :: r => (f out d).bind fun o => Md.expL f o r
/-- The program's: k levels more may have a mapping. -/
def Md.exp (mp : Int → List Int) : Nat → List Int → Int → Option (List Int)
  | 0, out, c => if mp c = [] then Md.leaf out c else none
  | k + 1, out, c => if mp c = [] then Md.leaf out c else Md.expL (Md.exp mp k) out (mp c)
def Md.lvL (f : Int → Option (List Int)) : List Int → Option (List Int)
  | [] => some []
  | d :: r => (f d).bind fun a => (Md.lvL f r).map (a ++ ·)
/-- The leaves. -/
def Md.lv (mp : Int → List Int) : Nat → Int → Option (List Int)
  | 0, c => if mp c = [] then some [c] else none
  | k + 1, c => if mp c = [] then some [c] else Md.lvL (Md.lv mp k) (mp c)
def Md.fit (out : List Int) (l : List Int) : Option (List Int) := if out.length + l.length ≤ 32 then some (out ++ l) else none

theorem Md.lvL_len {f : Int → Option (List Int)} (hf : ∀ c l, f c = some l → 1 ≤ l.length) : ∀ (L l : List Int), Md.lvL f L = some l → L.length ≤ l.length
  | [], l, _ => Nat.zero_le _
  | d :: r, l, h => by
    unfold Md.lvL at h
    cases hd : f d with
    | none => rw [hd] at h; cases h
    | some a =>
      rw [hd, Option.bind_some] at h
      cases hr : Md.lvL f r with
      | none => rw [hr] at h; cases h
      | some b =>
        rw [hr, Option.map_some] at h
        cases h
        have h1 := hf d a hd
        have h2 := Md.lvL_len hf r b hr
        simp
        omega
theorem Md.lv_len (mp : Int → List Int) : ∀ (k : Nat) (c : Int) (l : List Int), Md.lv mp k c = some l → 1 ≤ l.length
  | 0, c, l, h => by
    unfold Md.lv at h
    split at h
    · cases h; simp
    · cases h
  | k + 1, c, l, h => by
    unfold Md.lv at h
    split at h
    · cases h; simp
    · rename_i hne
      have := Md.lvL_len (Md.lv_len mp k) _ _ h
      have h2 : 1 ≤ (mp c).length := by
        cases hm : mp c with
        | nil => exact absurd hm hne
        | cons a b => simp
      omega
theorem Md.lv_more (mp : Int → List Int) {c : Int} (k : Nat) {l : List Int} (h : Md.lv mp k c = some l) (hc : mp c ≠ []) : (mp c).length ≤ l.length := by
  cases k with
  | zero => unfold Md.lv at h; rw [if_neg hc] at h; cases h
  | succ k => unfold Md.lv at h; rw [if_neg hc] at h; exact Md.lvL_len (Md.lv_len mp k) _ _ h
theorem Md.expL_lv {f : List Int → Int → Option (List Int)} {g : Int → Option (List Int)} (hf : ∀ out c, out.length ≤ 32 → f out c = (g c).bind (Md.fit out)) :
    ∀ (L out : List Int), out.length ≤ 32 → Md.expL f out L = (Md.lvL g L).bind (Md.fit out)
  | [], out, ho => by
    unfold Md.expL Md.lvL Md.fit
    simp [ho]
  | d :: r, out, ho => by
    unfold Md.expL Md.lvL
    rw [hf out d ho]
    cases hd : g d with
    | none => rfl
    | some a =>
      rw [Option.bind_some, Option.bind_some]
      by_cases h1 : out.length + a.length ≤ 32
      · rw [show Md.fit out a = some (out ++ a) by unfold Md.fit; rw [if_pos h1], Option.bind_some, Md.expL_lv hf r (out ++ a) (by simpa using h1)]
        cases hr : Md.lvL g r with
        | none => rfl
        | some b =>
          rw [Option.bind_some, Option.map_some, Option.bind_some]
          unfold Md.fit
          simp [Nat.add_assoc]
      · rw [show Md.fit out a = none by unfold Md.fit; rw [if_neg h1], Option.bind_none]
        cases hr : Md.lvL g r with
        | none => rfl
        | some b =>
          rw [Option.map_some, Option.bind_some]
          unfold Md.fit
          rw [if_neg (by simp; omega)]
theorem Md.leaf_fit (out : List Int) (c : Int) : Md.leaf out c = Md.fit out [c] := by
  unfold Md.leaf Md.fit
  by_cases h : out.length < 32
  · rw [if_pos h, if_pos (by simp; omega)]
  · rw [if_neg h, if_neg (by simp; omega)]
theorem Md.exp_lv (mp : Int → List Int) : ∀ (k : Nat) (out : List Int) (c : Int), out.length ≤ 32 → Md.exp mp k out c = (Md.lv mp k c).bind (Md.fit out)
  | 0, out, c, ho => by
    unfold Md.exp Md.lv
    by_cases h : mp c = []
    · rw [if_pos h, if_pos h, Md.leaf_fit]; rfl
    · rw [if_neg h, if_neg h]; rfl
  | k + 1, out, c, ho => by
    unfold Md.exp Md.lv
    by_cases h : mp c = []
    · rw [if_pos h, if_pos h, Md.leaf_fit]; rfl
    · rw [if_neg h, if_neg h]
      exact Md.expL_lv (fun o d hd => Md.exp_lv mp k o d hd) _ _ ho
theorem Md.lvL_app (f : Int → Option (List Int)) : ∀ (a b : List Int), Md.lvL f (a ++ b) = (Md.lvL f a).bind fun x => (Md.lvL f b).map (x ++ ·)
  | [], b => by simp [Md.lvL]
  | d :: r, b => by
    rw [List.cons_append, Md.lvL, Md.lvL, Md.lvL_app f r b]
    cases f d with
    | none => rfl
    | some x =>
      cases Md.lvL f r with
      | none => rfl
      | some y =>
        cases Md.lvL f b with
        | none => rfl
        | some z => simp
theorem Md.lv_plain (mp : Int → List Int) (k : Nat) {c : Int} (h : mp c = []) : Md.lv mp k c = some [c] := by
  cases k with
  | zero => unfold Md.lv; rw [if_pos h]
  | succ k => unfold Md.lv; rw [if_pos h]
theorem Md.lv_one (mp : Int → List Int) (k : Nat) (c : Int) : Md.lv mp (k + 1) c = Md.lvL (Md.lv mp k) (Md.one mp c) := by
  unfold Md.one
  by_cases h : mp c = []
  · rw [if_pos h, Md.lv_plain mp _ h, Md.lvL, Md.lv_plain mp _ h]; rfl
  · rw [if_neg h, Md.lv, if_neg h]
theorem Md.lvL_step (mp : Int → List Int) (k : Nat) : ∀ (L : List Int), Md.lvL (Md.lv mp (k + 1)) L = Md.lvL (Md.lv mp k) (Md.step mp L)
  | [] => rfl
  | d :: r => by
    have e : Md.step mp (d :: r) = Md.one mp d ++ Md.step mp r := by simp [Md.step]
    rw [e, Md.lvL_app, Md.lvL, Md.lvL_step mp k r, Md.lv_one]
theorem Md.lvL_plain (mp : Int → List Int) (k : Nat) : ∀ (L : List Int), Md.plain mp L = true → Md.lvL (Md.lv mp k) L = some L
  | [], _ => rfl
  | d :: r, h => by
    unfold Md.plain at h
    rw [List.all_cons, Bool.and_eq_true, List.isEmpty_iff] at h
    rw [Md.lvL, Md.lv_plain mp k h.1, Md.lvL_plain mp k r (by unfold Md.plain; exact h.2)]
    rfl
theorem Md.lvL_zero (mp : Int → List Int) : ∀ (L : List Int), Md.plain mp L ≠ true → Md.lvL (Md.lv mp 0) L = none
  | [], h => absurd rfl h
  | d :: r, h => by
    rw [Md.lvL]
    by_cases hd : mp d = []
    · have : Md.plain mp r ≠ true := fun hr => h (by unfold Md.plain at hr ⊢; rw [List.all_cons, hr, hd]; rfl)
      rw [Md.lvL_zero mp r this]
      cases Md.lv mp 0 d <;> rfl
    · rw [Md.lv, if_neg hd]; rfl
/-- The document's and the program's full decomposition are one. -/
theorem Md.doc_lv (mp : Int → List Int) : ∀ (k : Nat) (L : List Int), L.length ≤ 32 → Md.docF mp (k + 1) L = (Md.lvL (Md.lv mp k) L).bind (Md.fit [])
  | 0, L, hL => by
    rw [Md.docF]
    by_cases h : Md.plain mp L = true
    · rw [if_pos h, Md.lvL_plain mp 0 L h, Option.bind_some]
      unfold Md.fit
      simp [hL]
    · rw [if_neg h, Md.lvL_zero mp L h]
      split <;> rfl
  | k + 1, L, hL => by
    rw [Md.docF]
    by_cases h : Md.plain mp L = true
    · rw [if_pos h, Md.lvL_plain mp _ L h, Option.bind_some]
      unfold Md.fit
      simp [hL]
    · rw [if_neg h, Md.lvL_step]
      by_cases h2 : (Md.step mp L).length > 32
      · rw [if_pos h2]
        cases hl : Md.lvL (Md.lv mp k) (Md.step mp L) with
        | none => rfl
        | some l =>
          have := Md.lvL_len (Md.lv_len mp k) _ _ hl
          rw [Option.bind_some]
          unfold Md.fit
          rw [if_neg (by simp; omega)]
      · rw [if_neg h2, Md.doc_lv mp k _ (by omega)]
theorem Md.full_eq (mp : Int → List Int) (k : Nat) (c : Int) : Md.docF mp (k + 1) [c] = Md.exp mp k [] c := by
  rw [Md.doc_lv mp k [c] (by simp), Md.exp_lv mp k [] c (by simp), Md.lvL]
  cases Md.lv mp k c with
  | none => rfl
  | some a => simp [Md.lvL]
/-- None of a full decomposition has a mapping. -/
theorem Md.lvL_none {mp : Int → List Int} {f : Int → Option (List Int)} (hf : ∀ c l, f c = some l → ∀ d ∈ l, mp d = []) : ∀ (L l : List Int), Md.lvL f L = some l → ∀ d ∈ l, mp d = []
  | [], l, h, d, hd => by cases h; cases hd
  | e :: r, l, h, d, hd => by
    unfold Md.lvL at h
    cases he : f e with
    | none => rw [he] at h; cases h
    | some a =>
      rw [he, Option.bind_some] at h
      cases hr : Md.lvL f r with
      | none => rw [hr] at h; cases h
      | some b =>
        rw [hr, Option.map_some] at h
        cases h
        rcases List.mem_append.1 hd with h1 | h1
        · exact hf e a he d h1
        · exact Md.lvL_none hf r b hr d h1
theorem Md.lv_none (mp : Int → List Int) : ∀ (k : Nat) (c : Int) (l : List Int), Md.lv mp k c = some l → ∀ d ∈ l, mp d = []
  | 0, c, l, h, d, hd => by
    unfold Md.lv at h
    split at h
    · rename_i hc
      cases h
      rw [List.mem_singleton] at hd
      rw [hd]; exact hc
    · cases h
  | k + 1, c, l, h, d, hd => by
    unfold Md.lv at h
    split at h
    · rename_i hc
      cases h
      rw [List.mem_singleton] at hd
      rw [hd]; exact hc
    · exact Md.lvL_none (Md.lv_none mp k) _ _ h d hd
theorem Md.exp_none {mp : Int → List Int} {k : Nat} {c : Int} {l : List Int} (h : Md.exp mp k [] c = some l) : (∀ d ∈ l, mp d = []) ∧ 1 ≤ l.length ∧ (mp c).length ≤ l.length ∧ l.length ≤ 32 := by
  rw [Md.exp_lv mp k [] c (by simp)] at h
  cases hl : Md.lv mp k c with
  | none => rw [hl] at h; cases h
  | some a =>
    rw [hl, Option.bind_some] at h
    unfold Md.fit at h
    split at h
    · rename_i hle
      cases h
      rw [List.nil_append]
      refine ⟨Md.lv_none mp k c a hl, Md.lv_len mp k c a hl, ?_, by simpa using hle⟩
      by_cases hc : mp c = []
      · rw [hc]; exact Nat.zero_le _
      · exact Md.lv_more mp k hl hc
    · cases h
theorem Md.exp_plain {mp : Int → List Int} (k : Nat) {c : Int} (h : mp c = []) : Md.exp mp k [] c = some [c] := by
  rw [Md.exp_lv mp k [] c (by simp), Md.lv_plain mp k h]; rfl
end Go.Proofs.YtkmfegamblmpeaaGreatDoor

/- The layer cpset in plain Lean: sets as rising lists of places. No program in sight. -/
namespace Go.Proofs.YtkmfegamblmpeaaGreatDoor
set_option linter.unusedSimpArgs false
set_option linter.unusedVariables false

/-- Rising, each once. -/
def C.srt (l : List Int) : Prop := l.Pairwise (· < ·)
/-- Membership, read off the places. -/
def C.mem : List Int → Int → Bool
  | [], _ => false
  | x :: l, c => decide (x ≤ c) && !C.mem l c

theorem C.mem_cons (x : Int) (l : List Int) (c : Int) : C.mem (x :: l) c = (decide (x ≤ c) && !C.mem l c) := rfl
theorem C.mem_low {l : List Int} {c : Int} (h : ∀ y ∈ l, c < y) : C.mem l c = false := by
  cases l with
  | nil => rfl
  | cons x l => rw [C.mem_cons, decide_eq_false (by have := h x (by simp); omega)]; rfl
theorem C.srt_tail {x : Int} {l : List Int} (h : C.srt (x :: l)) : C.srt l := (List.pairwise_cons.1 h).2
theorem C.srt_head {x : Int} {l : List Int} (h : C.srt (x :: l)) : ∀ y ∈ l, x < y := (List.pairwise_cons.1 h).1
theorem C.mem_low' {x : Int} {l : List Int} (h : C.srt (x :: l)) {c : Int} (hc : c ≤ x) : C.mem l c = false :=
  C.mem_low fun y hy => by have := C.srt_head h y hy; omega

/-- A place is put ahead where something changes. -/
def C.emit (was is : Bool) (x : Int) (r : List Int) : List Int := if is = was then r else x :: r
/-- What two lists have, by whether each has it. -/
def C.mrgF (f : Bool → Bool → Bool) : Nat → Bool → Bool → Bool → List Int → List Int → List Int
  | 0, _, _, _, _, _ => []
  | n + 1, was, p, q, [], [] => []
  | n + 1, was, p, q, a :: as', [] => C.emit was (f (!p) q) a (C.mrgF f n (f (!p) q) (!p) q as' [])
  | n + 1, was, p, q, [], b :: bs => C.emit was (f p (!q)) b (C.mrgF f n (f p (!q)) p (!q) [] bs)
  | n + 1, was, p, q, a :: as', b :: bs =>
    if a < b then C.emit was (f (!p) q) a (C.mrgF f n (f (!p) q) (!p) q as' (b :: bs))
    else if b < a then C.emit was (f p (!q)) b (C.mrgF f n (f p (!q)) p (!q) (a :: as') bs)
    else C.emit was (f (!p) (!q)) a (C.mrgF f n (f (!p) (!q)) (!p) (!q) as' bs)

theorem C.emit_mem (was is : Bool) (x : Int) (r : List Int) (z : Int) (h : z ∈ C.emit was is x r) : z = x ∨ z ∈ r := by
  unfold C.emit at h
  split at h
  · exact .inr h
  · exact List.mem_cons.1 h
theorem C.emit_srt (was is : Bool) (x : Int) (r : List Int) (h : C.srt r) (hx : ∀ y ∈ r, x < y) : C.srt (C.emit was is x r) := by
  unfold C.emit
  split
  · exact h
  · exact List.pairwise_cons.2 ⟨hx, h⟩
theorem C.mrgF_sub (f : Bool → Bool → Bool) : ∀ (n : Nat) (was p q : Bool) (a b : List Int) (z : Int), z ∈ C.mrgF f n was p q a b → z ∈ a ∨ z ∈ b
  | 0, _, _, _, _, _, z, h => by cases h
  | n + 1, was, p, q, [], [], z, h => by cases h
  | n + 1, was, p, q, a :: as', [], z, h => by
    rcases C.emit_mem _ _ _ _ _ h with rfl | h
    · simp
    · rcases C.mrgF_sub f n _ _ _ _ _ z h with h | h
      · exact .inl (List.mem_cons_of_mem _ h)
      · cases h
  | n + 1, was, p, q, [], b :: bs, z, h => by
    rcases C.emit_mem _ _ _ _ _ h with rfl | h
    · simp
    · rcases C.mrgF_sub f n _ _ _ _ _ z h with h | h
      · cases h
      · exact .inr (List.mem_cons_of_mem _ h)
  | n + 1, was, p, q, a :: as', b :: bs, z, h => by
    unfold C.mrgF at h
    split at h
    · rcases C.emit_mem _ _ _ _ _ h with rfl | h
      · simp
      · rcases C.mrgF_sub f n _ _ _ _ _ z h with h | h
        · exact .inl (List.mem_cons_of_mem _ h)
        · exact .inr h
    · split at h
      · rcases C.emit_mem _ _ _ _ _ h with rfl | h
        · simp
        · rcases C.mrgF_sub f n _ _ _ _ _ z h with h | h
          · exact .inl h
          · exact .inr (List.mem_cons_of_mem _ h)
      · rcases C.emit_mem _ _ _ _ _ h with rfl | h
        · simp
        · rcases C.mrgF_sub f n _ _ _ _ _ z h with h | h
          · exact .inl (List.mem_cons_of_mem _ h)
          · exact .inr (List.mem_cons_of_mem _ h)

theorem C.mrgF_srt (f : Bool → Bool → Bool) : ∀ (n : Nat) (was p q : Bool) (a b : List Int), C.srt a → C.srt b → C.srt (C.mrgF f n was p q a b)
  | 0, _, _, _, _, _, _, _ => List.Pairwise.nil
  | n + 1, was, p, q, [], [], _, _ => List.Pairwise.nil
  | n + 1, was, p, q, a :: as', [], ha, hb => by
    refine C.emit_srt _ _ _ _ (C.mrgF_srt f n _ _ _ _ _ (C.srt_tail ha) hb) fun y hy => ?_
    rcases C.mrgF_sub f n _ _ _ _ _ y hy with h | h
    · exact C.srt_head ha y h
    · cases h
  | n + 1, was, p, q, [], b :: bs, ha, hb => by
    refine C.emit_srt _ _ _ _ (C.mrgF_srt f n _ _ _ _ _ ha (C.srt_tail hb)) fun y hy => ?_
    rcases C.mrgF_sub f n _ _ _ _ _ y hy with h | h
    · cases h
    · exact C.srt_head hb y h
  | n + 1, was, p, q, a :: as', b :: bs, ha, hb => by
    unfold C.mrgF
    split
    · rename_i hlt
      refine C.emit_srt _ _ _ _ (C.mrgF_srt f n _ _ _ _ _ (C.srt_tail ha) hb) fun y hy => ?_
      rcases C.mrgF_sub f n _ _ _ _ _ y hy with h | h
      · exact C.srt_head ha y h
      · rcases List.mem_cons.1 h with rfl | h
        · exact hlt
        · have := C.srt_head hb y h; omega
    · split
      · rename_i hlt
        refine C.emit_srt _ _ _ _ (C.mrgF_srt f n _ _ _ _ _ ha (C.srt_tail hb)) fun y hy => ?_
        rcases C.mrgF_sub f n _ _ _ _ _ y hy with h | h
        · rcases List.mem_cons.1 h with rfl | h
          · exact hlt
          · have := C.srt_head ha y h; omega
        · exact C.srt_head hb y h
      · rename_i h1 h2
        refine C.emit_srt _ _ _ _ (C.mrgF_srt f n _ _ _ _ _ (C.srt_tail ha) (C.srt_tail hb)) fun y hy => ?_
        rcases C.mrgF_sub f n _ _ _ _ _ y hy with h | h
        · exact C.srt_head ha y h
        · have := C.srt_head hb y h; omega

/-- Crossing a place: what is on its far side. -/
theorem C.emit_cross (was is : Bool) (x : Int) (r : List Int) (c : Int) (hx : x ≤ c) : (was ^^ C.mem (C.emit was is x r) c) = (is ^^ C.mem r c) := by
  unfold C.emit
  split
  · rename_i h; rw [h]
  · rename_i h
    rw [C.mem_cons, decide_eq_true hx]
    cases was <;> cases is <;> simp_all
theorem C.emit_low (was is : Bool) (x : Int) (r : List Int) (c : Int) (hx : c < x) (hr : ∀ y ∈ r, x < y) : C.mem (C.emit was is x r) c = false := by
  refine C.mem_low fun y hy => ?_
  rcases C.emit_mem _ _ _ _ _ hy with rfl | h
  · exact hx
  · have := hr y h; omega

theorem C.mrgF_mem (f : Bool → Bool → Bool) : ∀ (n : Nat) (p q : Bool) (a b : List Int), C.srt a → C.srt b → a.length + b.length ≤ n → ∀ c,
    (f p q ^^ C.mem (C.mrgF f n (f p q) p q a b) c) = f (p ^^ C.mem a c) (q ^^ C.mem b c)
  | 0, p, q, a, b, _, _, h, c => by
    have ha : a = [] := List.eq_nil_of_length_eq_zero (by omega)
    have hb : b = [] := List.eq_nil_of_length_eq_zero (by omega)
    subst ha hb
    simp [C.mrgF, C.mem]
  | n + 1, p, q, [], [], _, _, h, c => by simp [C.mrgF, C.mem]
  | n + 1, p, q, a :: as', [], ha, hb, h, c => by
    have ih := C.mrgF_mem f n (!p) q as' [] (C.srt_tail ha) hb (by simp at h ⊢; omega) c
    show (f p q ^^ C.mem (C.emit (f p q) (f (!p) q) a _) c) = _
    by_cases hc : a ≤ c
    · rw [C.emit_cross _ _ _ _ _ hc, ih, C.mem_cons, decide_eq_true hc]
      cases p <;> cases C.mem as' c <;> rfl
    · rw [C.emit_low _ _ _ _ _ (by omega), C.mem_cons, decide_eq_false hc]
      · simp [C.mem]
      · intro y hy
        rcases C.mrgF_sub f n _ _ _ _ _ y hy with h | h
        · exact C.srt_head ha y h
        · cases h
  | n + 1, p, q, [], b :: bs, ha, hb, h, c => by
    have ih := C.mrgF_mem f n p (!q) [] bs ha (C.srt_tail hb) (by simp at h ⊢; omega) c
    show (f p q ^^ C.mem (C.emit (f p q) (f p (!q)) b _) c) = _
    by_cases hc : b ≤ c
    · rw [C.emit_cross _ _ _ _ _ hc, ih, C.mem_cons b, decide_eq_true hc]
      cases q <;> cases C.mem bs c <;> rfl
    · rw [C.emit_low _ _ _ _ _ (by omega), C.mem_cons b, decide_eq_false hc]
      · simp [C.mem]
      · intro y hy
        rcases C.mrgF_sub f n _ _ _ _ _ y hy with h | h
        · cases h
        · exact C.srt_head hb y h
  | n + 1, p, q, a :: as', b :: bs, ha, hb, h, c => by
    unfold C.mrgF
    split
    · rename_i hlt
      have ih := C.mrgF_mem f n (!p) q as' (b :: bs) (C.srt_tail ha) hb (by simp at h ⊢; omega) c
      by_cases hc : a ≤ c
      · rw [C.emit_cross _ _ _ _ _ hc, ih, C.mem_cons a, decide_eq_true hc]
        cases p <;> cases C.mem as' c <;> rfl
      · rw [C.emit_low _ _ _ _ _ (by omega), C.mem_cons a, decide_eq_false hc, C.mem_cons b, decide_eq_false (by omega)]
        · simp
        · intro y hy
          rcases C.mrgF_sub f n _ _ _ _ _ y hy with h | h
          · exact C.srt_head ha y h
          · rcases List.mem_cons.1 h with rfl | h
            · exact hlt
            · have := C.srt_head hb y h; omega
    · split
      · rename_i hlt
        have ih := C.mrgF_mem f n p (!q) (a :: as') bs ha (C.srt_tail hb) (by simp at h ⊢; omega) c
        by_cases hc : b ≤ c
        · rw [C.emit_cross _ _ _ _ _ hc, ih, C.mem_cons b, decide_eq_true hc]
          cases q <;> cases C.mem bs c <;> rfl
        · rw [C.emit_low _ _ _ _ _ (by omega), C.mem_cons b, decide_eq_false hc, C.mem_cons a, decide_eq_false (by omega)]
          · simp
          · intro y hy
            rcases C.mrgF_sub f n _ _ _ _ _ y hy with h | h
            · rcases List.mem_cons.1 h with rfl | h
              · exact hlt
              · have := C.srt_head ha y h; omega
            · exact C.srt_head hb y h
      · rename_i h1 h2
        have ih := C.mrgF_mem f n (!p) (!q) as' bs (C.srt_tail ha) (C.srt_tail hb) (by simp at h ⊢; omega) c
        by_cases hc : a ≤ c
        · rw [C.emit_cross _ _ _ _ _ hc, ih, C.mem_cons a, decide_eq_true hc, C.mem_cons b, decide_eq_true (show b ≤ c by omega)]
          cases p <;> cases q <;> cases C.mem as' c <;> cases C.mem bs c <;> rfl
        · rw [C.emit_low _ _ _ _ _ (by omega), C.mem_cons a, decide_eq_false hc, C.mem_cons b, decide_eq_false (by omega)]
          · simp
          · intro y hy
            rcases C.mrgF_sub f n _ _ _ _ _ y hy with h | h
            · exact C.srt_head ha y h
            · have := C.srt_head hb y h; omega

def C.mrg (f : Bool → Bool → Bool) (a b : List Int) : List Int := C.mrgF f (a.length + b.length) false false false a b
theorem C.mrg_mem (f : Bool → Bool → Bool) (hf : f false false = false) {a b : List Int} (ha : C.srt a) (hb : C.srt b) (c : Int) : C.mem (C.mrg f a b) c = f (C.mem a c) (C.mem b c) := by
  have := C.mrgF_mem f (a.length + b.length) false false a b ha hb (Nat.le_refl _) c
  rw [hf] at this
  show C.mem (C.mrgF f (a.length + b.length) false false false a b) c = _
  simpa using this
theorem C.mrg_srt (f : Bool → Bool → Bool) {a b : List Int} (ha : C.srt a) (hb : C.srt b) : C.srt (C.mrg f a b) := C.mrgF_srt f _ _ _ _ _ _ ha hb

/-- Beyond the last place: a member just if the places are odd. -/
theorem C.mem_high : ∀ (l : List Int) (c : Int), (∀ y ∈ l, y ≤ c) → C.mem l c = (l.length % 2 == 1)
  | [], _, _ => rfl
  | x :: l, c, h => by
    rw [C.mem_cons, decide_eq_true (h x (by simp)), C.mem_high l c (fun y hy => h y (List.mem_cons_of_mem _ hy)), List.length_cons]
    rcases Nat.mod_two_eq_zero_or_one l.length with e | e
    · rw [e, show (l.length + 1) % 2 = 1 by omega]; rfl
    · rw [e, show (l.length + 1) % 2 = 0 by omega]; rfl

/-- The places of a set: rising, of numbers up to 0x110000, even. -/
def C.ok (l : List Int) : Prop := C.srt l ∧ (∀ x ∈ l, 0 ≤ x ∧ x ≤ 1114112) ∧ l.length % 2 = 0
theorem C.mrg_ok (f : Bool → Bool → Bool) (hf : f false false = false) {a b : List Int} (ha : C.ok a) (hb : C.ok b) : C.ok (C.mrg f a b) := by
  have hsub : ∀ x ∈ C.mrg f a b, 0 ≤ x ∧ x ≤ 1114112 := by
    intro x hx
    rcases C.mrgF_sub f _ _ _ _ _ _ x hx with h | h
    · exact ha.2.1 x h
    · exact hb.2.1 x h
  refine ⟨C.mrg_srt f ha.1 hb.1, hsub, ?_⟩
  have h1 := C.mem_high (C.mrg f a b) 1114112 (fun y hy => (hsub y hy).2)
  rw [C.mrg_mem f hf ha.1 hb.1, C.mem_high a _ (fun y hy => (ha.2.1 y hy).2), C.mem_high b _ (fun y hy => (hb.2.1 y hy).2), ha.2.2, hb.2.2] at h1
  rw [show (f (0 == 1) (0 == 1)) = false from hf] at h1
  have : ((C.mrg f a b).length % 2 == 1) = false := h1.symm
  simp at this
  omega
theorem C.mrg_len (f : Bool → Bool → Bool) (a b : List Int) : (C.mrg f a b).length ≤ a.length + b.length := by
  unfold C.mrg
  generalize hn : a.length + b.length = n
  have : ∀ n was p q a b, a.length + b.length ≤ n → (C.mrgF f n was p q a b).length ≤ n := by
    intro n
    induction n with
    | zero => intro was p q a b _; simp [C.mrgF]
    | succ n ih =>
      intro was p q a b h
      have he : ∀ was is x (r : List Int), r.length ≤ n → (C.emit was is x r).length ≤ n + 1 := by
        intro was is x r hr
        unfold C.emit
        split
        · omega
        · rw [List.length_cons]; omega
      cases a with
      | nil => cases b with
        | nil => simp [C.mrgF]
        | cons b bs => exact he _ _ _ _ (ih _ _ _ _ _ (by simp at h ⊢; omega))
      | cons a as' => cases b with
        | nil => exact he _ _ _ _ (ih _ _ _ _ _ (by simp at h ⊢; omega))
        | cons b bs =>
          unfold C.mrgF
          split
          · exact he _ _ _ _ (ih _ _ _ _ _ (by simp at h ⊢; omega))
          · split
            · exact he _ _ _ _ (ih _ _ _ _ _ (by simp at h ⊢; omega))
            · exact he _ _ _ _ (ih _ _ _ _ _ (by simp at h ⊢; omega))
  exact this n _ _ _ a b (by omega)
end Go.Proofs.YtkmfegamblmpeaaGreatDoor
