/- Layer excl, plain: characters of lines, with notes and blanks; no program in sight. -/
import Derived.Test.YtppmcnpjglackaaDoorRwPlain
namespace Go.Proofs.YtppmcnpjglackaaDoor
open Go.RowKit Go.Stop
set_option linter.unusedSimpArgs false
set_option linter.unusedVariables false

/-- What a line adds. -/
def Ex.line (seen : List Int) (l : List UInt8) : Option (List Int) :=
  if Fi.strip l = [] then some seen else (Fi.hex (Fi.strip l)).bind fun c => if C.isC c = true ∧ c ∉ seen then some (seen ++ [c]) else none
def Ex.steps : List Int → List (List UInt8) → Option (List Int)
  | seen, [] => some seen
  | seen, l :: r => (Ex.line seen l).bind fun s => Ex.steps s r
def Ex.parse (s : List UInt8) : Option (List Int) := if (Rw.lns [] s).all Rw.okl = true ∧ (Rw.lns [] s).length ≤ 100000 then Ex.steps [] (Rw.lns [] s) else none
theorem Ex.steps_app : ∀ (a b : List (List UInt8)) (s : List Int), Ex.steps s (a ++ b) = (Ex.steps s a).bind fun s' => Ex.steps s' b
  | [], b, s => rfl
  | l :: a, b, s => by
    rw [List.cons_append, Ex.steps, Ex.steps]
    rcases Ex.line s l with _ | s'
    · rfl
    · exact Ex.steps_app a b s'
theorem Ex.steps_take {s0 sf s : List Int} {L : List (List UInt8)} {k : Nat} {x : List UInt8} (h : Ex.steps s0 L = some sf) (hx : L[k]? = some x) (hs : Ex.steps s0 (L.take k) = some s) :
    ∃ s', Ex.line s x = some s' ∧ Ex.steps s0 (L.take (k + 1)) = some s' := by
  have hk := (List.getElem?_eq_some_iff.1 hx).1
  have e : L.take k ++ x :: L.drop (k + 1) = L := by
    have := List.take_append_drop k L
    rw [List.drop_eq_getElem_cons hk] at this
    rw [List.getElem?_eq_getElem hk, Option.some.injEq] at hx
    rw [hx] at this
    exact this
  rw [← e, Ex.steps_app, hs, Option.bind_some, Ex.steps] at h
  rcases hst : Ex.line s x with _ | s'
  · rw [hst] at h; cases h
  · refine ⟨s', rfl, ?_⟩
    rw [List.take_add_one, hx, Ex.steps_app, hs]
    show Ex.steps s [x] = some s'
    rw [Ex.steps, hst]
    rfl
theorem Ex.line_some {s s' : List Int} {l : List UInt8} (h : Ex.line s l = some s') : (Fi.strip l = [] ∧ s' = s) ∨ ∃ c, Fi.strip l ≠ [] ∧ Fi.hex (Fi.strip l) = some c ∧ C.isC c = true ∧ c ∉ s ∧ s' = s ++ [c] := by
  unfold Ex.line at h
  split at h
  · rename_i h0
    simp only [Option.some.injEq] at h
    exact .inl ⟨h0, h.symm⟩
  · rename_i h0
    rcases hc : Fi.hex (Fi.strip l) with _ | c
    · rw [hc] at h; cases h
    · rw [hc, Option.bind_some] at h
      split at h
      · rename_i h1
        simp only [Option.some.injEq] at h
        exact .inr ⟨c, h0, rfl, h1.1, h1.2, h.symm⟩
      · cases h
theorem Ex.steps_len : ∀ (L : List (List UInt8)) {s s' : List Int}, Ex.steps s L = some s' → s'.length ≤ s.length + L.length
  | [], s, s', h => by
    rw [Ex.steps, Option.some.injEq] at h
    subst h
    simp
  | x :: L, s, s', h => by
    rw [Ex.steps] at h
    rcases hs : Ex.line s x with _ | q
    · rw [hs] at h; cases h
    · rw [hs, Option.bind_some] at h
      have h2 := Ex.steps_len L h
      rcases Ex.line_some hs with ⟨_, rfl⟩ | ⟨c, _, _, _, _, rfl⟩
      · simp; omega
      · simp at h2 ⊢; omega

theorem Ex.cut_hit (a r : List UInt8) (h : (35 : UInt8) ∉ a) : (Lib.cut (a ++ 35 :: r) [35]).1 = a := by
  have := Fi.cut_head 35 (a ++ 35 :: r)
  rw [Fi.spl_hit 35 a r h, List.head?_cons, Option.some.injEq] at this
  exact this.symm
theorem Ex.cut_miss (a : List UInt8) (h : (35 : UInt8) ∉ a) : (Lib.cut a [35]).1 = a := by
  have := Fi.cut_head 35 a
  rw [Fi.spl_miss 35 a h, List.head?_cons, Option.some.injEq] at this
  exact this.symm
theorem Ex.trim_pad (i : Nat) (t : List UInt8) (x y : UInt8) (m : List UInt8) (ht : t = x :: m) (hx : x ≠ 32) (hy : t.getLast? = some y) (hy2 : y ≠ 32) : ∀ j, Lib.trimB (List.replicate i 32 ++ (t ++ List.replicate j 32)) 32 = t := by
  intro j
  rw [Fi.trim_comm]
  have h1 : Lib.trimLeftB (List.replicate i 32 ++ (t ++ List.replicate j 32)) 32 = t ++ List.replicate j 32 := by
    unfold Lib.trimLeftB
    induction i with
    | zero => rw [ht]; simp [List.dropWhile_cons, hx]
    | succ i ih => rw [List.replicate_succ, List.cons_append, List.dropWhile_cons]; simpa using ih
  rw [h1]
  induction j with
  | zero =>
    rcases List.eq_nil_or_concat t with h | ⟨q, z, h⟩
    · rw [h] at hy; cases hy
    · rw [List.concat_eq_append] at h
      rw [h, List.getLast?_append] at hy
      simp at hy
      subst hy
      rw [List.replicate_zero, List.append_nil, h]
      exact Fi.trimR_stop 32 q z hy2
  | succ j ih =>
    rw [List.replicate_succ', ← List.append_assoc, Fi.trimR_snoc]
    exact ih (by
      unfold Lib.trimLeftB
      clear h1 ih
      induction i with
      | zero => rw [ht]; simp [List.dropWhile_cons, hx]
      | succ i ih => rw [List.replicate_succ, List.cons_append, List.dropWhile_cons]; simpa using ih)
theorem Ex.text_ends (n : Nat) : ∃ x m y, Fi.text n = x :: m ∧ x ≠ 32 ∧ (Fi.text n).getLast? = some y ∧ y ≠ 32 := by
  rcases h : Fi.text n with _ | ⟨x, m⟩
  · exact absurd h (Rw.text_ne n)
  · have hb := Rw.text_bytes n
    rw [h] at hb
    obtain ⟨y, hy⟩ : ∃ y, (x :: m).getLast? = some y := ⟨_, List.getLast?_eq_some_getLast (by simp)⟩
    refine ⟨x, m, y, rfl, ?_, hy, ?_⟩
    · rintro rfl; have := (hb 32 List.mem_cons_self).1; exact absurd this (by decide)
    · rintro rfl; have := (hb 32 (List.mem_of_getLast? hy)).1; exact absurd this (by decide)
theorem Ex.text_no35 (n : Nat) : (35 : UInt8) ∉ Fi.text n := Rw.text_no n 35 (.inl (by decide))
/-- A character's line, with blanks and a note. -/
def Ex.ln (p : List UInt8) (i : Nat) (c : Int) : List UInt8 := (if i % 2 = 0 then [32, 32] else []) ++ (Fi.text c.toNat ++ ([32, 32, 35] ++ p))
theorem Ex.strip_ln (p : List UInt8) (i : Nat) (c : Int) : Fi.strip (Ex.ln p i c) = Fi.text c.toNat := by
  obtain ⟨x, m, y, h1, h2, h3, h4⟩ := Ex.text_ends c.toNat
  have hp : ∀ k, Fi.strip (List.replicate k 32 ++ (Fi.text c.toNat ++ ([32, 32, 35] ++ p))) = Fi.text c.toNat := by
    intro k
    unfold Fi.strip
    have e : List.replicate k 32 ++ (Fi.text c.toNat ++ ([32, 32, 35] ++ p)) = (List.replicate k 32 ++ (Fi.text c.toNat ++ List.replicate 2 32)) ++ 35 :: p := by simp
    rw [e, Ex.cut_hit _ _ (by
      intro h
      simp only [List.mem_append, List.mem_replicate] at h
      rcases h with h | h | h
      · exact absurd h.2 (by decide)
      · exact Ex.text_no35 _ h
      · exact absurd h.2 (by decide))]
    exact Ex.trim_pad k _ x y m h1 h2 h3 h4 2
  unfold Ex.ln
  split
  · exact hp 2
  · exact hp 0
theorem Ex.strip_note (p : List UInt8) : Fi.strip (35 :: p) = [] := by
  unfold Fi.strip
  rw [show (35 :: p : List UInt8) = [] ++ 35 :: p from rfl, Ex.cut_hit _ _ (by simp)]
  rfl
theorem Ex.strip_none : Fi.strip [] = [] := by
  unfold Fi.strip
  rw [Ex.cut_miss [] (by simp)]
  rfl
theorem Ex.strip_blank : Fi.strip [32, 32, 32] = [] := by
  unfold Fi.strip
  rw [Ex.cut_miss _ (by decide)]
  rfl
def Ex.body (p : List UInt8) : Nat → List Int → List (List UInt8)
  | _, [] => []
  | i, c :: r => Ex.ln p i c :: [32, 32, 32] :: Ex.body p (i + 1) r
theorem Ex.body_snoc (p : List UInt8) : ∀ (l : List Int) (i : Nat) (c : Int), Ex.body p i (l ++ [c]) = Ex.body p i l ++ [Ex.ln p (i + l.length) c, [32, 32, 32]]
  | [], i, c => rfl
  | a :: l, i, c => by
    rw [List.cons_append, Ex.body, Ex.body_snoc p l (i + 1) c, Ex.body]
    simp [Nat.add_assoc, Nat.add_comm 1]
theorem Ex.steps_body (p : List UInt8) : ∀ (l : List Int) (i : Nat) (seen : List Int), (∀ c ∈ l, C.isC c = true) → l.Nodup → (∀ c ∈ l, c ∉ seen) → Ex.steps seen (Ex.body p i l) = some (seen ++ l)
  | [], i, seen, _, _, _ => by simp [Ex.body, Ex.steps]
  | c :: l, i, seen, h1, h2, h3 => by
    have hc := h1 c List.mem_cons_self
    have hc' : 0 ≤ c ∧ c ≤ 1114111 := by
      unfold C.isC at hc
      have := of_decide_eq_true hc
      omega
    have hl : Ex.line seen (Ex.ln p i c) = some (seen ++ [c]) := by
      unfold Ex.line
      rw [Ex.strip_ln, if_neg (Rw.text_ne _), Fi.hex_text _ (by omega), Option.bind_some, Rw.nat_cast hc'.1, if_pos ⟨hc, h3 c List.mem_cons_self⟩]
    have hb : Ex.line (seen ++ [c]) [32, 32, 32] = some (seen ++ [c]) := by
      unfold Ex.line
      rw [Ex.strip_blank, if_pos rfl]
    rw [Ex.body, Ex.steps, hl, Option.bind_some, Ex.steps, hb, Option.bind_some, Ex.steps_body p l (i + 1) (seen ++ [c]) (fun d hd => h1 d (List.mem_cons_of_mem _ hd)) (List.nodup_cons.1 h2).2 (fun d hd hm => by
      rcases List.mem_append.1 hm with h | h
      · exact h3 d (List.mem_cons_of_mem _ hd) h
      · rw [List.mem_singleton] at h
        subst h
        exact (List.nodup_cons.1 h2).1 hd)]
    simp
/-- The whole text's lines. -/
def Ex.all (p : List UInt8) (l : List Int) : List (List UInt8) := ([35, 32] ++ p) :: [] :: Ex.body p 0 l
def Ex.txt (L : List (List UInt8)) : List UInt8 := L.flatMap fun x => x ++ [10]
theorem Ex.txt_app (a b : List (List UInt8)) : Ex.txt (a ++ b) = Ex.txt a ++ Ex.txt b := by simp [Ex.txt]
theorem Ex.ok_of {x : List UInt8} (h1 : x.length ≤ 1000) (h2 : ∀ b ∈ x, 32 ≤ b.toNat ∧ b.toNat ≤ 126) : Rw.okl x = true := by
  unfold Rw.okl Rw.plainL
  rw [Bool.and_eq_true, decide_eq_true_eq, List.all_eq_true]
  refine ⟨h1, fun b hb => ?_⟩
  rw [Bool.and_eq_true, decide_eq_true_eq, decide_eq_true_eq]
  exact h2 b hb
theorem Ex.plain_bytes {p : List UInt8} (h : Rw.plainL p = true) : ∀ b ∈ p, 32 ≤ b.toNat ∧ b.toNat ≤ 126 := by
  unfold Rw.plainL at h
  rw [List.all_eq_true] at h
  intro b hb
  have := h b hb
  rw [Bool.and_eq_true, decide_eq_true_eq, decide_eq_true_eq] at this
  exact this
theorem Ex.ln_ok {p : List UInt8} (hp : Rw.plainL p = true) (hl : p.length ≤ 100) (i : Nat) (c : Int) (hc : 0 ≤ c ∧ c ≤ 1114111) : Rw.okl (Ex.ln p i c) = true := by
  have ht := Fi.text_le c.toNat (by omega)
  refine Ex.ok_of ?_ ?_
  · unfold Ex.ln
    split <;> simp <;> omega
  · intro b hb
    unfold Ex.ln at hb
    simp only [List.mem_append] at hb
    rcases hb with hb | hb | hb | hb
    · split at hb
      · simp at hb; subst hb; decide
      · cases hb
    · have := Rw.text_bytes _ b hb; omega
    · simp at hb; rcases hb with rfl | rfl <;> decide
    · exact Ex.plain_bytes hp b hb
theorem Ex.body_ok {p : List UInt8} (hp : Rw.plainL p = true) (hl : p.length ≤ 100) : ∀ (l : List Int) (i : Nat), (∀ c ∈ l, 0 ≤ c ∧ c ≤ 1114111) → ∀ x ∈ Ex.body p i l, Rw.okl x = true
  | [], i, _, x, hx => by cases hx
  | c :: l, i, h, x, hx => by
    rw [Ex.body] at hx
    rcases List.mem_cons.1 hx with rfl | hx
    · exact Ex.ln_ok hp hl i c (h c List.mem_cons_self)
    · rcases List.mem_cons.1 hx with rfl | hx
      · decide
      · exact Ex.body_ok hp hl l (i + 1) (fun d hd => h d (List.mem_cons_of_mem _ hd)) x hx
theorem Ex.body_len (p : List UInt8) : ∀ (l : List Int) (i : Nat), (Ex.body p i l).length = 2 * l.length
  | [], i => rfl
  | c :: l, i => by rw [Ex.body, List.length_cons, List.length_cons, Ex.body_len p l (i + 1), List.length_cons]; omega
theorem Ex.ok_no {x : List UInt8} (h : Rw.okl x = true) : (10 : UInt8) ∉ x := fun hm => by
  unfold Rw.okl Rw.plainL at h
  rw [Bool.and_eq_true, List.all_eq_true] at h
  exact absurd (h.2 10 hm) (by decide)
theorem Ex.parse_all {p : List UInt8} (hp : Rw.plainL p = true) (hl : p.length ≤ 100) (l : List Int) (h1 : ∀ c ∈ l, C.isC c = true) (h2 : l.Nodup) (hn : l.length ≤ 1000) : Ex.parse (Ex.txt (Ex.all p l)) = some l := by
  have hb : ∀ c ∈ l, 0 ≤ c ∧ c ≤ 1114111 := fun c hc => by
    have := h1 c hc
    unfold C.isC at this
    have := of_decide_eq_true this
    omega
  have hok : ∀ x ∈ Ex.all p l, Rw.okl x = true := by
    intro x hx
    unfold Ex.all at hx
    rcases List.mem_cons.1 hx with rfl | hx
    · refine Ex.ok_of (by simp; omega) ?_
      intro b hb
      rcases List.mem_append.1 hb with h | h
      · simp at h; rcases h with rfl | rfl <;> decide
      · exact Ex.plain_bytes hp b h
    · rcases List.mem_cons.1 hx with rfl | hx
      · decide
      · exact Ex.body_ok hp hl l 0 hb x hx
  have hlns : Rw.lns [] (Ex.txt (Ex.all p l)) = Ex.all p l := Rw.lns_text _ fun x hx => Ex.ok_no (hok x hx)
  unfold Ex.parse
  rw [hlns, if_pos ⟨by rw [List.all_eq_true]; exact hok, by unfold Ex.all; simp [Ex.body_len]; omega⟩]
  unfold Ex.all
  have e1 : Ex.line [] ([35, 32] ++ p) = some [] := by
    unfold Ex.line
    rw [show ([35, 32] ++ p : List UInt8) = 35 :: (32 :: p) from rfl, Ex.strip_note, if_pos rfl]
  have e2 : Ex.line [] [] = some [] := by
    unfold Ex.line
    rw [Ex.strip_none, if_pos rfl]
  rw [Ex.steps, e1, Option.bind_some, Ex.steps, e2, Option.bind_some, Ex.steps_body p l 0 [] h1 h2 (fun c _ => by simp)]
  simp
end Go.Proofs.YtppmcnpjglackaaDoor
