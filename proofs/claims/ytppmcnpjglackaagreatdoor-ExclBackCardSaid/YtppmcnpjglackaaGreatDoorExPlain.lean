/- Layer rows, plain: a text's lines, the row of a line, what a line turns; no program in sight. -/
import Derived.Test.YtppmcnpjglackaaGreatDoorFiNumPlain
import Derived.Test.YtppmcnpjglackaaGreatDoorCpPlainD
namespace Go.Proofs.YtppmcnpjglackaaGreatDoor
open Go.RowKit Go.Stop
set_option linter.unusedSimpArgs false
set_option linter.unusedVariables false

/-- A text's lines; w: what of the first one has come already. -/
def Rw.lns : List UInt8 → List UInt8 → List (List UInt8)
  | w, [] => if w = [] then [] else [w]
  | w, b :: r => if b = 10 then w :: Rw.lns [] r else Rw.lns (w ++ [b]) r
theorem Rw.lns_app : ∀ (a w r : List UInt8), (10 : UInt8) ∉ a → Rw.lns w (a ++ r) = Rw.lns (w ++ a) r
  | [], w, r, _ => by simp
  | b :: a, w, r, h => by
    have hb : b ≠ 10 := fun e => h (by rw [e]; exact List.mem_cons_self)
    rw [List.cons_append, Rw.lns, if_neg hb, Rw.lns_app a _ r (fun h' => h (List.mem_cons_of_mem _ h')), List.append_assoc]
    rfl
theorem Rw.lns_hit (a r : List UInt8) (h : (10 : UInt8) ∉ a) : Rw.lns [] (a ++ 10 :: r) = a :: Rw.lns [] r := by
  rw [Rw.lns_app a [] _ h, Rw.lns, if_pos rfl]; rfl
theorem Rw.lns_miss (a : List UInt8) (h : (10 : UInt8) ∉ a) (hne : a ≠ []) : Rw.lns [] a = [a] := by
  have := Rw.lns_app a [] [] h
  rw [List.append_nil] at this
  rw [this, List.nil_append, Rw.lns, if_neg hne]
theorem Rw.lns_text : ∀ (l : List (List UInt8)), (∀ x ∈ l, (10 : UInt8) ∉ x) → Rw.lns [] (l.flatMap fun x => x ++ [10]) = l
  | [], _ => rfl
  | x :: l, h => by
    rw [List.flatMap_cons, List.append_assoc, List.singleton_append, Rw.lns_hit _ _ (h x List.mem_cons_self), Rw.lns_text l fun y hy => h y (List.mem_cons_of_mem _ hy)]
theorem Rw.lns_len : ∀ (l w : List UInt8), (Rw.lns w l).length ≤ l.length + 1
  | [], w => by unfold Rw.lns; split <;> simp
  | b :: r, w => by
    unfold Rw.lns
    split
    · have := Rw.lns_len r []; simp; omega
    · have := Rw.lns_len r (w ++ [b]); simp; omega

/-- May it be a line? -/
def Rw.plainL (x : List UInt8) : Bool := x.all fun b => decide (32 ≤ b.toNat) && decide (b.toNat ≤ 126)
def Rw.okl (x : List UInt8) : Bool := decide (x.length ≤ 1000) && Rw.plainL x

abbrev Rw.Row := Int × Int × List Int
/-- A field's mapping. -/
def Rw.mp (f : List UInt8) : Option (List Int) :=
  if f = [] ∨ f.head? = some 60 then some []
  else if (Fi.spl 32 [] f).all (fun x => (Fi.hex x).isSome) = true ∧ (Fi.spl 32 [] f).length ≤ 2 then some ((Fi.spl 32 [] f).map fun x => (Fi.hex x).getD 0)
  else none
/-- The row of a line's fields. -/
def Rw.row (F : List (List UInt8)) : Option Rw.Row :=
  if F.length = 15 ∧ F.getD 1 [] ≠ [] then
    (Fi.hex (F.getD 0 [])).bind fun c => (Fi.num (F.getD 3 []) 254).bind fun k => (Rw.mp (F.getD 5 [])).map fun m => (c, k, m)
  else none
def Rw.quiet (r : Rw.Row) : Bool := decide (r.2.1 = 0) && decide (r.2.2.length = 0)
def Rw.first : List UInt8 := [44, 32, 70, 105, 114, 115, 116, 62]
def Rw.last : List UInt8 := [44, 32, 76, 97, 115, 116, 62]
def Rw.ends (s e : List UInt8) : Bool := decide (e.length ≤ s.length) && (s.drop (s.length - e.length) == e)
def Rw.cutE (s e : List UInt8) : List UInt8 := if Rw.ends s e then s.take (s.length - e.length) else s
/-- The range that is open behind a row. -/
def Rw.ranged (was name : List UInt8) (q : Bool) : Option (List UInt8) :=
  if was ≠ [] ∨ Rw.ends name Rw.last = true then (if Rw.ends name Rw.last = true ∧ Rw.cutE name Rw.last ++ Rw.first = was ∧ q = true then some [] else none)
  else if Rw.ends name Rw.first = true then (if q then some (Rw.cutE name Rw.first ++ Rw.first) else none)
  else some []
abbrev Rw.St := List Rw.Row × Int × List UInt8
/-- What a line turns. -/
def Rw.step (st : Rw.St) (l : List UInt8) : Option Rw.St :=
  (Rw.row (Fi.spl 59 [] l)).bind fun r =>
    if st.2.1 < r.1 then (Rw.ranged st.2.2 ((Fi.spl 59 [] l).getD 1 []) (Rw.quiet r)).bind fun o =>
      if C.isC r.1 = true ∨ Rw.quiet r = true then some (if Rw.quiet r then st.1 else st.1 ++ [r], r.1, o) else none
    else none
def Rw.steps : Rw.St → List (List UInt8) → Option Rw.St
  | st, [] => some st
  | st, l :: r => (Rw.step st l).bind fun st' => Rw.steps st' r
theorem Rw.steps_app : ∀ (a b : List (List UInt8)) (st : Rw.St), Rw.steps st (a ++ b) = (Rw.steps st a).bind fun st' => Rw.steps st' b
  | [], b, st => rfl
  | l :: a, b, st => by
    rw [List.cons_append, Rw.steps, Rw.steps]
    rcases Rw.step st l with _ | st'
    · rfl
    · exact Rw.steps_app a b st'
/-- The rows of a text. -/
def Rw.parse (s : List UInt8) : Option (List Rw.Row) :=
  if (Rw.lns [] s).all Rw.okl = true ∧ (Rw.lns [] s).length ≤ 40000 then (Rw.steps ([], -1, []) (Rw.lns [] s)).bind fun st => if st.2.2 = [] then some st.1 else none
  else none

/-- A row's line. -/
def Rw.line (r : Rw.Row) : List UInt8 :=
  Fi.text r.1.toNat ++ ([59, 88, 59, 59] ++ (Lib.decDigits r.2.1.toNat ++ ([59, 59] ++ (Fi.glue 32 (r.2.2.map fun c => Fi.text c.toNat) ++ [59, 59, 59, 59, 59, 59, 59, 59, 59]))))
def Rw.fields (r : Rw.Row) : List (List UInt8) :=
  [Fi.text r.1.toNat, [88], [], Lib.decDigits r.2.1.toNat, [], Fi.glue 32 (r.2.2.map fun c => Fi.text c.toNat), [], [], [], [], [], [], [], [], []]
def Rw.right (r : Rw.Row) : Prop := 0 ≤ r.1 ∧ r.1 ≤ 1114111 ∧ 0 ≤ r.2.1 ∧ r.2.1 ≤ 254 ∧ r.2.2.length ≤ 2 ∧ ∀ c ∈ r.2.2, 0 ≤ c ∧ c ≤ 1114111

theorem Rw.up_bytes : ∀ d : Fin 16, 48 ≤ (Fi.up d.val).toNat ∧ (Fi.up d.val).toNat ≤ 70 ∧ (Fi.up d.val) ≠ 59 := by decide
theorem Rw.text_bytes (n : Nat) : ∀ b ∈ Fi.text n, 48 ≤ b.toNat ∧ b.toNat ≤ 70 ∧ b ≠ 59 := by
  intro b hb
  unfold Fi.text at hb
  obtain ⟨d, hd, rfl⟩ := List.mem_map.1 hb
  exact Rw.up_bytes ⟨d, Fi.low_lt _ _ d hd⟩
theorem Rw.text_no (n : Nat) (c : UInt8) (h : c.toNat < 48 ∨ c = 59) : c ∉ Fi.text n := fun hb => by
  have := Rw.text_bytes n c hb
  rcases h with h | h
  · omega
  · exact this.2.2 h
theorem Rw.up_low : ∀ d : Fin 16, Fi.up d.val ≠ 60 := by decide
theorem Rw.text_low (n : Nat) : ∀ b ∈ Fi.text n, b ≠ 60 := by
  intro b hb
  unfold Fi.text at hb
  obtain ⟨d, hd, rfl⟩ := List.mem_map.1 hb
  exact Rw.up_low ⟨d, Fi.low_lt _ _ d hd⟩
theorem Rw.text_ne (n : Nat) : Fi.text n ≠ [] := fun h => by
  have := Fi.text_len n
  rw [h, List.length_nil] at this
  omega
theorem Rw.dec_bytes (n : Nat) : ∀ b ∈ Lib.decDigits n, 48 ≤ b.toNat ∧ b.toNat ≤ 57 := by
  intro b hb
  have := Fi.dec_digits n b hb
  unfold Fi.isD at this
  rw [Bool.and_eq_true, decide_eq_true_eq, decide_eq_true_eq] at this
  exact this
theorem Rw.dec_no (n : Nat) (c : UInt8) (h : c.toNat < 48 ∨ 57 < c.toNat) : c ∉ Lib.decDigits n := fun hb => by
  have := Rw.dec_bytes n c hb
  omega
theorem Rw.spl_glue (c : UInt8) : ∀ (l : List (List UInt8)) (x : List UInt8), c ∉ x → (∀ y ∈ l, c ∉ y) → Fi.spl c [] (Fi.glue c (x :: l)) = x :: l
  | [], x, hx, _ => by simp [Fi.glue]; exact Fi.spl_miss c x hx
  | y :: l, x, hx, h => by
    have e : Fi.glue c (x :: y :: l) = x ++ c :: Fi.glue c (y :: l) := by simp [Fi.glue]
    rw [e, Fi.spl_hit c _ _ hx, Rw.spl_glue c l y (h y List.mem_cons_self) fun z hz => h z (List.mem_cons_of_mem _ hz)]
theorem Rw.glue_bytes (c : UInt8) : ∀ (l : List (List UInt8)), ∀ b ∈ Fi.glue c l, b = c ∨ ∃ x ∈ l, b ∈ x
  | [], b, h => by simp [Fi.glue] at h
  | x :: l, b, h => by
    simp only [Fi.glue, List.mem_append, List.mem_flatten, List.mem_map] at h
    rcases h with h | ⟨y, ⟨z, hz, rfl⟩, hb⟩
    · exact .inr ⟨x, List.mem_cons_self, h⟩
    · rcases List.mem_cons.1 hb with h | h
      · exact .inl h
      · exact .inr ⟨z, List.mem_cons_of_mem _ hz, h⟩
theorem Rw.map_bytes (m : List Int) : ∀ b ∈ Fi.glue 32 (m.map fun c => Fi.text c.toNat), b = 32 ∨ (48 ≤ b.toNat ∧ b.toNat ≤ 70 ∧ b ≠ 59) := by
  intro b hb
  rcases Rw.glue_bytes 32 _ b hb with h | ⟨x, hx, hbx⟩
  · exact .inl h
  · obtain ⟨c, _, rfl⟩ := List.mem_map.1 hx
    exact .inr (Rw.text_bytes _ b hbx)
theorem Rw.line_fields (r : Rw.Row) : Fi.spl 59 [] (Rw.line r) = Rw.fields r := by
  have hm : (59 : UInt8) ∉ Fi.glue 32 (r.2.2.map fun c => Fi.text c.toNat) := fun h => by
    rcases Rw.map_bytes _ _ h with h | h
    · exact absurd h (by decide)
    · exact h.2.2 rfl
  unfold Rw.line Rw.fields
  rw [show ∀ x : List UInt8, [59, 88, 59, 59] ++ x = 59 :: ([88] ++ 59 :: ([] ++ 59 :: x)) from fun _ => rfl, Fi.spl_hit 59 _ _ (Rw.text_no _ _ (.inr rfl)), Fi.spl_hit 59 _ _ (by decide), Fi.spl_hit 59 _ _ (by decide),
    show ∀ x : List UInt8, [59, 59] ++ x = 59 :: ([] ++ 59 :: x) from fun _ => rfl, Fi.spl_hit 59 _ _ (Rw.dec_no _ _ (.inr (by decide))), Fi.spl_hit 59 _ _ (by decide), Fi.spl_hit 59 _ _ hm]
  rfl
theorem Rw.line_ok (r : Rw.Row) (hr : Rw.right r) : Rw.okl (Rw.line r) = true := by
  obtain ⟨c0, c1, k0, k1, hm, hc⟩ := hr
  have l1 := Fi.text_le r.1.toNat (by omega)
  have l2 := Fi.dec_len 9 r.2.1.toNat (by rw [show (10 : Nat) ^ (9 + 1) = 10000000000 from by decide]; omega)
  have l3 : (Fi.glue 32 (r.2.2.map fun c => Fi.text c.toNat)).length ≤ 20 := by
    obtain ⟨c, k, m⟩ := r
    rcases m with _ | ⟨a, _ | ⟨b, _ | ⟨d, t⟩⟩⟩
    · simp [Fi.glue]
    · have := Fi.text_le a.toNat (by have := (hc a (by simp)).2; omega)
      simp [Fi.glue]; omega
    · have h1 := Fi.text_le a.toNat (by have := (hc a (by simp)).2; omega)
      have h2 := Fi.text_le b.toNat (by have := (hc b (by simp)).2; omega)
      simp [Fi.glue]; omega
    · simp at hm
  unfold Rw.okl
  rw [Bool.and_eq_true, decide_eq_true_eq]
  refine ⟨?_, ?_⟩
  · unfold Rw.line
    simp only [List.length_append, List.length_cons, List.length_nil]
    omega
  · unfold Rw.plainL
    rw [List.all_eq_true]
    have key : ∀ b : UInt8, (b = 32 ∨ b = 59 ∨ b = 88 ∨ (48 ≤ b.toNat ∧ b.toNat ≤ 70)) → (decide (32 ≤ b.toNat) && decide (b.toNat ≤ 126)) = true := by
      intro b hb
      rw [Bool.and_eq_true, decide_eq_true_eq, decide_eq_true_eq]
      rcases hb with rfl | rfl | rfl | hb
      · decide
      · decide
      · decide
      · omega
    intro b hb
    apply key
    unfold Rw.line at hb
    simp only [List.mem_append] at hb
    rcases hb with hb | hb | hb | hb | hb | hb
    · have := Rw.text_bytes _ b hb; exact .inr (.inr (.inr ⟨this.1, this.2.1⟩))
    · simp at hb; rcases hb with rfl | rfl | rfl | rfl <;> simp
    · have := Rw.dec_bytes _ b hb; exact .inr (.inr (.inr ⟨this.1, by omega⟩))
    · simp at hb; subst hb; simp
    · rcases Rw.map_bytes _ b hb with h | h
      · exact .inl h
      · exact .inr (.inr (.inr ⟨h.1, h.2.1⟩))
    · simp at hb; subst hb; simp
theorem Rw.line_no (r : Rw.Row) (hr : Rw.right r) : (10 : UInt8) ∉ Rw.line r := fun h => by
  have := Rw.line_ok r hr
  unfold Rw.okl Rw.plainL at this
  rw [Bool.and_eq_true, List.all_eq_true] at this
  exact absurd (this.2 10 h) (by decide)
theorem Rw.nat_cast {c : Int} (h : 0 ≤ c) : ((c.toNat : Nat) : Int) = c := by omega
theorem Rw.mp_glue (m : List Int) (hm : m.length ≤ 2) (hc : ∀ c ∈ m, 0 ≤ c ∧ c ≤ 1114111) : Rw.mp (Fi.glue 32 (m.map fun c => Fi.text c.toNat)) = some m := by
  rcases m with _ | ⟨a, t⟩
  · simp [Fi.glue, Rw.mp]
  · have hs : Fi.spl 32 [] (Fi.glue 32 ((a :: t).map fun c => Fi.text c.toNat)) = (a :: t).map fun c => Fi.text c.toNat :=
      Rw.spl_glue 32 _ _ (Rw.text_no _ _ (.inl (by decide))) fun y hy => by
        obtain ⟨c, _, rfl⟩ := List.mem_map.1 hy
        exact Rw.text_no _ _ (.inl (by decide))
    have hx : ∀ c ∈ a :: t, Fi.hex (Fi.text c.toNat) = some c := fun c hcm => by
      rw [Fi.hex_text _ (by have := (hc c hcm).2; omega), Rw.nat_cast (hc c hcm).1]
    have hne : ¬ (Fi.glue 32 ((a :: t).map fun c => Fi.text c.toNat) = [] ∨ (Fi.glue 32 ((a :: t).map fun c => Fi.text c.toNat)).head? = some 60) := by
      obtain ⟨b, q, hb⟩ : ∃ b q, Fi.text a.toNat = b :: q := by
        rcases h : Fi.text a.toNat with _ | ⟨b, q⟩
        · exact absurd h (Rw.text_ne _)
        · exact ⟨b, q, rfl⟩
      have hbb := Rw.text_low a.toNat b (by rw [hb]; exact List.mem_cons_self)
      rw [List.map_cons, hb]
      simp only [Fi.glue, List.cons_append, List.head?_cons, Option.some.injEq]
      rintro (h | h)
      · cases h
      · subst h; exact hbb rfl
    have hall : (((a :: t).map fun c => Fi.text c.toNat).all fun x => (Fi.hex x).isSome) = true := by
      rw [List.all_eq_true]
      intro x hxm
      obtain ⟨c, hcm, rfl⟩ := List.mem_map.1 hxm
      rw [hx c hcm]
      rfl
    unfold Rw.mp
    rw [if_neg hne, hs, if_pos ⟨hall, by simpa using hm⟩, List.map_map]
    congr 1
    conv => rhs; rw [← List.map_id (a :: t)]
    refine List.map_congr_left fun c hcm => ?_
    show (Fi.hex (Fi.text c.toNat)).getD 0 = c
    rw [hx c hcm]; rfl
theorem Rw.row_fields (r : Rw.Row) (hr : Rw.right r) : Rw.row (Rw.fields r) = some r := by
  obtain ⟨c0, c1, k0, k1, hm, hc⟩ := hr
  unfold Rw.row
  rw [if_pos ⟨rfl, show ([88] : List UInt8) ≠ [] from by decide⟩]
  show (Fi.hex (Fi.text r.1.toNat)).bind (fun c => (Fi.num (Lib.decDigits r.2.1.toNat) 254).bind fun k => (Rw.mp (Fi.glue 32 (r.2.2.map fun c => Fi.text c.toNat))).map fun m => (c, k, m)) = _
  rw [Fi.hex_text _ (by omega), Fi.isNum_dec _ _ (by omega), Rw.mp_glue _ hm hc, Rw.nat_cast c0, Rw.nat_cast k0]
  rfl
/-- A row's line, behind others that rise. -/
theorem Rw.step_line (out : List Rw.Row) (c : Int) (r : Rw.Row) (hr : Rw.right r) (hlt : c < r.1) (hq : C.isC r.1 = true ∨ Rw.quiet r = true) :
    Rw.step (out, c, []) (Rw.line r) = some (if Rw.quiet r then out else out ++ [r], r.1, []) := by
  unfold Rw.step
  rw [Rw.line_fields, Rw.row_fields r hr, Option.bind_some, if_pos hlt]
  have : Rw.ranged [] ((Rw.fields r).getD 1 []) (Rw.quiet r) = some [] := by
    show Rw.ranged [] [88] (Rw.quiet r) = some []
    unfold Rw.ranged
    rw [if_neg (by decide), if_neg (by decide)]
  show (Rw.ranged [] ((Rw.fields r).getD 1 []) (Rw.quiet r)).bind _ = _
  rw [this, Option.bind_some, if_pos hq]
/-- Rows that rise. -/
def Rw.rise : Int → List Rw.Row → Prop
  | _, [] => True
  | c, r :: l => c < r.1 ∧ Rw.rise r.1 l
theorem Rw.steps_lines : ∀ (l : List Rw.Row) (out : List Rw.Row) (c : Int), (∀ r ∈ l, Rw.right r ∧ (C.isC r.1 = true ∨ Rw.quiet r = true)) → Rw.rise c l →
    ∃ c', Rw.steps (out, c, []) (l.map Rw.line) = some (out ++ l.filter (fun r => !Rw.quiet r), c', [])
  | [], out, c, _, _ => ⟨c, by simp [Rw.steps]⟩
  | r :: l, out, c, h, hr => by
    obtain ⟨h1, h2⟩ := h r List.mem_cons_self
    rw [List.map_cons, Rw.steps, Rw.step_line out c r h1 hr.1 h2, Option.bind_some]
    obtain ⟨c', hc'⟩ := Rw.steps_lines l (if Rw.quiet r then out else out ++ [r]) r.1 (fun q hq => h q (List.mem_cons_of_mem _ hq)) hr.2
    refine ⟨c', ?_⟩
    rw [hc', List.filter_cons]
    by_cases hq : Rw.quiet r = true
    · simp [hq]
    · simp [hq]
/-- The text of rows that rise is read back. -/
theorem Rw.parse_lines (l : List Rw.Row) (h : ∀ r ∈ l, Rw.right r ∧ (C.isC r.1 = true ∨ Rw.quiet r = true)) (hr : Rw.rise (-1) l) (hl : l.length ≤ 40000) :
    Rw.parse ((l.map Rw.line).flatMap fun x => x ++ [10]) = some (l.filter fun r => !Rw.quiet r) := by
  have hn : Rw.lns [] ((l.map Rw.line).flatMap fun x => x ++ [10]) = l.map Rw.line := Rw.lns_text _ fun x hx => by
    obtain ⟨r, hm, rfl⟩ := List.mem_map.1 hx
    exact Rw.line_no r (h r hm).1
  obtain ⟨c', hc'⟩ := Rw.steps_lines l [] (-1) h hr
  have hall : (l.map Rw.line).all Rw.okl = true := by
    rw [List.all_eq_true]
    intro x hx
    obtain ⟨r, hm, rfl⟩ := List.mem_map.1 hx
    exact Rw.line_ok r (h r hm).1
  unfold Rw.parse
  rw [hn, if_pos ⟨hall, by rw [List.length_map]; exact hl⟩, hc']
  rfl
end Go.Proofs.YtppmcnpjglackaaGreatDoor

/- Layer excl, plain: characters of lines, with notes and blanks; no program in sight. -/
namespace Go.Proofs.YtppmcnpjglackaaGreatDoor
open Go.RowKit Go.Stop
set_option linter.unusedSimpArgs false
set_option linter.unusedVariables false

/-- What a line adds. -/
def Ex.line (seen : List Int) (l : List UInt8) : Option (List Int) :=
  if Fi.strip l = [] then some seen else (Fi.hex (Fi.strip l)).bind fun c => if C.isC c = true ∧ c ∉ seen then some (seen ++ [c]) else none
def Ex.steps : List Int → List (List UInt8) → Option (List Int)
  | seen, [] => some seen
  | seen, l :: r => (Ex.line seen l).bind fun s => Ex.steps s r
def Ex.parse (s : List UInt8) : Option (List Int) := if (Rw.lns [] s).all Rw.okl = true ∧ (Rw.lns [] s).length ≤ 100000 then Ex.steps [] (Rw.lns [] s) else none
theorem Ex.steps_app : ∀ (a b : List (List UInt8)) (s : List Int), Ex.steps s (a ++ b) = (Ex.steps s a).bind fun s' => Ex.steps s' b
  | [], b, s => rfl
  | l :: a, b, s => by
    rw [List.cons_append, Ex.steps, Ex.steps]
    rcases Ex.line s l with _ | s'
    · rfl
    · exact Ex.steps_app a b s'
theorem Ex.steps_take {s0 sf s : List Int} {L : List (List UInt8)} {k : Nat} {x : List UInt8} (h : Ex.steps s0 L = some sf) (hx : L[k]? = some x) (hs : Ex.steps s0 (L.take k) = some s) :
    ∃ s', Ex.line s x = some s' ∧ Ex.steps s0 (L.take (k + 1)) = some s' := by
  have hk := (List.getElem?_eq_some_iff.1 hx).1
  have e : L.take k ++ x :: L.drop (k + 1) = L := by
    have := List.take_append_drop k L
    rw [List.drop_eq_getElem_cons hk] at this
    rw [List.getElem?_eq_getElem hk, Option.some.injEq] at hx
    rw [hx] at this
    exact this
  rw [← e, Ex.steps_app, hs, Option.bind_some, Ex.steps] at h
  rcases hst : Ex.line s x with _ | s'
  · rw [hst] at h; cases h
  · refine ⟨s', rfl, ?_⟩
    rw [List.take_add_one, hx, Ex.steps_app, hs]
    show Ex.steps s [x] = some s'
    rw [Ex.steps, hst]
    rfl
theorem Ex.line_some {s s' : List Int} {l : List UInt8} (h : Ex.line s l = some s') : (Fi.strip l = [] ∧ s' = s) ∨ ∃ c, Fi.strip l ≠ [] ∧ Fi.hex (Fi.strip l) = some c ∧ C.isC c = true ∧ c ∉ s ∧ s' = s ++ [c] := by
  unfold Ex.line at h
  split at h
  · rename_i h0
    simp only [Option.some.injEq] at h
    exact .inl ⟨h0, h.symm⟩
  · rename_i h0
    rcases hc : Fi.hex (Fi.strip l) with _ | c
    · rw [hc] at h; cases h
    · rw [hc, Option.bind_some] at h
      split at h
      · rename_i h1
        simp only [Option.some.injEq] at h
        exact .inr ⟨c, h0, rfl, h1.1, h1.2, h.symm⟩
      · cases h
theorem Ex.steps_len : ∀ (L : List (List UInt8)) {s s' : List Int}, Ex.steps s L = some s' → s'.length ≤ s.length + L.length
  | [], s, s', h => by
    rw [Ex.steps, Option.some.injEq] at h
    subst h
    simp
  | x :: L, s, s', h => by
    rw [Ex.steps] at h
    rcases hs : Ex.line s x with _ | q
    · rw [hs] at h; cases h
    · rw [hs, Option.bind_some] at h
      have h2 := Ex.steps_len L h
      rcases Ex.line_some hs with ⟨_, rfl⟩ | ⟨c, _, _, _, _, rfl⟩
      · simp; omega
      · simp at h2 ⊢; omega

theorem Ex.cut_hit (a r : List UInt8) (h : (35 : UInt8) ∉ a) : (Lib.cut (a ++ 35 :: r) [35]).1 = a := by
  have := Fi.cut_head 35 (a ++ 35 :: r)
  rw [Fi.spl_hit 35 a r h, List.head?_cons, Option.some.injEq] at this
  exact this.symm
theorem Ex.cut_miss (a : List UInt8) (h : (35 : UInt8) ∉ a) : (Lib.cut a [35]).1 = a := by
  have := Fi.cut_head 35 a
  rw [Fi.spl_miss 35 a h, List.head?_cons, Option.some.injEq] at this
  exact this.symm
theorem Ex.trim_pad (i : Nat) (t : List UInt8) (x y : UInt8) (m : List UInt8) (ht : t = x :: m) (hx : x ≠ 32) (hy : t.getLast? = some y) (hy2 : y ≠ 32) : ∀ j, Lib.trimB (List.replicate i 32 ++ (t ++ List.replicate j 32)) 32 = t := by
  intro j
  rw [Fi.trim_comm]
  have h1 : Lib.trimLeftB (List.replicate i 32 ++ (t ++ List.replicate j 32)) 32 = t ++ List.replicate j 32 := by
    unfold Lib.trimLeftB
    induction i with
    | zero => rw [ht]; simp [List.dropWhile_cons, hx]
    | succ i ih => rw [List.replicate_succ, List.cons_append, List.dropWhile_cons]; simpa using ih
  rw [h1]
  induction j with
  | zero =>
    rcases List.eq_nil_or_concat t with h | ⟨q, z, h⟩
    · rw [h] at hy; cases hy
    · rw [List.concat_eq_append] at h
      rw [h, List.getLast?_append] at hy
      simp at hy
      subst hy
      rw [List.replicate_zero, List.append_nil, h]
      exact Fi.trimR_stop 32 q z hy2
  | succ j ih =>
    rw [List.replicate_succ', ← List.append_assoc, Fi.trimR_snoc]
    exact ih (by
      unfold Lib.trimLeftB
      clear h1 ih
      induction i with
      | zero => rw [ht]; simp [List.dropWhile_cons, hx]
      | succ i ih => rw [List.replicate_succ, List.cons_append, List.dropWhile_cons]; simpa using ih)
theorem Ex.text_ends (n : Nat) : ∃ x m y, Fi.text n = x :: m ∧ x ≠ 32 ∧ (Fi.text n).getLast? = some y ∧ y ≠ 32 := by
  rcases h : Fi.text n with _ | ⟨x, m⟩
  · exact absurd h (Rw.text_ne n)
  · have hb := Rw.text_bytes n
    rw [h] at hb
    obtain ⟨y, hy⟩ : ∃ y, (x :: m).getLast? = some y := ⟨_, List.getLast?_eq_some_getLast (by simp)⟩
    refine ⟨x, m, y, rfl, ?_, hy, ?_⟩
    · rintro rfl; have := (hb 32 List.mem_cons_self).1; exact absurd this (by decide)
    · rintro rfl; have := (hb 32 (List.mem_of_getLast? hy)).1; exact absurd this (by decide)
theorem Ex.text_no35 (n : Nat) : (35 : UInt8) ∉ Fi.text n := Rw.text_no n 35 (.inl (by decide))
/-- A character's line, with blanks and a note. -/
def Ex.ln (p : List UInt8) (i : Nat) (c : Int) : List UInt8 := (if i % 2 = 0 then [32, 32] else []) ++ (Fi.text c.toNat ++ ([32, 32, 35] ++ p))
theorem Ex.strip_ln (p : List UInt8) (i : Nat) (c : Int) : Fi.strip (Ex.ln p i c) = Fi.text c.toNat := by
  obtain ⟨x, m, y, h1, h2, h3, h4⟩ := Ex.text_ends c.toNat
  have hp : ∀ k, Fi.strip (List.replicate k 32 ++ (Fi.text c.toNat ++ ([32, 32, 35] ++ p))) = Fi.text c.toNat := by
    intro k
    unfold Fi.strip
    have e : List.replicate k 32 ++ (Fi.text c.toNat ++ ([32, 32, 35] ++ p)) = (List.replicate k 32 ++ (Fi.text c.toNat ++ List.replicate 2 32)) ++ 35 :: p := by simp
    rw [e, Ex.cut_hit _ _ (by
      intro h
      simp only [List.mem_append, List.mem_replicate] at h
      rcases h with h | h | h
      · exact absurd h.2 (by decide)
      · exact Ex.text_no35 _ h
      · exact absurd h.2 (by decide))]
    exact Ex.trim_pad k _ x y m h1 h2 h3 h4 2
  unfold Ex.ln
  split
  · exact hp 2
  · exact hp 0
theorem Ex.strip_note (p : List UInt8) : Fi.strip (35 :: p) = [] := by
  unfold Fi.strip
  rw [show (35 :: p : List UInt8) = [] ++ 35 :: p from rfl, Ex.cut_hit _ _ (by simp)]
  rfl
theorem Ex.strip_none : Fi.strip [] = [] := by
  unfold Fi.strip
  rw [Ex.cut_miss [] (by simp)]
  rfl
theorem Ex.strip_blank : Fi.strip [32, 32, 32] = [] := by
  unfold Fi.strip
  rw [Ex.cut_miss _ (by decide)]
  rfl
def Ex.body (p : List UInt8) : Nat → List Int → List (List UInt8)
  | _, [] => []
  | i, c :: r => Ex.ln p i c :: [32, 32, 32] :: Ex.body p (i + 1) r
theorem Ex.body_snoc (p : List UInt8) : ∀ (l : List Int) (i : Nat) (c : Int), Ex.body p i (l ++ [c]) = Ex.body p i l ++ [Ex.ln p (i + l.length) c, [32, 32, 32]]
  | [], i, c => rfl
  | a :: l, i, c => by
    rw [List.cons_append, Ex.body, Ex.body_snoc p l (i + 1) c, Ex.body]
    simp [Nat.add_assoc, Nat.add_comm 1]
theorem Ex.steps_body (p : List UInt8) : ∀ (l : List Int) (i : Nat) (seen : List Int), (∀ c ∈ l, C.isC c = true) → l.Nodup → (∀ c ∈ l, c ∉ seen) → Ex.steps seen (Ex.body p i l) = some (seen ++ l)
  | [], i, seen, _, _, _ => by simp [Ex.body, Ex.steps]
  | c :: l, i, seen, h1, h2, h3 => by
    have hc := h1 c List.mem_cons_self
    have hc' : 0 ≤ c ∧ c ≤ 1114111 := by
      unfold C.isC at hc
      have := of_decide_eq_true hc
      omega
    have hl : Ex.line seen (Ex.ln p i c) = some (seen ++ [c]) := by
      unfold Ex.line
      rw [Ex.strip_ln, if_neg (Rw.text_ne _), Fi.hex_text _ (by omega), Option.bind_some, Rw.nat_cast hc'.1, if_pos ⟨hc, h3 c List.mem_cons_self⟩]
    have hb : Ex.line (seen ++ [c]) [32, 32, 32] = some (seen ++ [c]) := by
      unfold Ex.line
      rw [Ex.strip_blank, if_pos rfl]
    rw [Ex.body, Ex.steps, hl, Option.bind_some, Ex.steps, hb, Option.bind_some, Ex.steps_body p l (i + 1) (seen ++ [c]) (fun d hd => h1 d (List.mem_cons_of_mem _ hd)) (List.nodup_cons.1 h2).2 (fun d hd hm => by
      rcases List.mem_append.1 hm with h | h
      · exact h3 d (List.mem_cons_of_mem _ hd) h
      · rw [List.mem_singleton] at h
        subst h
        exact (List.nodup_cons.1 h2).1 hd)]
    simp
/-- The whole text's lines. -/
def Ex.all (p : List UInt8) (l : List Int) : List (List UInt8) := ([35, 32] ++ p) :: [] :: Ex.body p 0 l
def Ex.txt (L : List (List UInt8)) : List UInt8 := L.flatMap fun x => x ++ [10]
theorem Ex.txt_app (a b : List (List UInt8)) : Ex.txt (a ++ b) = Ex.txt a ++ Ex.txt b := by simp [Ex.txt]
theorem Ex.ok_of {x : List UInt8} (h1 : x.length ≤ 1000) (h2 : ∀ b ∈ x, 32 ≤ b.toNat ∧ b.toNat ≤ 126) : Rw.okl x = true := by
  unfold Rw.okl Rw.plainL
  rw [Bool.and_eq_true, decide_eq_true_eq, List.all_eq_true]
  refine ⟨h1, fun b hb => ?_⟩
  rw [Bool.and_eq_true, decide_eq_true_eq, decide_eq_true_eq]
  exact h2 b hb
theorem Ex.plain_bytes {p : List UInt8} (h : Rw.plainL p = true) : ∀ b ∈ p, 32 ≤ b.toNat ∧ b.toNat ≤ 126 := by
  unfold Rw.plainL at h
  rw [List.all_eq_true] at h
  intro b hb
  have := h b hb
  rw [Bool.and_eq_true, decide_eq_true_eq, decide_eq_true_eq] at this
  exact this
theorem Ex.ln_ok {p : List UInt8} (hp : Rw.plainL p = true) (hl : p.length ≤ 100) (i : Nat) (c : Int) (hc : 0 ≤ c ∧ c ≤ 1114111) : Rw.okl (Ex.ln p i c) = true := by
  have ht := Fi.text_le c.toNat (by omega)
  refine Ex.ok_of ?_ ?_
  · unfold Ex.ln
    split <;> simp <;> omega
  · intro b hb
    unfold Ex.ln at hb
    simp only [List.mem_append] at hb
    rcases hb with hb | hb | hb | hb
    · split at hb
      · simp at hb; subst hb; decide
      · cases hb
    · have := Rw.text_bytes _ b hb; omega
    · simp at hb; rcases hb with rfl | rfl <;> decide
    · exact Ex.plain_bytes hp b hb
theorem Ex.body_ok {p : List UInt8} (hp : Rw.plainL p = true) (hl : p.length ≤ 100) : ∀ (l : List Int) (i : Nat), (∀ c ∈ l, 0 ≤ c ∧ c ≤ 1114111) → ∀ x ∈ Ex.body p i l, Rw.okl x = true
  | [], i, _, x, hx => by cases hx
  | c :: l, i, h, x, hx => by
    rw [Ex.body] at hx
    rcases List.mem_cons.1 hx with rfl | hx
    · exact Ex.ln_ok hp hl i c (h c List.mem_cons_self)
    · rcases List.mem_cons.1 hx with rfl | hx
      · decide
      · exact Ex.body_ok hp hl l (i + 1) (fun d hd => h d (List.mem_cons_of_mem _ hd)) x hx
theorem Ex.body_len (p : List UInt8) : ∀ (l : List Int) (i : Nat), (Ex.body p i l).length = 2 * l.length
  | [], i => rfl
  | c :: l, i => by rw [Ex.body, List.length_cons, List.length_cons, Ex.body_len p l (i + 1), List.length_cons]; omega
theorem Ex.ok_no {x : List UInt8} (h : Rw.okl x = true) : (10 : UInt8) ∉ x := fun hm => by
  unfold Rw.okl Rw.plainL at h
  rw [Bool.and_eq_true, List.all_eq_true] at h
  exact absurd (h.2 10 hm) (by decide)
theorem Ex.parse_all {p : List UInt8} (hp : Rw.plainL p = true) (hl : p.length ≤ 100) (l : List Int) (h1 : ∀ c ∈ l, C.isC c = true) (h2 : l.Nodup) (hn : l.length ≤ 1000) : Ex.parse (Ex.txt (Ex.all p l)) = some l := by
  have hb : ∀ c ∈ l, 0 ≤ c ∧ c ≤ 1114111 := fun c hc => by
    have := h1 c hc
    unfold C.isC at this
    have := of_decide_eq_true this
    omega
  have hok : ∀ x ∈ Ex.all p l, Rw.okl x = true := by
    intro x hx
    unfold Ex.all at hx
    rcases List.mem_cons.1 hx with rfl | hx
    · refine Ex.ok_of (by simp; omega) ?_
      intro b hb
      rcases List.mem_append.1 hb with h | h
      · simp at h; rcases h with rfl | rfl <;> decide
      · exact Ex.plain_bytes hp b h
    · rcases List.mem_cons.1 hx with rfl | hx
      · decide
      · exact Ex.body_ok hp hl l 0 hb x hx
  have hlns : Rw.lns [] (Ex.txt (Ex.all p l)) = Ex.all p l := Rw.lns_text _ fun x hx => Ex.ok_no (hok x hx)
  unfold Ex.parse
  rw [hlns, if_pos ⟨by rw [List.all_eq_true]; exact hok, by unfold Ex.all; simp [Ex.body_len]; omega⟩]
  unfold Ex.all
  have e1 : Ex.line [] ([35, 32] ++ p) = some [] := by
    unfold Ex.line
    rw [show ([35, 32] ++ p : List UInt8) = 35 :: (32 :: p) from rfl, Ex.strip_note, if_pos rfl]
  have e2 : Ex.line [] [] = some [] := by
    unfold Ex.line
    rw [Ex.strip_none, if_pos rfl]
  rw [Ex.steps, e1, Option.bind_some, Ex.steps, e2, Option.bind_some, Ex.steps_body p l 0 [] h1 h2 (fun c _ => by simp)]
  simp
end Go.Proofs.YtppmcnpjglackaaGreatDoor
