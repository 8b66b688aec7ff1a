/- Layer rows, plain: a text's lines, the row of a line, what a line turns; no program in sight. -/
import Derived.Test.YtppmcnpjglackaaDoorFiNumPlain
import Derived.Test.YtppmcnpjglackaaDoorCpPlainD
namespace Go.Proofs.YtppmcnpjglackaaDoor
open Go.RowKit Go.Stop
set_option linter.unusedSimpArgs false
set_option linter.unusedVariables false

/-- A text's lines; w: what of the first one has come already. -/
def Rw.lns : List UInt8 → List UInt8 → List (List UInt8)
  | w, [] => if w = [] then [] else [w]
  | w, b :: r => if b = 10 then w :: Rw.lns [] r else Rw.lns (w ++ [b]) r
theorem Rw.lns_app : ∀ (a w r : List UInt8), (10 : UInt8) ∉ a → Rw.lns w (a ++ r) = Rw.lns (w ++ a) r
  | [], w, r, _ => by simp
  | b :: a, w, r, h => by
    have hb : b ≠ 10 := fun e => h (by rw [e]; exact List.mem_cons_self)
    rw [List.cons_append, Rw.lns, if_neg hb, Rw.lns_app a _ r (fun h' => h (List.mem_cons_of_mem _ h')), List.append_assoc]
    rfl
theorem Rw.lns_hit (a r : List UInt8) (h : (10 : UInt8) ∉ a) : Rw.lns [] (a ++ 10 :: r) = a :: Rw.lns [] r := by
  rw [Rw.lns_app a [] _ h, Rw.lns, if_pos rfl]; rfl
theorem Rw.lns_miss (a : List UInt8) (h : (10 : UInt8) ∉ a) (hne : a ≠ []) : Rw.lns [] a = [a] := by
  have := Rw.lns_app a [] [] h
  rw [List.append_nil] at this
  rw [this, List.nil_append, Rw.lns, if_neg hne]
theorem Rw.lns_text : ∀ (l : List (List UInt8)), (∀ x ∈ l, (10 : UInt8) ∉ x) → Rw.lns [] (l.flatMap fun x => x ++ [10]) = l
  | [], _ => rfl
  | x :: l, h => by
    rw [List.flatMap_cons, List.append_assoc, List.singleton_append, Rw.lns_hit _ _ (h x List.mem_cons_self), Rw.lns_text l fun y hy => h y (List.mem_cons_of_mem _ hy)]
theorem Rw.lns_len : ∀ (l w : List UInt8), (Rw.lns w l).length ≤ l.length + 1
  | [], w => by unfold Rw.lns; split <;> simp
  | b :: r, w => by
    unfold Rw.lns
    split
    · have := Rw.lns_len r []; simp; omega
    · have := Rw.lns_len r (w ++ [b]); simp; omega

/-- May it be a line? -/
def Rw.plainL (x : List UInt8) : Bool := x.all fun b => decide (32 ≤ b.toNat) && decide (b.toNat ≤ 126)
def Rw.okl (x : List UInt8) : Bool := decide (x.length ≤ 1000) && Rw.plainL x

abbrev Rw.Row := Int × Int × List Int
/-- A field's mapping. -/
def Rw.mp (f : List UInt8) : Option (List Int) :=
  if f = [] ∨ f.head? = some 60 then some []
  else if (Fi.spl 32 [] f).all (fun x => (Fi.hex x).isSome) = true ∧ (Fi.spl 32 [] f).length ≤ 2 then some ((Fi.spl 32 [] f).map fun x => (Fi.hex x).getD 0)
  else none
/-- The row of a line's fields. -/
def Rw.row (F : List (List UInt8)) : Option Rw.Row :=
  if F.length = 15 ∧ F.getD 1 [] ≠ [] then
    (Fi.hex (F.getD 0 [])).bind fun c => (Fi.num (F.getD 3 []) 254).bind fun k => (Rw.mp (F.getD 5 [])).map fun m => (c, k, m)
  else none
def Rw.quiet (r : Rw.Row) : Bool := decide (r.2.1 = 0) && decide (r.2.2.length = 0)
def Rw.first : List UInt8 := [44, 32, 70, 105, 114, 115, 116, 62]
def Rw.last : List UInt8 := [44, 32, 76, 97, 115, 116, 62]
def Rw.ends (s e : List UInt8) : Bool := decide (e.length ≤ s.length) && (s.drop (s.length - e.length) == e)
def Rw.cutE (s e : List UInt8) : List UInt8 := if Rw.ends s e then s.take (s.length - e.length) else s
/-- The range that is open behind a row. -/
def Rw.ranged (was name : List UInt8) (q : Bool) : Option (List UInt8) :=
  if was ≠ [] ∨ Rw.ends name Rw.last = true then (if Rw.ends name Rw.last = true ∧ Rw.cutE name Rw.last ++ Rw.first = was ∧ q = true then some [] else none)
  else if Rw.ends name Rw.first = true then (if q then some (Rw.cutE name Rw.first ++ Rw.first) else none)
  else some []
abbrev Rw.St := List Rw.Row × Int × List UInt8
/-- What a line turns. -/
def Rw.step (st : Rw.St) (l : List UInt8) : Option Rw.St :=
  (Rw.row (Fi.spl 59 [] l)).bind fun r =>
    if st.2.1 < r.1 then (Rw.ranged st.2.2 ((Fi.spl 59 [] l).getD 1 []) (Rw.quiet r)).bind fun o =>
      if C.isC r.1 = true ∨ Rw.quiet r = true then some (if Rw.quiet r then st.1 else st.1 ++ [r], r.1, o) else none
    else none
def Rw.steps : Rw.St → List (List UInt8) → Option Rw.St
  | st, [] => some st
  | st, l :: r => (Rw.step st l).bind fun st' => Rw.steps st' r
theorem Rw.steps_app : ∀ (a b : List (List UInt8)) (st : Rw.St), Rw.steps st (a ++ b) = (Rw.steps st a).bind fun st' => Rw.steps st' b
  | [], b, st => rfl
  | l :: a, b, st => by
    rw [List.cons_append, Rw.steps, Rw.steps]
    rcases Rw.step st l with _ | st'
    · rfl
    · exact Rw.steps_app a b st'
/-- The rows of a text. -/
def Rw.parse (s : List UInt8) : Option (List Rw.Row) :=
  if (Rw.lns [] s).all Rw.okl = true ∧ (Rw.lns [] s).length ≤ 40000 then (Rw.steps ([], -1, []) (Rw.lns [] s)).bind fun st => if st.2.2 = [] then some st.1 else none
  else none

/-- A row's line. -/
def Rw.line (r : Rw.Row) : List UInt8 :=
  Fi.text r.1.toNat ++ ([59, 88, 59, 59] ++ (Lib.decDigits r.2.1.toNat ++ ([59, 59] ++ (Fi.glue 32 (r.2.2.map fun c => Fi.text c.toNat) ++ [59, 59, 59, 59, 59, 59, 59, 59, 59]))))
def Rw.fields (r : Rw.Row) : List (List UInt8) :=
  [Fi.text r.1.toNat, [88], [], Lib.decDigits r.2.1.toNat, [], Fi.glue 32 (r.2.2.map fun c => Fi.text c.toNat), [], [], [], [], [], [], [], [], []]
def Rw.right (r : Rw.Row) : Prop := 0 ≤ r.1 ∧ r.1 ≤ 1114111 ∧ 0 ≤ r.2.1 ∧ r.2.1 ≤ 254 ∧ r.2.2.length ≤ 2 ∧ ∀ c ∈ r.2.2, 0 ≤ c ∧ c ≤ 1114111

theorem Rw.up_bytes : ∀ d : Fin 16, 48 ≤ (Fi.up d.val).toNat ∧ (Fi.up d.val).toNat ≤ 70 ∧ (Fi.up d.val) ≠ 59 := by decide
theorem Rw.text_bytes (n : Nat) : ∀ b ∈ Fi.text n, 48 ≤ b.toNat ∧ b.toNat ≤ 70 ∧ b ≠ 59 := by
  intro b hb
  unfold Fi.text at hb
  obtain ⟨d, hd, rfl⟩ := List.mem_map.1 hb
  exact Rw.up_bytes ⟨d, Fi.low_lt _ _ d hd⟩
theorem Rw.text_no (n : Nat) (c : UInt8) (h : c.toNat < 48 ∨ c = 59) : c ∉ Fi.text n := fun hb => by
  have := Rw.text_bytes n c hb
  rcases h with h | h
  · omega
  · exact this.2.2 h
theorem Rw.up_low : ∀ d : Fin 16, Fi.up d.val ≠ 60 := by decide
theorem Rw.text_low (n : Nat) : ∀ b ∈ Fi.text n, b ≠ 60 := by
  intro b hb
  unfold Fi.text at hb
  obtain ⟨d, hd, rfl⟩ := List.mem_map.1 hb
  exact Rw.up_low ⟨d, Fi.low_lt _ _ d hd⟩
theorem Rw.text_ne (n : Nat) : Fi.text n ≠ [] := fun h => by
  have := Fi.text_len n
  rw [h, List.length_nil] at this
  omega
theorem Rw.dec_bytes (n : Nat) : ∀ b ∈ Lib.decDigits n, 48 ≤ b.toNat ∧ b.toNat ≤ 57 := by
  intro b hb
  have := Fi.dec_digits n b hb
  unfold Fi.isD at this
  rw [Bool.and_eq_true, decide_eq_true_eq, decide_eq_true_eq] at this
  exact this
theorem Rw.dec_no (n : Nat) (c : UInt8) (h : c.toNat < 48 ∨ 57 < c.toNat) : c ∉ Lib.decDigits n := fun hb => by
  have := Rw.dec_bytes n c hb
  omega
theorem Rw.spl_glue (c : UInt8) : ∀ (l : List (List UInt8)) (x : List UInt8), c ∉ x → (∀ y ∈ l, c ∉ y) → Fi.spl c [] (Fi.glue c (x :: l)) = x :: l
  | [], x, hx, _ => by simp [Fi.glue]; exact Fi.spl_miss c x hx
  | y :: l, x, hx, h => by
    have e : Fi.glue c (x :: y :: l) = x ++ c :: Fi.glue c (y :: l) := by simp [Fi.glue]
    rw [e, Fi.spl_hit c _ _ hx, Rw.spl_glue c l y (h y List.mem_cons_self) fun z hz => h z (List.mem_cons_of_mem _ hz)]
theorem Rw.glue_bytes (c : UInt8) : ∀ (l : List (List UInt8)), ∀ b ∈ Fi.glue c l, b = c ∨ ∃ x ∈ l, b ∈ x
  | [], b, h => by simp [Fi.glue] at h
  | x :: l, b, h => by
    simp only [Fi.glue, List.mem_append, List.mem_flatten, List.mem_map] at h
    rcases h with h | ⟨y, ⟨z, hz, rfl⟩, hb⟩
    · exact .inr ⟨x, List.mem_cons_self, h⟩
    · rcases List.mem_cons.1 hb with h | h
      · exact .inl h
      · exact .inr ⟨z, List.mem_cons_of_mem _ hz, h⟩
theorem Rw.map_bytes (m : List Int) : ∀ b ∈ Fi.glue 32 (m.map fun c => Fi.text c.toNat), b = 32 ∨ (48 ≤ b.toNat ∧ b.toNat ≤ 70 ∧ b ≠ 59) := by
  intro b hb
  rcases Rw.glue_bytes 32 _ b hb with h | ⟨x, hx, hbx⟩
  · exact .inl h
  · obtain ⟨c, _, rfl⟩ := List.mem_map.1 hx
    exact .inr (Rw.text_bytes _ b hbx)
theorem Rw.line_fields (r : Rw.Row) : Fi.spl 59 [] (Rw.line r) = Rw.fields r := by
  have hm : (59 : UInt8) ∉ Fi.glue 32 (r.2.2.map fun c => Fi.text c.toNat) := fun h => by
    rcases Rw.map_bytes _ _ h with h | h
    · exact absurd h (by decide)
    · exact h.2.2 rfl
  unfold Rw.line Rw.fields
  rw [show ∀ x : List UInt8, [59, 88, 59, 59] ++ x = 59 :: ([88] ++ 59 :: ([] ++ 59 :: x)) from fun _ => rfl, Fi.spl_hit 59 _ _ (Rw.text_no _ _ (.inr rfl)), Fi.spl_hit 59 _ _ (by decide), Fi.spl_hit 59 _ _ (by decide),
    show ∀ x : List UInt8, [59, 59] ++ x = 59 :: ([] ++ 59 :: x) from fun _ => rfl, Fi.spl_hit 59 _ _ (Rw.dec_no _ _ (.inr (by decide))), Fi.spl_hit 59 _ _ (by decide), Fi.spl_hit 59 _ _ hm]
  rfl
theorem Rw.line_ok (r : Rw.Row) (hr : Rw.right r) : Rw.okl (Rw.line r) = true := by
  obtain ⟨c0, c1, k0, k1, hm, hc⟩ := hr
  have l1 := Fi.text_le r.1.toNat (by omega)
  have l2 := Fi.dec_len 9 r.2.1.toNat (by rw [show (10 : Nat) ^ (9 + 1) = 10000000000 from by decide]; omega)
  have l3 : (Fi.glue 32 (r.2.2.map fun c => Fi.text c.toNat)).length ≤ 20 := by
    obtain ⟨c, k, m⟩ := r
    rcases m with _ | ⟨a, _ | ⟨b, _ | ⟨d, t⟩⟩⟩
    · simp [Fi.glue]
    · have := Fi.text_le a.toNat (by have := (hc a (by simp)).2; omega)
      simp [Fi.glue]; omega
    · have h1 := Fi.text_le a.toNat (by have := (hc a (by simp)).2; omega)
      have h2 := Fi.text_le b.toNat (by have := (hc b (by simp)).2; omega)
      simp [Fi.glue]; omega
    · simp at hm
  unfold Rw.okl
  rw [Bool.and_eq_true, decide_eq_true_eq]
  refine ⟨?_, ?_⟩
  · unfold Rw.line
    simp only [List.length_append, List.length_cons, List.length_nil]
    omega
  · unfold Rw.plainL
    rw [List.all_eq_true]
    have key : ∀ b : UInt8, (b = 32 ∨ b = 59 ∨ b = 88 ∨ (48 ≤ b.toNat ∧ b.toNat ≤ 70)) → (decide (32 ≤ b.toNat) && decide (b.toNat ≤ 126)) = true := by
      intro b hb
      rw [Bool.and_eq_true, decide_eq_true_eq, decide_eq_true_eq]
      rcases hb with rfl | rfl | rfl | hb
      · decide
      · decide
      · decide
      · omega
    intro b hb
    apply key
    unfold Rw.line at hb
    simp only [List.mem_append] at hb
    rcases hb with hb | hb | hb | hb | hb | hb
    · have := Rw.text_bytes _ b hb; exact .inr (.inr (.inr ⟨this.1, this.2.1⟩))
    · simp at hb; rcases hb with rfl | rfl | rfl | rfl <;> simp
    · have := Rw.dec_bytes _ b hb; exact .inr (.inr (.inr ⟨this.1, by omega⟩))
    · simp at hb; subst hb; simp
    · rcases Rw.map_bytes _ b hb with h | h
      · exact .inl h
      · exact .inr (.inr (.inr ⟨h.1, h.2.1⟩))
    · simp at hb; subst hb; simp
theorem Rw.line_no (r : Rw.Row) (hr : Rw.right r) : (10 : UInt8) ∉ Rw.line r := fun h => by
  have := Rw.line_ok r hr
  unfold Rw.okl Rw.plainL at this
  rw [Bool.and_eq_true, List.all_eq_true] at this
  exact absurd (this.2 10 h) (by decide)
theorem Rw.nat_cast {c : Int} (h : 0 ≤ c) : ((c.toNat : Nat) : Int) = c := by omega
theorem Rw.mp_glue (m : List Int) (hm : m.length ≤ 2) (hc : ∀ c ∈ m, 0 ≤ c ∧ c ≤ 1114111) : Rw.mp (Fi.glue 32 (m.map fun c => Fi.text c.toNat)) = some m := by
  rcases m with _ | ⟨a, t⟩
  · simp [Fi.glue, Rw.mp]
  · have hs : Fi.spl 32 [] (Fi.glue 32 ((a :: t).map fun c => Fi.text c.toNat)) = (a :: t).map fun c => Fi.text c.toNat :=
      Rw.spl_glue 32 _ _ (Rw.text_no _ _ (.inl (by decide))) fun y hy => by
        obtain ⟨c, _, rfl⟩ := List.mem_map.1 hy
        exact Rw.text_no _ _ (.inl (by decide))
    have hx : ∀ c ∈ a :: t, Fi.hex (Fi.text c.toNat) = some c := fun c hcm => by
      rw [Fi.hex_text _ (by have := (hc c hcm).2; omega), Rw.nat_cast (hc c hcm).1]
    have hne : ¬ (Fi.glue 32 ((a :: t).map fun c => Fi.text c.toNat) = [] ∨ (Fi.glue 32 ((a :: t).map fun c => Fi.text c.toNat)).head? = some 60) := by
      obtain ⟨b, q, hb⟩ : ∃ b q, Fi.text a.toNat = b :: q := by
        rcases h : Fi.text a.toNat with _ | ⟨b, q⟩
        · exact absurd h (Rw.text_ne _)
        · exact ⟨b, q, rfl⟩
      have hbb := Rw.text_low a.toNat b (by rw [hb]; exact List.mem_cons_self)
      rw [List.map_cons, hb]
      simp only [Fi.glue, List.cons_append, List.head?_cons, Option.some.injEq]
      rintro (h | h)
      · cases h
      · subst h; exact hbb rfl
    have hall : (((a :: t).map fun c => Fi.text c.toNat).all fun x => (Fi.hex x).isSome) = true := by
      rw [List.all_eq_true]
      intro x hxm
      obtain ⟨c, hcm, rfl⟩ := List.mem_map.1 hxm
      rw [hx c hcm]
      rfl
    unfold Rw.mp
    rw [if_neg hne, hs, if_pos ⟨hall, by simpa using hm⟩, List.map_map]
    congr 1
    conv => rhs; rw [← List.map_id (a :: t)]
    refine List.map_congr_left fun c hcm => ?_
    show (Fi.hex (Fi.text c.toNat)).getD 0 = c
    rw [hx c hcm]; rfl
theorem Rw.row_fields (r : Rw.Row) (hr : Rw.right r) : Rw.row (Rw.fields r) = some r := by
  obtain ⟨c0, c1, k0, k1, hm, hc⟩ := hr
  unfold Rw.row
  rw [if_pos ⟨rfl, show ([88] : List UInt8) ≠ [] from by decide⟩]
  show (Fi.hex (Fi.text r.1.toNat)).bind (fun c => (Fi.num (Lib.decDigits r.2.1.toNat) 254).bind fun k => (Rw.mp (Fi.glue 32 (r.2.2.map fun c => Fi.text c.toNat))).map fun m => (c, k, m)) = _
  rw [Fi.hex_text _ (by omega), Fi.isNum_dec _ _ (by omega), Rw.mp_glue _ hm hc, Rw.nat_cast c0, Rw.nat_cast k0]
  rfl
/-- A row's line, behind others that rise. -/
theorem Rw.step_line (out : List Rw.Row) (c : Int) (r : Rw.Row) (hr : Rw.right r) (hlt : c < r.1) (hq : C.isC r.1 = true ∨ Rw.quiet r = true) :
    Rw.step (out, c, []) (Rw.line r) = some (if Rw.quiet r then out else out ++ [r], r.1, []) := by
  unfold Rw.step
  rw [Rw.line_fields, Rw.row_fields r hr, Option.bind_some, if_pos hlt]
  have : Rw.ranged [] ((Rw.fields r).getD 1 []) (Rw.quiet r) = some [] := by
    show Rw.ranged [] [88] (Rw.quiet r) = some []
    unfold Rw.ranged
    rw [if_neg (by decide), if_neg (by decide)]
  show (Rw.ranged [] ((Rw.fields r).getD 1 []) (Rw.quiet r)).bind _ = _
  rw [this, Option.bind_some, if_pos hq]
/-- Rows that rise. -/
def Rw.rise : Int → List Rw.Row → Prop
  | _, [] => True
  | c, r :: l => c < r.1 ∧ Rw.rise r.1 l
theorem Rw.steps_lines : ∀ (l : List Rw.Row) (out : List Rw.Row) (c : Int), (∀ r ∈ l, Rw.right r ∧ (C.isC r.1 = true ∨ Rw.quiet r = true)) → Rw.rise c l →
    ∃ c', Rw.steps (out, c, []) (l.map Rw.line) = some (out ++ l.filter (fun r => !Rw.quiet r), c', [])
  | [], out, c, _, _ => ⟨c, by simp [Rw.steps]⟩
  | r :: l, out, c, h, hr => by
    obtain ⟨h1, h2⟩ := h r List.mem_cons_self
    rw [List.map_cons, Rw.steps, Rw.step_line out c r h1 hr.1 h2, Option.bind_some]
    obtain ⟨c', hc'⟩ := Rw.steps_lines l (if Rw.quiet r then out else out ++ [r]) r.1 (fun q hq => h q (List.mem_cons_of_mem _ hq)) hr.2
    refine ⟨c', ?_⟩
    rw [hc', List.filter_cons]
    by_cases hq : Rw.quiet r = true
    · simp [hq]
    · simp [hq]
/-- The text of rows that rise is read back. -/
theorem Rw.parse_lines (l : List Rw.Row) (h : ∀ r ∈ l, Rw.right r ∧ (C.isC r.1 = true ∨ Rw.quiet r = true)) (hr : Rw.rise (-1) l) (hl : l.length ≤ 40000) :
    Rw.parse ((l.map Rw.line).flatMap fun x => x ++ [10]) = some (l.filter fun r => !Rw.quiet r) := by
  have hn : Rw.lns [] ((l.map Rw.line).flatMap fun x => x ++ [10]) = l.map Rw.line := Rw.lns_text _ fun x hx => by
    obtain ⟨r, hm, rfl⟩ := List.mem_map.1 hx
    exact Rw.line_no r (h r hm).1
  obtain ⟨c', hc'⟩ := Rw.steps_lines l [] (-1) h hr
  have hall : (l.map Rw.line).all Rw.okl = true := by
    rw [List.all_eq_true]
    intro x hx
    obtain ⟨r, hm, rfl⟩ := List.mem_map.1 hx
    exact Rw.line_ok r (h r hm).1
  unfold Rw.parse
  rw [hn, if_pos ⟨hall, by rw [List.length_map]; exact hl⟩, hc']
  rfl
end Go.Proofs.YtppmcnpjglackaaDoor
