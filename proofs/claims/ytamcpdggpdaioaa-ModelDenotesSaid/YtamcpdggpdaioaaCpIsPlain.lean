/- The document's Good and Has, by walking their texts. -/
import Derived.Test.YtamcpdggpdaioaaCpArgs
import Derived.Test.YtamcpdggpdaioaaCpPlainE
namespace Go.Proofs.Ytamcpdggpdaioaa
open Go.RowKit
set_option linter.unusedSimpArgs false
set_option linter.unusedVariables false

set_option maxRecDepth 100000 in
theorem C.ris_any (c : Int) (w : World) : Calls Try.prog 41 #[.int .i64 c] w fun e w' => e = .returned (.bool (C.isC c)) ∧ w = w' := by
  obtain ⟨q, hq⟩ : ∃ q, C.isC c = q := ⟨_, rfl⟩
  rw [hq]
  have HQ := Lib.hid hq
  clear hq
  go_enter Try.func41, Try.ntmps41
  by_cases h0 : 0 ≤ c
  · by_cases h1 : c ≤ 1114111
    · by_cases h2 : c < 55296
      · go_wp2
        go_ret
        exact ⟨by rw [← HQ.out]; exact ret_bool (by unfold C.isC; symm; exact decide_eq_true (by omega)), rfl⟩
      · by_cases h3 : 57343 < c
        · go_wp2
          go_ret
          exact ⟨by rw [← HQ.out]; exact ret_bool (by unfold C.isC; symm; exact decide_eq_true (by omega)), rfl⟩
        · go_wp2
          go_ret
          exact ⟨by rw [← HQ.out]; exact ret_bool (by unfold C.isC; symm; exact decide_eq_false (by omega)), rfl⟩
    · go_wp2
      go_ret
      exact ⟨by rw [← HQ.out]; exact ret_bool (by unfold C.isC; symm; exact decide_eq_false (by omega)), rfl⟩
  · go_wp2
    go_ret
    exact ⟨by rw [← HQ.out]; exact ret_bool (by unfold C.isC; symm; exact decide_eq_false (by omega)), rfl⟩

theorem C.inR_take {rs : List (Int × Int)} {i : Nat} {r : Int × Int} (h : rs[i]? = some r) (c : Int) : C.inR (rs.take (i + 1)) c = (C.inR (rs.take i) c || decide (r.1 ≤ c ∧ c ≤ r.2)) := by
  unfold C.inR
  rw [List.take_add_one, h, List.any_append]
  simp

end Go.Proofs.Ytamcpdggpdaioaa

/- The document's Marks, by walking its text. -/
namespace Go.Proofs.Ytamcpdggpdaioaa
open Go.RowKit
set_option linter.unusedSimpArgs false
set_option linter.unusedVariables false

/-- A number put in where it belongs. -/
def C.ins (x : Int) : List Int → List Int
  | [] => [x]
  | y :: t => if x < y then x :: y :: t else if x = y then y :: t else y :: C.ins x t
theorem C.ins_len (x : Int) : ∀ l, (C.ins x l).length ≤ l.length + 1
  | [] => Nat.le_refl _
  | y :: t => by
    unfold C.ins
    split
    · simp
    · split
      · simp
      · have := C.ins_len x t; simp; omega
def C.insF (l : List Int) : List Int := l.foldl (fun o x => C.ins x o) []
theorem C.insF_succ {l : List Int} {i : Nat} {x : Int} (h : l[i]? = some x) : C.insF (l.take (i + 1)) = C.ins x (C.insF (l.take i)) := by
  unfold C.insF
  rw [List.take_add_one, h, List.foldl_append]
  rfl
theorem C.insF_len (l : List Int) : (C.insF l).length ≤ l.length := by
  have : ∀ (l acc : List Int), (l.foldl (fun o x => C.ins x o) acc).length ≤ acc.length + l.length := by
    intro l
    induction l with
    | nil => intro acc; simp
    | cons x t ih => intro acc; have := ih (C.ins x acc); have := C.ins_len x acc; simp at *; omega
  unfold C.insF
  simpa using this l []
/-- What is still to come of it. -/
def C.insR (x : Int) (d : Bool) (l : List Int) : List Int := if d = true then l else C.ins x l
/-- All places that are asked. -/
def C.ends : List (Int × Int) → List Int
  | [] => []
  | (x, y) :: t => x :: (y + 1) :: C.ends t
theorem C.ends_app : ∀ a b, C.ends (a ++ b) = C.ends a ++ C.ends b
  | [], b => rfl
  | (x, y) :: t, b => by show x :: (y + 1) :: C.ends (t ++ b) = _; rw [C.ends_app t b]; rfl
theorem C.ends_len : ∀ a, (C.ends a).length = 2 * a.length
  | [] => rfl
  | (x, y) :: t => by show (C.ends t).length + 1 + 1 = 2 * (t.length + 1); rw [C.ends_len t]; omega
def C.asked (rs : List (Int × Int)) : List Int := C.all ++ C.ends rs
def C.marks (rs : List (Int × Int)) : List Int := C.insF (C.asked rs)

end Go.Proofs.Ytamcpdggpdaioaa

/- The law's Is in plain Lean: ranges made of marks, where a test changes at marks alone. -/
namespace Go.Proofs.Ytamcpdggpdaioaa
set_option linter.unusedSimpArgs false
set_option linter.unusedVariables false

theorem C.mem_snoc : ∀ (l : List Int) (x c : Int), C.srt (l ++ [x]) → C.mem (l ++ [x]) c = (C.mem l c ^^ decide (x ≤ c))
  | [], x, c, _ => by simp [C.mem]
  | y :: t, x, c, h => by
    have ih := C.mem_snoc t x c (C.srt_tail h)
    have hyx := C.srt_head h x (by simp)
    rw [List.cons_append, C.mem_cons, ih, C.mem_cons]
    by_cases hy : y ≤ c
    · rw [decide_eq_true hy]
      cases C.mem t c <;> cases decide (x ≤ c) <;> rfl
    · rw [decide_eq_false hy, decide_eq_false (by omega)]; rfl
theorem C.srt_snoc {l : List Int} {x : Int} (h : C.srt l) (hx : ∀ y ∈ l, y < x) : C.srt (l ++ [x]) := by
  unfold C.srt
  rw [List.pairwise_append]
  exact ⟨h, List.pairwise_singleton _ _, fun a ha b hb => by simp at hb; subst hb; exact hx a ha⟩

/-- From a mark to the next one. -/
def C.step (p : Int → Bool) (acc : List Int) (a b : Int) : List Int :=
  if p a = true then (if acc.getLast? = some a then acc.dropLast ++ [b] else acc ++ [a, b]) else acc
/-- What is known ahead of mark a. -/
def C.upto (p : Int → Bool) (acc : List Int) (a : Int) : Prop :=
  C.srt acc ∧ acc.length % 2 = 0 ∧ (∀ x ∈ acc, x ≤ a) ∧ ∀ c, C.mem acc c = (p c && decide (c < a))
theorem C.upto_step {p : Int → Bool} {acc : List Int} {a b : Int} (h : C.upto p acc a) (hab : a < b) (hp : ∀ c, a ≤ c → c < b → p c = p a) : C.upto p (C.step p acc a b) b := by
  obtain ⟨h1, h2, h3, h4⟩ := h
  unfold C.step
  have key : ∀ c, p a = true → ((p c && decide (c < a)) ^^ decide (a ≤ c) ^^ decide (b ≤ c)) = (p c && decide (c < b)) := by
    intro c hpa
    by_cases ha : a ≤ c
    · by_cases hb : b ≤ c
      · rw [decide_eq_true ha, decide_eq_true hb, decide_eq_false (show ¬ c < a by omega), decide_eq_false (show ¬ c < b by omega)]; simp
      · rw [decide_eq_true ha, decide_eq_false hb, decide_eq_false (show ¬ c < a by omega), decide_eq_true (show c < b by omega), hp c ha (by omega), hpa]; rfl
    · rw [decide_eq_false ha, decide_eq_false (show ¬ b ≤ c by omega), decide_eq_true (show c < a by omega), decide_eq_true (show c < b by omega)]; simp
  split
  · rename_i hpa
    split
    · rename_i hl
      obtain ⟨l, rfl⟩ : ∃ l, acc = l ++ [a] := by
        obtain ⟨l, hl'⟩ := List.getLast?_eq_some_iff.1 hl
        exact ⟨l, hl'⟩
      rw [List.dropLast_concat]
      have hsl : C.srt l := (List.pairwise_append.1 h1).1
      have hla : ∀ y ∈ l, y < a := fun y hy => (List.pairwise_append.1 h1).2.2 y hy a (by simp)
      have hs2 := C.srt_snoc hsl (x := b) (fun y hy => by have := hla y hy; omega)
      refine ⟨hs2, by simpa using h2, ?_, ?_⟩
      · intro x hx
        rcases List.mem_append.1 hx with hx | hx
        · have := hla x hx; omega
        · simp at hx; omega
      · intro c
        rw [C.mem_snoc _ _ _ hs2, ← key c hpa, ← h4 c, C.mem_snoc _ _ _ h1]
        cases C.mem l c <;> cases decide (a ≤ c) <;> cases decide (b ≤ c) <;> rfl
    · rename_i hl
      have hla : ∀ y ∈ acc, y < a := by
        intro y hy
        rcases Int.lt_or_le y a with h' | h'
        · exact h'
        · exfalso
          have hya : y = a := by have := h3 y hy; omega
          subst hya
          rcases List.eq_nil_or_concat acc with rfl | ⟨l, z, rfl⟩
          · cases hy
          · rw [List.concat_eq_append] at *
            have hz := h3 z (by simp)
            rcases List.mem_append.1 hy with hy | hy
            · have := (List.pairwise_append.1 h1).2.2 y hy z (by simp); omega
            · simp at hy
              subst hy
              exact hl (by simp)
      have hs1 := C.srt_snoc h1 hla
      have hs2 := C.srt_snoc hs1 (x := b) (fun y hy => by
        rcases List.mem_append.1 hy with hy | hy
        · have := hla y hy; omega
        · simp at hy; omega)
      have e : acc ++ [a, b] = (acc ++ [a]) ++ [b] := by simp
      rw [e]
      refine ⟨hs2, by simp; omega, ?_, ?_⟩
      · intro x hx
        simp at hx
        rcases hx with hx | hx | hx
        · have := hla x hx; omega
        · omega
        · omega
      · intro c
        rw [C.mem_snoc _ _ _ hs2, C.mem_snoc _ _ _ hs1, h4 c, key c hpa]
  · rename_i hpa
    refine ⟨h1, h2, fun x hx => by have := h3 x hx; omega, fun c => ?_⟩
    rw [h4 c]
    by_cases ha : c < a
    · rw [decide_eq_true ha, decide_eq_true (by omega)]
    · by_cases hb : c < b
      · have hf : p a = false := by cases h : p a <;> simp_all
        rw [hp c (by omega) hb, hf]; rfl
      · rw [decide_eq_false ha, decide_eq_false hb]

/-- Put in: rising stays rising; what is in it. -/
theorem C.ins_mem (x : Int) : ∀ (l : List Int) (z : Int), z ∈ C.ins x l ↔ z = x ∨ z ∈ l
  | [], z => by simp [C.ins]
  | y :: t, z => by
    unfold C.ins
    split
    · simp
    · split
      · rename_i h; subst h; simp
      · rw [List.mem_cons, C.ins_mem x t z, List.mem_cons]
        constructor
        · rintro (h | h | h)
          · exact .inr (.inl h)
          · exact .inl h
          · exact .inr (.inr h)
        · rintro (h | h | h)
          · exact .inr (.inl h)
          · exact .inl h
          · exact .inr (.inr h)
theorem C.ins_srt (x : Int) : ∀ (l : List Int), C.srt l → C.srt (C.ins x l)
  | [], _ => List.pairwise_singleton _ _
  | y :: t, h => by
    unfold C.ins
    split
    · rename_i hxy
      exact List.pairwise_cons.2 ⟨fun z hz => by
        rcases List.mem_cons.1 hz with rfl | hz
        · exact hxy
        · have := C.srt_head h z hz; omega, h⟩
    · split
      · exact h
      · exact List.pairwise_cons.2 ⟨fun z hz => by
          rcases (C.ins_mem x t z).1 hz with rfl | hz
          · omega
          · exact C.srt_head h z hz, C.ins_srt x t (C.srt_tail h)⟩
theorem C.insF_spec (l : List Int) : C.srt (C.insF l) ∧ ∀ z, z ∈ C.insF l ↔ z ∈ l := by
  have : ∀ (l acc : List Int), C.srt acc → C.srt (l.foldl (fun o x => C.ins x o) acc) ∧ ∀ z, z ∈ l.foldl (fun o x => C.ins x o) acc ↔ z ∈ l ∨ z ∈ acc := by
    intro l
    induction l with
    | nil => intro acc h; exact ⟨h, by simp⟩
    | cons x t ih =>
      intro acc h
      obtain ⟨i1, i2⟩ := ih (C.ins x acc) (C.ins_srt x acc h)
      refine ⟨i1, fun z => ?_⟩
      rw [List.foldl_cons, i2, C.ins_mem, List.mem_cons]
      constructor
      · rintro (h | h | h)
        · exact .inl (.inr h)
        · exact .inl (.inl h)
        · exact .inr h
      · rintro ((h | h) | h)
        · exact .inr (.inl h)
        · exact .inl h
        · exact .inr (.inr h)
  obtain ⟨h1, h2⟩ := this l [] List.Pairwise.nil
  exact ⟨h1, fun z => by rw [show C.insF l = l.foldl (fun o x => C.ins x o) [] from rfl, h2]; simp⟩
end Go.Proofs.Ytamcpdggpdaioaa
