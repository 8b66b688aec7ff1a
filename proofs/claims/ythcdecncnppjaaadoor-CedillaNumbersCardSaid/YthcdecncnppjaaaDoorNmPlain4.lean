/- Sums, products and what is put, in plain Lean. -/
import Derived.Test.YthcdecncnppjaaaDoorNmParse
namespace Go.Proofs.YthcdecncnppjaaaDoor
open Go.RowKit
set_option linter.unusedSimpArgs false
set_option linter.unusedVariables false
def Nm.sm (l : List Nat) : Nat := l.foldl (fun a x => a + x) 0
def Nm.pr (l : List Nat) : Nat := l.foldl (fun a x => a * (x + 1)) 1
theorem Nm.sm_snoc (l : List Nat) (x : Nat) : Nm.sm (l ++ [x]) = Nm.sm l + x := by simp [Nm.sm, List.foldl_append]
theorem Nm.pr_snoc (l : List Nat) (x : Nat) : Nm.pr (l ++ [x]) = Nm.pr l * (x + 1) := by simp [Nm.pr, List.foldl_append]
theorem Nm.le_fold : ∀ (l : List Nat) (a : Nat), a ≤ l.foldl (fun a x => a + x) a
  | [], a => Nat.le_refl _
  | x :: r, a => Nat.le_trans (Nat.le_add_right a x) (Nm.le_fold r (a + x))
theorem Nm.mem_fold : ∀ (l : List Nat) (a x : Nat), x ∈ l → x ≤ l.foldl (fun a x => a + x) a
  | y :: r, a, x, h => by
    rcases List.mem_cons.1 h with rfl | h
    · exact Nat.le_trans (Nat.le_add_left x a) (Nm.le_fold r (a + x))
    · exact Nm.mem_fold r _ x h
theorem Nm.mem_sm {l : List Nat} {x : Nat} (h : x ∈ l) : x ≤ Nm.sm l := Nm.mem_fold l 0 x h
theorem Nm.dvd_fold : ∀ (l : List Nat) (a d : Nat), d ∣ a → d ∣ l.foldl (fun a x => a * (x + 1)) a
  | [], a, d, h => h
  | x :: r, a, d, h => Nm.dvd_fold r _ d (Nat.dvd_trans h (Nat.dvd_mul_right _ _))
theorem Nm.mem_dvd : ∀ (l : List Nat) (a x : Nat), x ∈ l → (x + 1) ∣ l.foldl (fun a x => a * (x + 1)) a
  | y :: r, a, x, h => by
    rcases List.mem_cons.1 h with rfl | h
    · exact Nm.dvd_fold r _ _ (Nat.dvd_mul_left _ _)
    · exact Nm.mem_dvd r _ x h
theorem Nm.mem_pr {l : List Nat} {x : Nat} (h : x ∈ l) : (x + 1) ∣ Nm.pr l := Nm.mem_dvd l 1 x h
theorem Nm.pos_fold : ∀ (l : List Nat) (a : Nat), 0 < a → 0 < l.foldl (fun a x => a * (x + 1)) a
  | [], a, h => h
  | x :: r, a, h => Nm.pos_fold r _ (Nat.mul_pos h (Nat.succ_pos x))
theorem Nm.pr_pos (l : List Nat) : 0 < Nm.pr l := Nm.pos_fold l 1 Nat.one_pos
/-- What is put for these numbers, one behind the other. -/
def Nm.Enc : List Nat → List Nat → Prop
  | [], lb => lb = []
  | n :: r, lb => ∃ out rest, lb = Nm.be4 out.length ++ (out ++ rest) ∧ Nm.BE n out ∧ out.length ≤ 3000 ∧ Nm.Enc r rest
theorem Nm.Enc.snoc : ∀ {ns lb : List Nat} {n : Nat} {out : List Nat}, Nm.Enc ns lb → Nm.BE n out → out.length ≤ 3000 → Nm.Enc (ns ++ [n]) (lb ++ (Nm.be4 out.length ++ out))
  | [], lb, n, out, h, h1, h2 => by
    have h : lb = [] := h
    subst h
    exact ⟨out, [], by simp, h1, h2, rfl⟩
  | x :: r, lb, n, out, h, h1, h2 => by
    obtain ⟨o, rest, rfl, g1, g2, g3⟩ := h
    exact ⟨o, rest ++ (Nm.be4 out.length ++ out), by simp, g1, g2, g3.snoc h1 h2⟩
theorem Nm.be4_lt (m : Nat) : ∀ d ∈ Nm.be4 m, d < 256 := by
  intro d hd
  simp only [Nm.be4, List.mem_cons, List.not_mem_nil, or_false] at hd
  omega
theorem Nm.Enc.lt : ∀ {ns lb : List Nat}, Nm.Enc ns lb → ∀ d ∈ lb, d < 256
  | [], lb, h => by
    have h : lb = [] := h
    subst h
    intro d hd
    cases hd
  | x :: r, lb, h => by
    obtain ⟨o, rest, rfl, g1, g2, g3⟩ := h
    intro d hd
    rcases List.mem_append.1 hd with hd | hd
    · exact Nm.be4_lt _ d hd
    · rcases List.mem_append.1 hd with hd | hd
      · exact g1.2.2 d hd
      · exact g3.lt d hd
theorem Nm.Enc.at {ns lb : List Nat} {i n : Nat} (h : Nm.Enc (ns.drop i) lb) (hi : ns[i]? = some n) : ∃ out rest, lb = Nm.be4 out.length ++ (out ++ rest) ∧ Nm.BE n out ∧ out.length ≤ 3000 ∧ Nm.Enc (ns.drop (i + 1)) rest := by
  have hlt := (List.getElem?_eq_some_iff.1 hi).1
  rw [List.drop_eq_getElem_cons hlt] at h
  have : ns[i] = n := (List.getElem?_eq_some_iff.1 hi).2
  rw [this] at h
  exact h
theorem Nm.Is.lt {w : World} {v : Value} {n L : Nat} (h : Nm.Is w v n L) : n < 4294967296 ^ L := by
  obtain ⟨A, m, c, l, _, h2, _, h4, h5, h6⟩ := h
  rw [← h5]
  exact Nat.lt_of_lt_of_le (Nm.val_lt h4.1) (Nat.pow_le_pow_right (by decide) (by omega))
/-- A number's text is not long. -/
theorem Nm.text_len {s : ByteArray} {n L : Nat} (hD : Nm.Dec (Nm.ds s)) (hn : Nm.be 10 (Nm.dv (Nm.ds s)) = n) (hL : n < 4294967296 ^ L) : s.size ≤ 10 * L + 1 := by
  rw [← Nm.ds_len s]
  rcases hD.2 with h | ⟨h1, h2⟩
  · rw [h]; simp
  · have h3 := Nm.dec_len (l := Nm.dv (Nm.ds s)) (L := L) (by
      rcases hl : Nm.ds s with _ | ⟨x, r⟩
      · exact absurd hl h1
      · rw [hl] at h2
        have hx := hD.1 x (by rw [hl]; exact List.mem_cons_self)
        simp [Nm.dv] at h2 ⊢
        omega) hn hL
    have : (Nm.dv (Nm.ds s)).length = (Nm.ds s).length := by simp [Nm.dv]
    omega
/-- A number by its digits' slice. -/
theorem Nm.Is.shape {w : World} {v : Value} {n L : Nat} (h : Nm.Is w v n L) : ∃ A m c, v = .agg #[.slice A m c] := by
  obtain ⟨A, m, c, l, h1, _⟩ := h
  exact ⟨A, m, c, h1⟩
end Go.Proofs.YthcdecncnppjaaaDoor
