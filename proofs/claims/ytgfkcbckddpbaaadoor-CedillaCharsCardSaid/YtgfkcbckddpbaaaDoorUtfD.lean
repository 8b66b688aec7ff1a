/- Cut, Last, and the law UtfEnds' walk. -/
import Derived.Test.YtgfkcbckddpbaaaDoorUtfC
namespace Go.Proofs.YtgfkcbckddpbaaaDoor
open Go.RowKit
set_option linter.unusedSimpArgs false
set_option linter.unusedVariables false

theorem ba_drop (s : ByteArray) (k : Nat) : (s.extract k s.size).data.toList = s.data.toList.drop k := by
  have h : s.data.toList.length = s.size := by simp
  simp only [ByteArray.data_extract, Array.toList_extract]
  rw [List.extract_eq_take_drop, List.take_of_length_le (by rw [List.length_drop]; omega)]
theorem ba_len (s : ByteArray) : s.data.toList.length = s.size := by simp

def cutS (s : ByteArray) (n : Nat) : ByteArray := if n < s.size then s.extract 0 n else s
theorem cutS_list (s : ByteArray) (n : Nat) : (cutS s n).data.toList = s.data.toList.take n := by
  unfold cutS
  split
  · exact ba_take s n
  · rw [List.take_of_length_le (by rw [ba_len]; omega)]
theorem cutS_size (s : ByteArray) (n : Nat) : (cutS s n).size ≤ n := by
  rw [← ba_len, cutS_list, List.length_take]; omega

def U.lastF (l : List UInt8) : Nat → Nat → Int × Nat × Bool
  | 0, _ => (0, 0, false)
  | f + 1, n => if n ≤ l.length then (match U.nextK (l.drop (l.length - n)) with | some (c, k) => if k = n then (c, n, true) else U.lastF l f (n + 1) | none => U.lastF l f (n + 1)) else (0, 0, false)
def U.last3 (l : List UInt8) : Int × Nat × Bool := U.lastF l 4 1

theorem U.lastF_bd (l : List UInt8) : ∀ f n, n + f ≤ 5 → 0 ≤ (U.lastF l f n).1 ∧ (U.lastF l f n).1 ≤ 2000000 ∧ (U.lastF l f n).2.1 ≤ 4 := by
  intro f
  induction f with
  | zero => intro n _; show 0 ≤ (0 : Int) ∧ _; exact ⟨by omega, by show (0 : Int) ≤ _; omega, by show 0 ≤ 4; omega⟩
  | succ f ih =>
    intro n hn
    have hi := ih (n + 1) (by omega)
    by_cases hl : n ≤ l.length
    · rcases hk : U.nextK (l.drop (l.length - n)) with _ | ⟨c, k⟩
      · rw [show U.lastF l (f + 1) n = U.lastF l f (n + 1) from by show (if n ≤ l.length then _ else _) = _; rw [if_pos hl, hk]]
        exact hi
      · by_cases hkn : k = n
        · subst hkn
          have hy : U.lastF l (f + 1) k = (c, k, true) := by show (if k ≤ l.length then _ else _) = _; rw [if_pos hl, hk]; show (if k = k then _ else _) = _; rw [if_pos rfl]
          rw [hy]
          obtain ⟨hc, hw, _⟩ := U.nextK_some _ _ _ hk
          have := (U.isC_iff c).1 hc
          exact ⟨by show 0 ≤ c; omega, by show c ≤ _; omega, by show k ≤ 4; omega⟩
        · rw [show U.lastF l (f + 1) n = U.lastF l f (n + 1) from by show (if n ≤ l.length then _ else _) = _; rw [if_pos hl, hk]; show (if k = n then _ else _) = _; rw [if_neg hkn]]
          exact hi
    · rw [show U.lastF l (f + 1) n = (0, 0, false) from by show (if n ≤ l.length then _ else _) = _; rw [if_neg hl]]
      exact ⟨by show (0 : Int) ≤ 0; omega, by show (0 : Int) ≤ _; omega, by show 0 ≤ 4; omega⟩

theorem U.next3_some {l : List UInt8} {c : Int} {k : Nat} (h : U.nextK l = some (c, k)) : U.next3 l = (c, k, true) := by unfold U.next3; rw [h]
theorem U.next3_none {l : List UInt8} (h : U.nextK l = none) : U.next3 l = (0, 0, false) := by unfold U.next3; rw [h]
theorem U.lastF_out (l : List UInt8) (f n : Nat) (h : ¬ n ≤ l.length) : U.lastF l f n = (0, 0, false) := by
  cases f with
  | zero => rfl
  | succ f => show (if n ≤ l.length then _ else _) = _; rw [if_neg h]
theorem U.lastF_yes (l : List UInt8) (f n : Nat) (c : Int) (hn : n ≤ l.length) (h : U.nextK (l.drop (l.length - n)) = some (c, n)) : U.lastF l (f + 1) n = (c, n, true) := by
  show (if n ≤ l.length then _ else _) = _
  rw [if_pos hn, h]
  show (if n = n then _ else _) = _
  rw [if_pos rfl]
theorem U.lastF_no (l : List UInt8) (f n : Nat) (hn : n ≤ l.length) (h : ∀ c, U.nextK (l.drop (l.length - n)) ≠ some (c, n)) : U.lastF l (f + 1) n = U.lastF l f (n + 1) := by
  show (if n ≤ l.length then _ else _) = _
  rw [if_pos hn]
  rcases hk : U.nextK (l.drop (l.length - n)) with _ | ⟨c, k⟩
  · rfl
  · show (if k = n then _ else _) = _
    rw [if_neg]
    rintro rfl
    exact h c hk

theorem U.lits : U.next3 [226, 130, 172] = (8364, 3, true) ∧ U.next3 [237, 160, 128] = (0, 0, false) := by decide +kernel

def U.encs (cs : List Int) : List UInt8 := cs.flatMap U.enc
theorem U.encs_cons (c : Int) (cs : List Int) : U.encs (c :: cs) = U.enc c ++ U.encs cs := rfl
theorem U.encs_append (a b : List Int) : U.encs (a ++ b) = U.encs a ++ U.encs b := by unfold U.encs; rw [List.flatMap_append]
theorem U.enc_pos (c : Int) : 1 ≤ (U.enc c).length ∧ (U.enc c).length ≤ 4 := by unfold U.enc; grind
theorem U.encs_len (cs : List Int) : cs.length ≤ (U.encs cs).length := by
  induction cs with
  | nil => simp
  | cons c cs ih => rw [U.encs_cons, List.length_append, List.length_cons]; have := (U.enc_pos c).1; omega
/-- The characters of bytes, and what is left from the first wrong byte on. -/
def U.Dec (l : List UInt8) (cs : List Int) (r : List UInt8) : Prop := l = U.encs cs ++ r ∧ (∀ c ∈ cs, U.isC c = true) ∧ U.nextK r = none
theorem U.nextK_nil : U.nextK [] = none := rfl
theorem U.dec_exists (l : List UInt8) : ∃ cs r, U.Dec l cs r := by
  have : ∀ n, ∀ l : List UInt8, l.length ≤ n → ∃ cs r, U.Dec l cs r := by
    intro n
    induction n with
    | zero => intro l h; have h0 : l = [] := List.eq_nil_of_length_eq_zero (by omega)
              exact ⟨[], l, rfl, by simp, by rw [h0]; rfl⟩
    | succ n ih =>
      intro l h
      rcases hn : U.nextK l with _ | ⟨c, k⟩
      · exact ⟨[], l, rfl, by simp, hn⟩
      · obtain ⟨hc, _, t, rfl⟩ := U.nextK_some l c k hn
        obtain ⟨cs, r, h1, h2, h3⟩ := ih t (by rw [List.length_append] at h; have := (U.enc_pos c).1; omega)
        refine ⟨c :: cs, r, by rw [U.encs_cons, List.append_assoc, ← h1], ?_, h3⟩
        intro x hx
        rcases List.mem_cons.1 hx with rfl | hx
        · exact hc
        · exact h2 x hx
  exact this l.length l (Nat.le_refl _)
theorem U.dec_next {c : Int} {b : List Int} {r : List UInt8} (hc : U.isC c = true) : U.nextK (U.encs (c :: b) ++ r) = some (c, (U.enc c).length) := by
  rw [U.encs_cons, List.append_assoc]; exact U.nextK_of c hc _
theorem U.dec_unique {l : List UInt8} {cs cs' : List Int} {r r' : List UInt8} (h : U.Dec l cs r) (h' : U.Dec l cs' r') : cs = cs' ∧ r = r' := by
  obtain ⟨rfl, h2, h3⟩ := h
  obtain ⟨g1, g2, g3⟩ := h'
  induction cs generalizing cs' with
  | nil =>
    cases cs' with
    | nil => exact ⟨rfl, g1⟩
    | cons c b =>
      have e : U.encs [] ++ r = r := rfl
      rw [e] at g1
      rw [g1, U.dec_next (g2 c (by simp))] at h3
      cases h3
  | cons c b ih =>
    cases cs' with
    | nil =>
      have e : U.encs [] ++ r' = r' := rfl
      rw [e] at g1
      rw [← g1, U.dec_next (h2 c (by simp))] at g3
      cases g3
    | cons c' b' =>
      have e1 := U.dec_next (r := r) (b := b) (h2 c (by simp))
      have e2 := U.dec_next (r := r') (b := b') (g2 c' (by simp))
      rw [g1, e2] at e1
      simp only [Option.some.injEq, Prod.mk.injEq] at e1
      obtain ⟨rfl, _⟩ := e1
      rw [U.encs_cons, U.encs_cons, List.append_assoc, List.append_assoc] at g1
      have := ih (cs' := b') (fun x hx => h2 x (List.mem_cons_of_mem _ hx)) (List.append_cancel_left g1) (fun x hx => g2 x (List.mem_cons_of_mem _ hx))
      exact ⟨by rw [this.1], this.2⟩

def U.vN (cs : List Int) (r : List UInt8) : Int := if r = [] then (cs.length : Nat) else ((U.encs cs).length : Nat)
def U.vB (r : List UInt8) : Bool := decide (r = [])
theorem U.vN_nil (cs : List Int) : U.vN cs [] = (cs.length : Nat) := rfl
theorem U.vN_cons (cs : List Int) (a : UInt8) (r : List UInt8) : U.vN cs (a :: r) = ((U.encs cs).length : Nat) := rfl
theorem U.vB_nil : U.vB [] = true := rfl
theorem U.vB_cons (a : UInt8) (r : List UInt8) : U.vB (a :: r) = false := rfl

theorem ba_size_pos (s : ByteArray) : 0 < s.size ↔ s.data.toList ≠ [] := by
  rw [← ba_len]
  exact List.length_pos_iff

end Go.Proofs.YtgfkcbckddpbaaaDoor
