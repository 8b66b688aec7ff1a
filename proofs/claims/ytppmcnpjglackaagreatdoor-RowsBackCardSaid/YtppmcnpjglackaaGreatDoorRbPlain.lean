/- RowsBack, plain: rows that rise; no program in sight. -/
import Derived.Test.YtppmcnpjglackaaGreatDoorRpPlain
namespace Go.Proofs.YtppmcnpjglackaaGreatDoor
open Go.RowKit Go.Stop
set_option linter.unusedSimpArgs false
set_option linter.unusedVariables false

abbrev Rb.St := List Rw.Row × Int
def Rb.map (m : List Int) : List Int := (m.take 2).map Ch.K
def Rb.cl (k : Int) : Int := k % 256 % 255
def Rb.skip (c k : Int) (m : List Int) (code : Int) : Bool := decide (c ≤ code) || (decide (k = 0) && decide (m.length = 0))
def Rb.next (st : Rb.St) (r : Rw.Row) : Rb.St :=
  if Rb.skip (Ch.K r.1) (Rb.cl r.2.1) (Rb.map r.2.2) st.2 = true then st else (st.1 ++ [(Ch.K r.1, Rb.cl r.2.1, Rb.map r.2.2)], Ch.K r.1)
def Rb.fold (l : List Rw.Row) : Rb.St := l.foldl Rb.next ([], -1)
theorem Rb.fold_snoc (l : List Rw.Row) (r : Rw.Row) : Rb.fold (l ++ [r]) = Rb.next (Rb.fold l) r := by simp [Rb.fold, List.foldl_append]
structure Rb.Inv (st : Rb.St) (n : Nat) : Prop where
  c0 : -1 ≤ st.2
  c1 : st.2 ≤ 1114111
  r1 : Rw.rise (-1) st.1
  l1 : Rw.lastC (-1) st.1 = st.2
  f1 : ∀ r ∈ st.1, Rw.fine r
  g1 : st.1.filter (fun r => !Rw.quiet r) = st.1
  n1 : st.1.length ≤ n
theorem Rb.map_bd (m : List Int) : ∀ c ∈ Rb.map m, 0 ≤ c ∧ c ≤ 1114111 := by
  intro c hc
  obtain ⟨x, _, rfl⟩ := List.mem_map.1 hc
  have := (Ch.isC_iff _).1 (Ch.K_is x)
  omega
theorem Rb.map_len (m : List Int) : (Rb.map m).length ≤ 2 := by unfold Rb.map; simp; omega
theorem Rb.cl_bd (k : Int) : 0 ≤ Rb.cl k ∧ Rb.cl k ≤ 254 := by unfold Rb.cl; omega
theorem Rb.fine_new (x k : Int) (m : List Int) : Rw.fine (Ch.K x, Rb.cl k, Rb.map m) := by
  have h1 := (Ch.isC_iff _).1 (Ch.K_is x)
  have h2 := Rb.cl_bd k
  exact ⟨⟨h1.1, h1.2.1, h2.1, h2.2, Rb.map_len m, Rb.map_bd m⟩, .inl (Ch.K_is x)⟩
theorem Rb.inv0 : Rb.Inv (Rb.fold []) 0 := by
  refine ⟨by decide, by decide, trivial, rfl, ?_, rfl, Nat.le_refl _⟩
  intro r h; cases h
theorem Rb.inv_next {st : Rb.St} {n : Nat} (h : Rb.Inv st n) (r : Rw.Row) : Rb.Inv (Rb.next st r) (n + 1) := by
  unfold Rb.next
  split
  · exact ⟨h.c0, h.c1, h.r1, h.l1, h.f1, h.g1, Nat.le_succ_of_le h.n1⟩
  · rename_i hc
    have hk := (Ch.isC_iff _).1 (Ch.K_is r.1)
    unfold Rb.skip at hc
    rw [Bool.or_eq_true, not_or, decide_eq_true_eq] at hc
    obtain ⟨hc1, hc2⟩ := hc
    have hq : Rw.quiet (Ch.K r.1, Rb.cl r.2.1, Rb.map r.2.2) = false := by
      unfold Rw.quiet
      rcases hb : (decide (Rb.cl r.2.1 = 0) && decide ((Rb.map r.2.2).length = 0)) with _ | _
      · rfl
      · exact absurd hb hc2
    refine ⟨by show -1 ≤ Ch.K r.1; omega, hk.2.1, Rw.rise_snoc _ _ _ h.r1 (by rw [h.l1]; show st.2 < Ch.K r.1; omega), Rw.lastC_snoc _ _ _, ?_, ?_, ?_⟩
    · intro q hq'
      rcases List.mem_append.1 hq' with h' | h'
      · exact h.f1 q h'
      · rw [List.mem_singleton] at h'; subst h'; exact Rb.fine_new _ _ _
    · show List.filter _ (st.1 ++ [(Ch.K r.1, Rb.cl r.2.1, Rb.map r.2.2)]) = _
      rw [List.filter_append, h.g1]
      simp [hq]
    · have := h.n1; simp; omega
theorem Rb.inv_take (l : List Rw.Row) : ∀ k, k ≤ l.length → Rb.Inv (Rb.fold (l.take k)) k
  | 0, _ => Rb.inv0
  | k + 1, h => by
    rw [List.take_succ_eq_append_getElem (by omega), Rb.fold_snoc]
    exact Rb.inv_next (Rb.inv_take l k (by omega)) _
theorem Rb.parse {st : Rb.St} {n : Nat} (h : Rb.Inv st n) (hn : n ≤ 100) : Rw.parse (Rw.txt st.1) = some st.1 := by
  rw [Rw.parse_txt _ h.f1 h.r1 (by have := h.n1; omega)]
  exact congrArg some h.g1
end Go.Proofs.YtppmcnpjglackaaGreatDoor
