/- RowsPlain, plain: rows that say nothing, put between; no program in sight. -/
import Derived.Test.YtppmcnpjglackaaGreatDoorRwPlain
import Derived.Test.YtppmcnpjglackaaGreatDoorChar
namespace Go.Proofs.YtppmcnpjglackaaGreatDoor
open Go.RowKit Go.Stop
set_option linter.unusedSimpArgs false
set_option linter.unusedVariables false

theorem Ch.and_8 (n : Int) : bits .and .i64 n 255 = n % 256 := by
  have hm : (BitVec.ofInt 64 255).toNat = 2 ^ 8 - 1 := by decide
  have key : (BitVec.ofInt 64 n &&& BitVec.ofInt 64 255).toNat = (n % ((2 ^ 64 : Nat) : Int)).toNat % 2 ^ 8 := by
    rw [BitVec.toNat_and, BitVec.toNat_ofInt, hm, Nat.and_two_pow_sub_one_eq_mod]
  show IntKind.i64.wrap ((BitVec.ofInt 64 n &&& BitVec.ofInt 64 255).toNat : Nat) = n % 256
  rw [key, IntKind.wrap_i64]
  omega

/-- Rows' text. -/
def Rw.txt (l : List Rw.Row) : List UInt8 := l.flatMap fun r => Rw.line r ++ [10]
theorem Rw.txt_app (a b : List Rw.Row) : Rw.txt (a ++ b) = Rw.txt a ++ Rw.txt b := by simp [Rw.txt]
theorem Rw.txt_one (r : Rw.Row) : Rw.txt [r] = Rw.line r ++ [10] := by simp [Rw.txt]
theorem Rw.txt_eq (l : List Rw.Row) : Rw.txt l = (l.map Rw.line).flatMap fun x => x ++ [10] := by simp [Rw.txt, List.flatMap_map]
theorem Rw.line_len (r : Rw.Row) (h : Rw.right r) : (Rw.line r).length ≤ 1000 := by
  have := Rw.line_ok r h
  unfold Rw.okl at this
  rw [Bool.and_eq_true, decide_eq_true_eq] at this
  exact this.1
theorem Rw.txt_len : ∀ (l : List Rw.Row), (∀ r ∈ l, Rw.right r) → (Rw.txt l).length ≤ 1001 * l.length
  | [], _ => by simp [Rw.txt]
  | r :: l, h => by
    have h1 := Rw.line_len r (h r List.mem_cons_self)
    have h2 := Rw.txt_len l fun q hq => h q (List.mem_cons_of_mem _ hq)
    rw [show r :: l = [r] ++ l from rfl, Rw.txt_app, Rw.txt_one]
    simp
    omega
/-- The last row's number. -/
def Rw.lastC : Int → List Rw.Row → Int
  | c, [] => c
  | _, r :: l => Rw.lastC r.1 l
theorem Rw.rise_snoc : ∀ (l : List Rw.Row) (c : Int) (r : Rw.Row), Rw.rise c l → Rw.lastC c l < r.1 → Rw.rise c (l ++ [r])
  | [], c, r, _, h => ⟨h, trivial⟩
  | q :: l, c, r, h, h2 => ⟨h.1, Rw.rise_snoc l q.1 r h.2 h2⟩
theorem Rw.lastC_snoc : ∀ (l : List Rw.Row) (c : Int) (r : Rw.Row), Rw.lastC c (l ++ [r]) = r.1
  | [], c, r => rfl
  | q :: l, c, r => Rw.lastC_snoc l q.1 r
def Rw.fine (r : Rw.Row) : Prop := Rw.right r ∧ (C.isC r.1 = true ∨ Rw.quiet r = true)
theorem Rw.parse_txt (l : List Rw.Row) (h : ∀ r ∈ l, Rw.fine r) (hr : Rw.rise (-1) l) (hl : l.length ≤ 40000) : Rw.parse (Rw.txt l) = some (l.filter fun r => !Rw.quiet r) := by
  rw [Rw.txt_eq]
  exact Rw.parse_lines l h hr hl

def Rp.cl (k : Int) : Int := 1 + k % 256 % 254
abbrev Rp.St := List Rw.Row × List Rw.Row × Int
def Rp.next (st : Rp.St) (r : Rw.Row) : Rp.St :=
  if Ch.K r.1 ≤ st.2.2 + 1 then st else (st.1 ++ [(Ch.K r.1, Rp.cl r.2.1, [])], st.2.1 ++ [(st.2.2 + 1, 0, []), (Ch.K r.1, Rp.cl r.2.1, [])], Ch.K r.1)
def Rp.fold (l : List Rw.Row) : Rp.St := l.foldl Rp.next ([], [], -1)
theorem Rp.fold_snoc (l : List Rw.Row) (r : Rw.Row) : Rp.fold (l ++ [r]) = Rp.next (Rp.fold l) r := by simp [Rp.fold, List.foldl_append]
theorem Rp.cl_bd (k : Int) : 1 ≤ Rp.cl k ∧ Rp.cl k ≤ 254 := by unfold Rp.cl; omega
structure Rp.Inv (st : Rp.St) (n : Nat) : Prop where
  c0 : -1 ≤ st.2.2
  c1 : st.2.2 ≤ 1114111
  r1 : Rw.rise (-1) st.1
  r2 : Rw.rise (-1) st.2.1
  l1 : Rw.lastC (-1) st.1 = st.2.2
  l2 : Rw.lastC (-1) st.2.1 = st.2.2
  f1 : ∀ r ∈ st.1, Rw.fine r
  f2 : ∀ r ∈ st.2.1, Rw.fine r
  g1 : st.1.filter (fun r => !Rw.quiet r) = st.1
  g2 : st.2.1.filter (fun r => !Rw.quiet r) = st.1
  n1 : st.1.length ≤ n
  n2 : st.2.1.length ≤ 2 * n
theorem Rp.fine_new (x k : Int) : Rw.fine (Ch.K x, Rp.cl k, []) := by
  have h1 := (Ch.isC_iff _).1 (Ch.K_is x)
  have h2 := Rp.cl_bd k
  exact ⟨⟨h1.1, h1.2.1, by show 0 ≤ Rp.cl k; omega, h2.2, by simp, by simp⟩, .inl (Ch.K_is x)⟩
theorem Rp.loud (x k : Int) : Rw.quiet (x, Rp.cl k, []) = false := by
  have h2 := Rp.cl_bd k
  unfold Rw.quiet
  rw [decide_eq_false (by show ¬ Rp.cl k = 0; omega)]
  rfl
theorem Rp.fine_quiet (c : Int) (h0 : -1 ≤ c) (h1 : c < 1114111) : Rw.fine (c + 1, 0, []) := by
  refine ⟨⟨by show 0 ≤ c + 1; omega, by show c + 1 ≤ 1114111; omega, by show (0 : Int) ≤ 0; omega, by show (0 : Int) ≤ 254; omega, by simp, by simp⟩, .inr ?_⟩
  unfold Rw.quiet
  simp
theorem Rp.inv0 : Rp.Inv (Rp.fold []) 0 := by
  refine ⟨by decide, by decide, trivial, trivial, rfl, rfl, ?_, ?_, rfl, rfl, Nat.le_refl _, Nat.le_refl _⟩
  · intro r h; cases h
  · intro r h; cases h
theorem Rp.inv_next {st : Rp.St} {n : Nat} (h : Rp.Inv st n) (r : Rw.Row) : Rp.Inv (Rp.next st r) (n + 1) := by
  unfold Rp.next
  split
  · exact ⟨h.c0, h.c1, h.r1, h.r2, h.l1, h.l2, h.f1, h.f2, h.g1, h.g2, Nat.le_succ_of_le h.n1, by have := h.n2; omega⟩
  · rename_i hc
    have hk := (Ch.isC_iff _).1 (Ch.K_is r.1)
    have hq : Rw.quiet (st.2.2 + 1, 0, []) = true := by unfold Rw.quiet; simp
    have hl := Rp.loud (Ch.K r.1) r.2.1
    refine ⟨by show -1 ≤ Ch.K r.1; omega, hk.2.1, Rw.rise_snoc _ _ _ h.r1 (by rw [h.l1]; show st.2.2 < Ch.K r.1; omega), ?_, Rw.lastC_snoc _ _ _, ?_, ?_, ?_, ?_, ?_, ?_, ?_⟩
    · show Rw.rise (-1) (st.2.1 ++ [(st.2.2 + 1, 0, []), (Ch.K r.1, Rp.cl r.2.1, [])])
      rw [show st.2.1 ++ [(st.2.2 + 1, 0, []), (Ch.K r.1, Rp.cl r.2.1, [])] = (st.2.1 ++ [(st.2.2 + 1, 0, [])]) ++ [(Ch.K r.1, Rp.cl r.2.1, [])] by simp]
      exact Rw.rise_snoc _ _ _ (Rw.rise_snoc _ _ _ h.r2 (by rw [h.l2]; show st.2.2 < st.2.2 + 1; omega)) (by rw [Rw.lastC_snoc]; show st.2.2 + 1 < Ch.K r.1; omega)
    · show Rw.lastC (-1) (st.2.1 ++ [(st.2.2 + 1, 0, []), (Ch.K r.1, Rp.cl r.2.1, [])]) = _
      rw [show st.2.1 ++ [(st.2.2 + 1, 0, []), (Ch.K r.1, Rp.cl r.2.1, [])] = (st.2.1 ++ [(st.2.2 + 1, 0, [])]) ++ [(Ch.K r.1, Rp.cl r.2.1, [])] by simp, Rw.lastC_snoc]
    · intro q hq'
      rcases List.mem_append.1 hq' with h' | h'
      · exact h.f1 q h'
      · rw [List.mem_singleton] at h'; subst h'; exact Rp.fine_new _ _
    · intro q hq'
      rcases List.mem_append.1 hq' with h' | h'
      · exact h.f2 q h'
      · simp at h'
        rcases h' with rfl | rfl
        · exact Rp.fine_quiet _ h.c0 (by omega)
        · exact Rp.fine_new _ _
    · show List.filter _ (st.1 ++ [(Ch.K r.1, Rp.cl r.2.1, [])]) = _
      rw [List.filter_append, h.g1]
      simp [hl]
    · show List.filter _ (st.2.1 ++ [(st.2.2 + 1, 0, []), (Ch.K r.1, Rp.cl r.2.1, [])]) = st.1 ++ [(Ch.K r.1, Rp.cl r.2.1, [])]
      rw [List.filter_append, h.g2]
      simp [hl, hq]
    · have := h.n1; simp; omega
    · have := h.n2; simp; omega
theorem Rp.inv_take (l : List Rw.Row) : ∀ k, k ≤ l.length → Rp.Inv (Rp.fold (l.take k)) k
  | 0, _ => Rp.inv0
  | k + 1, h => by
    rw [List.take_succ_eq_append_getElem (by omega), Rp.fold_snoc]
    exact Rp.inv_next (Rp.inv_take l k (by omega)) _

def Rp.lit : List UInt8 := [48, 48, 67, 53, 59, 88, 59, 76, 117, 59, 48, 59, 76, 59, 48, 48, 52, 49, 32, 48, 51, 48, 65, 59, 59, 59, 59, 78, 59, 59, 59, 59, 48, 48, 69, 53, 59]
theorem Rp.lit_parse : Rw.parse Rp.lit = some [(197, 0, [65, 778])] := by
  have h1 : Rw.lns [] Rp.lit = [Rp.lit] := by decide +kernel
  have h2 : Rw.okl Rp.lit = true := by decide +kernel
  have h3 : Fi.spl 59 [] Rp.lit = [[48, 48, 67, 53], [88], [76, 117], [48], [76], [48, 48, 52, 49, 32, 48, 51, 48, 65], [], [], [], [78], [], [], [], [48, 48, 69, 53], []] := by decide +kernel
  have h4 : Fi.hex [48, 48, 67, 53] = some 197 := by decide +kernel
  have h5 : Fi.num [48] 254 = some 0 := by
    have := Fi.isNum_dec 0 254 (by decide)
    rw [show Lib.decDigits 0 = [48] by rw [Lib.decDigits]; rfl] at this
    exact this
  have h6 : Rw.mp [48, 48, 52, 49, 32, 48, 51, 48, 65] = some [65, 778] := by decide +kernel
  have h7 : Rw.row (Fi.spl 59 [] Rp.lit) = some (197, 0, [65, 778]) := by
    rw [h3]
    unfold Rw.row
    rw [if_pos ⟨rfl, by decide⟩]
    show (Fi.hex [48, 48, 67, 53]).bind (fun c => (Fi.num [48] 254).bind fun k => (Rw.mp [48, 48, 52, 49, 32, 48, 51, 48, 65]).map fun m => (c, k, m)) = _
    rw [h4, h5, h6]
    rfl
  have h8 : Rw.step ([], -1, []) Rp.lit = some ([(197, 0, [65, 778])], 197, []) := by
    unfold Rw.step
    rw [h7, h3]
    decide +kernel
  unfold Rw.parse
  rw [h1, if_pos ⟨by rw [List.all_cons, h2]; rfl, by decide⟩, Rw.steps, h8]
  rfl
end Go.Proofs.YtppmcnpjglackaaGreatDoor
