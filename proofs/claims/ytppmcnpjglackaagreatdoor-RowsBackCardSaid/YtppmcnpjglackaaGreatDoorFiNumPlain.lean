/- Layer field, plain: a decimal number, written and read; no program in sight. -/
import Derived.Test.YtppmcnpjglackaaGreatDoorFiPlain2
import Derived.Lib.ItoaNum
import Derived.Lib.ItoaMem
import Derived.Lib.AtoiTie
import Derived.Lib.AtoiAllCases
namespace Go.Proofs.YtppmcnpjglackaaGreatDoor
open Go.RowKit Go.Stop
set_option linter.unusedSimpArgs false

def Fi.numV (l : List UInt8) : Int := l.foldl (fun n b => 10 * n + ((b.toNat : Int) - 48)) 0
def Fi.isD (b : UInt8) : Bool := decide (48 ≤ b.toNat) && decide (b.toNat ≤ 57)
def Fi.isNum (l : List UInt8) (most : Int) : Bool := (l == Lib.decDigits (Fi.numV l).toNat) && decide (Fi.numV l ≤ most)
/-- A number up to another one. -/
def Fi.num (l : List UInt8) (most : Int) : Option Int := if Fi.isNum l most then some (Fi.numV l) else none

theorem Fi.numV_snoc (l : List UInt8) (b : UInt8) : Fi.numV (l ++ [b]) = 10 * Fi.numV l + ((b.toNat : Int) - 48) := by simp [Fi.numV, List.foldl_append]
theorem Fi.dig10 (d : Nat) (h : d < 10) : (UInt8.ofNat (48 + d)).toNat = 48 + d := by rw [UInt8.toNat_ofNat', Nat.mod_eq_of_lt (by omega)]
theorem Fi.numV_dec (u : Nat) : Fi.numV (Lib.decDigits u) = (u : Int) := by
  rw [Lib.decDigits]
  split
  · rename_i h
    simp only [Fi.numV, List.foldl_cons, List.foldl_nil, Fi.dig10 u h]
    omega
  · rename_i h
    rw [Fi.numV_snoc, Fi.numV_dec (u / 10), Fi.dig10 _ (by omega)]
    omega
  termination_by u
  decreasing_by omega
theorem Fi.dec_digits (u : Nat) : ∀ b ∈ Lib.decDigits u, Fi.isD b = true := by
  rw [Lib.decDigits]
  split
  · rename_i h
    intro b hb
    rw [List.mem_singleton] at hb
    subst hb
    unfold Fi.isD
    rw [Fi.dig10 u h, decide_eq_true (by omega), decide_eq_true (by omega)]
    rfl
  · intro b hb
    rcases List.mem_append.1 hb with h | h
    · exact Fi.dec_digits (u / 10) b h
    · rw [List.mem_singleton] at h
      subst h
      unfold Fi.isD
      rw [Fi.dig10 _ (by omega), decide_eq_true (by omega), decide_eq_true (by omega)]
      rfl
  termination_by u
  decreasing_by omega
theorem Fi.dec_ne (u : Nat) : Lib.decDigits u ≠ [] := by
  rw [Lib.decDigits]
  split
  · simp
  · simp
theorem Fi.dec_len : ∀ (k u : Nat), u < 10 ^ (k + 1) → (Lib.decDigits u).length ≤ k + 1
  | 0, u, h => by rw [Lib.decDigits, dif_pos (by simpa using h)]; simp
  | k + 1, u, h => by
    rw [Lib.decDigits]
    split
    · simp
    · have := Fi.dec_len k (u / 10) (by rw [Nat.pow_succ] at h; omega)
      simp; omega

theorem Fi.isNum_dec (u : Nat) (most : Int) (h : (u : Int) ≤ most) : Fi.num (Lib.decDigits u) most = some (u : Int) := by
  unfold Fi.num Fi.isNum
  rw [Fi.numV_dec, Int.toNat_natCast, beq_self_eq_true, decide_eq_true h]
  rfl
theorem Fi.num_some {l : List UInt8} {most v : Int} (h : Fi.num l most = some v) : ∃ u : Nat, v = u ∧ (u : Int) ≤ most ∧ l = Lib.decDigits u := by
  unfold Fi.num at h
  split at h
  · rename_i h1
    unfold Fi.isNum at h1
    rw [Bool.and_eq_true, beq_iff_eq, decide_eq_true_eq] at h1
    obtain ⟨h2, h3⟩ := h1
    have h4 : Fi.numV l = ((Fi.numV l).toNat : Int) := by
      conv => lhs; rw [h2, Fi.numV_dec]
    simp only [Option.some.injEq] at h
    exact ⟨(Fi.numV l).toNat, by rw [← h]; exact h4, by omega, h2⟩
  · cases h
theorem Fi.num_none_of {l : List UInt8} {most : Int} (h : ∀ u : Nat, (u : Int) ≤ most → l ≠ Lib.decDigits u) : Fi.num l most = none := by
  rcases hn : Fi.num l most with _ | v
  · rfl
  · obtain ⟨u, _, h2, h3⟩ := Fi.num_some hn
    exact absurd h3 (h u h2)

theorem Fi.decFrom_app : ∀ (a : List UInt8) (b : UInt8) (acc : Nat), Lib.decFrom acc (a ++ [b]) = (Lib.decFrom acc a).bind fun n => (Lib.digitVal b).map fun d => n * 10 + d
  | [], b, acc => by
    simp only [List.nil_append, Lib.decFrom]
    rcases Lib.digitVal b with _ | d <;> rfl
  | c :: t, b, acc => by
    simp only [List.cons_append, Lib.decFrom]
    rcases Lib.digitVal c with _ | d
    · rfl
    · exact Fi.decFrom_app t b _
theorem Fi.digitVal_dig (d : Nat) (h : d < 10) : Lib.digitVal (UInt8.ofNat (48 + d)) = some d := by
  have key : ∀ d : Fin 10, Lib.digitVal (UInt8.ofNat (48 + d.val)) = some d.val := by decide
  exact key ⟨d, h⟩
theorem Fi.decFrom_dec (u : Nat) : Lib.decFrom 0 (Lib.decDigits u) = some u := by
  rw [Lib.decDigits]
  split
  · rename_i h
    simp only [Lib.decFrom, Fi.digitVal_dig u h]
    simp
  · rename_i h
    rw [Fi.decFrom_app, Fi.decFrom_dec (u / 10), Option.bind_some, Fi.digitVal_dig _ (by omega), Option.map_some]
    congr 1
    omega
  termination_by u
  decreasing_by omega
theorem Fi.atoi_dec (u : Nat) (h : u < 10000000000) : Lib.atoiAll (Lib.decDigits u) = .ok (u : Int) := by
  have hl : (Lib.decDigits u).length ≤ 10 := Fi.dec_len 9 u (by rw [show (10 : Nat) ^ (9 + 1) = 10000000000 from by decide]; exact h)
  rw [Lib.atoiAll_short _ (by omega)]
  have hne := Fi.dec_ne u
  have hd := Fi.dec_digits u
  have hf := Fi.decFrom_dec u
  rcases hc : Lib.decDigits u with _ | ⟨b, r⟩
  · exact absurd hc hne
  · rw [hc] at hd hf
    have hb := hd b List.mem_cons_self
    unfold Fi.isD at hb
    rw [Bool.and_eq_true, decide_eq_true_eq, decide_eq_true_eq] at hb
    have h45 : (b == 45) = false := by
      rw [beq_eq_false_iff_ne]
      rintro rfl
      exact absurd hb.1 (by decide)
    have h43 : (b == 43) = false := by
      rw [beq_eq_false_iff_ne]
      rintro rfl
      exact absurd hb.1 (by decide)
    have hn : Lib.decNat (b :: r) = some u := by
      unfold Lib.decNat
      simpa using hf
    unfold Lib.atoi
    simp only [h45, h43, hn, Bool.false_eq_true, if_false]
    rfl
end Go.Proofs.YtppmcnpjglackaaGreatDoor
