/- Layer field, plain: a character's number in hexadecimal, written and read; no program in sight. -/
import Derived.Test.YtppmcnpjglackaaGreatDoorSlt
import Derived.Lib.Strings
import Derived.Lib.Bytealg
namespace Go.Proofs.YtppmcnpjglackaaGreatDoor
open Go.RowKit Go.Stop

def Fi.up (d : Nat) : UInt8 := UInt8.ofNat (if d < 10 then 48 + d else 55 + d)
def Fi.lo (d : Nat) : UInt8 := UInt8.ofNat (if d < 10 then 48 + d else 87 + d)
def Fi.low : Nat → Nat → List Nat
  | 0, _ => []
  | k + 1, n => Fi.low k (n / 16) ++ [n % 16]
def Fi.nd (n : Nat) : Nat := if h : n < 16 then 1 else Fi.nd (n / 16) + 1
  termination_by n
  decreasing_by omega
def Fi.text (n : Nat) : List UInt8 := (Fi.low (max 4 (Fi.nd n)) n).map Fi.up

theorem Fi.nd_pos (n : Nat) : 1 ≤ Fi.nd n := by rw [Fi.nd]; split <;> omega
theorem Fi.nd_le : ∀ (k n : Nat), n < 16 ^ (k + 1) → Fi.nd n ≤ k + 1
  | 0, n, h => by rw [Fi.nd, dif_pos (by simpa using h)]; exact Nat.le_refl _
  | k + 1, n, h => by
    rw [Fi.nd]
    split
    · omega
    · have := Fi.nd_le k (n / 16) (by rw [Nat.pow_succ] at h; omega)
      omega
theorem Fi.lt_nd (n : Nat) : n < 16 ^ Fi.nd n := by
  rw [Fi.nd]
  split
  · simpa
  · have := Fi.lt_nd (n / 16)
    rw [Nat.pow_succ]
    omega
  termination_by n
  decreasing_by omega
theorem Fi.nd_ge (n k : Nat) (h : 16 ^ k ≤ n) : k + 1 ≤ Fi.nd n := by
  rcases Nat.lt_or_ge (Fi.nd n) (k + 1) with hl | hl
  · have h1 := Fi.lt_nd n
    have h2 : 16 ^ Fi.nd n ≤ 16 ^ k := Nat.pow_le_pow_right (by decide) (by omega)
    omega
  · exact hl
theorem Fi.low_len : ∀ k n, (Fi.low k n).length = k
  | 0, _ => rfl
  | k + 1, n => by simp [Fi.low, Fi.low_len k]
theorem Fi.low_cons : ∀ (k n : Nat), Fi.low (k + 1) n = (n / 16 ^ k % 16) :: Fi.low k n
  | 0, n => by simp [Fi.low]
  | k + 1, n => by
    rw [Fi.low, Fi.low_cons k (n / 16), Fi.low, Nat.div_div_eq_div_mul, Nat.pow_succ, Nat.mul_comm 16]
    rfl
theorem Fi.low_get : ∀ (k n j : Nat), j < k → (Fi.low k n)[j]? = some (n / 16 ^ (k - 1 - j) % 16)
  | 0, _, _, h => by omega
  | k + 1, n, 0, _ => by rw [Fi.low_cons]; simp
  | k + 1, n, j + 1, h => by
    rw [Fi.low_cons, List.getElem?_cons_succ, Fi.low_get k n j (by omega), show k - 1 - j = k + 1 - 1 - (j + 1) by omega]
theorem Fi.low_pad (n : Nat) : ∀ (j k : Nat), n < 16 ^ k → Fi.low (j + k) n = List.replicate j 0 ++ Fi.low k n
  | 0, k, _ => by simp
  | j + 1, k, h => by
    have hk : n < 16 ^ (j + k) := Nat.lt_of_lt_of_le h (Nat.pow_le_pow_right (by decide) (by omega))
    rw [show j + 1 + k = (j + k) + 1 by omega, Fi.low_cons, Nat.div_eq_of_lt hk, Fi.low_pad n j k h]
    rfl
theorem Fi.low_lt : ∀ (k n : Nat), ∀ d ∈ Fi.low k n, d < 16
  | 0, _, d, h => by simp [Fi.low] at h
  | k + 1, n, d, h => by
    rw [Fi.low, List.mem_append] at h
    rcases h with h | h
    · exact Fi.low_lt k _ d h
    · simp at h; omega
/-- What HexText makes: noughts, and the digits that there are. -/
theorem Fi.text_eq (n : Nat) : Fi.text n = List.replicate (4 - Fi.nd n) 48 ++ (Fi.low (Fi.nd n) n).map Fi.up := by
  unfold Fi.text
  rw [show max 4 (Fi.nd n) = (4 - Fi.nd n) + Fi.nd n by omega, Fi.low_pad n _ _ (Fi.lt_nd n), List.map_append, List.map_replicate]
  rfl
theorem Fi.text_len (n : Nat) : (Fi.text n).length = max 4 (Fi.nd n) := by simp [Fi.text, Fi.low_len]
theorem Fi.text_le (n : Nat) (h : n ≤ 1114111) : (Fi.text n).length ≤ 6 := by
  rw [Fi.text_len]
  have := Fi.nd_le 5 n (by have : (16 : Nat) ^ 6 = 16777216 := by decide
                           rw [this]; omega)
  omega

/-- A digit's number; -1: it is none. -/
def Fi.digit (b : UInt8) : Int := if 48 ≤ b.toNat ∧ b.toNat ≤ 57 then (b.toNat : Int) - 48 else if 65 ≤ b.toNat ∧ b.toNat ≤ 70 then (b.toNat : Int) - 55 else -1
theorem Fi.digit_table : ∀ i : Fin 256, Lib.indexByte [48, 49, 50, 51, 52, 53, 54, 55, 56, 57, 65, 66, 67, 68, 69, 70] (UInt8.ofNat i.val) = Fi.digit (UInt8.ofNat i.val) := by decide +kernel
theorem Fi.digit_index (b : UInt8) : Lib.indexByte [48, 49, 50, 51, 52, 53, 54, 55, 56, 57, 65, 66, 67, 68, 69, 70] b = Fi.digit b := by
  have h := Fi.digit_table ⟨b.toNat, b.toNat_lt⟩
  simpa using h
theorem Fi.digit_up : ∀ d : Fin 16, Fi.digit (Fi.up d.val) = d.val := by decide
theorem Fi.digit_lt (b : UInt8) : Fi.digit b < 16 ∧ -1 ≤ Fi.digit b := by unfold Fi.digit; split <;> (try split) <;> omega
theorem Fi.up_digit (b : UInt8) (h : 0 ≤ Fi.digit b) : Fi.up (Fi.digit b).toNat = b := by
  have h2 := b.toNat_lt
  apply UInt8.toNat_inj.1
  unfold Fi.up
  unfold Fi.digit at h ⊢
  split at h
  · rename_i hc
    rw [if_pos hc, if_pos (by omega), UInt8.toNat_ofNat', Nat.mod_eq_of_lt (by omega)]
    omega
  · rename_i hc
    rw [if_neg hc]
    split at h
    · rename_i hd
      rw [if_pos hd, if_neg (by omega), UInt8.toNat_ofNat', Nat.mod_eq_of_lt (by omega)]
      omega
    · omega

/-- The number that digits are. -/
def Fi.val (l : List UInt8) : Int := l.foldl (fun n b => n * 16 + Fi.digit b) 0
def Fi.good (l : List UInt8) : Bool := l.all fun b => decide (0 ≤ Fi.digit b)
def Fi.long (l : List UInt8) : Bool := decide (4 ≤ l.length) && (decide (l.length ≤ 6) && !(decide (4 < l.length) && l.head? == some 48))
/-- A character's number. -/
def Fi.hex (l : List UInt8) : Option Int := if Fi.long l && (Fi.good l && decide (Fi.val l ≤ 1114111)) then some (Fi.val l) else none

theorem Fi.val_snoc (l : List UInt8) (b : UInt8) : Fi.val (l ++ [b]) = Fi.val l * 16 + Fi.digit b := by simp [Fi.val, List.foldl_append]
theorem Fi.good_snoc (l : List UInt8) (b : UInt8) : Fi.good (l ++ [b]) = (Fi.good l && decide (0 ≤ Fi.digit b)) := by simp [Fi.good, List.all_append]
theorem Fi.val_low : ∀ (k n : Nat), Fi.val ((Fi.low k n).map Fi.up) = ((n % 16 ^ k : Nat) : Int)
  | 0, n => by simp [Fi.low, Fi.val, Nat.mod_one]
  | k + 1, n => by
    rw [Fi.low, List.map_append, List.map_cons, List.map_nil, Fi.val_snoc, Fi.val_low k, Fi.digit_up ⟨n % 16, by omega⟩]
    have h1 : n % 16 ^ (k + 1) = n % 16 + 16 * (n / 16 % 16 ^ k) := by rw [Nat.pow_succ, Nat.mul_comm, Nat.mod_mul]
    rw [h1]
    simp only [Int.natCast_add, Int.natCast_mul]
    omega
theorem Fi.good_low (k n : Nat) : Fi.good ((Fi.low k n).map Fi.up) = true := by
  simp only [Fi.good, List.all_eq_true, List.mem_map]
  rintro b ⟨d, hd, rfl⟩
  rw [Fi.digit_up ⟨d, Fi.low_lt _ _ d hd⟩]
  simp
/-- Good digits are the text of their number. -/
theorem Fi.low_val' : ∀ (n : Nat) (l : List UInt8), l.length = n → Fi.good l = true → 0 ≤ Fi.val l ∧ Fi.val l < ((16 ^ l.length : Nat) : Int) ∧ (Fi.low l.length (Fi.val l).toNat).map Fi.up = l := by
  intro n
  induction n with
  | zero =>
    intro l hl _
    obtain rfl : l = [] := List.length_eq_zero_iff.1 hl
    simp [Fi.val, Fi.low]
  | succ n ih =>
    intro l hl h
    rcases List.eq_nil_or_concat l with rfl | ⟨m, b, hmb⟩
    · simp at hl
    rw [List.concat_eq_append] at hmb
    subst hmb
    rw [List.length_append, List.length_singleton] at hl
    rw [Fi.good_snoc, Bool.and_eq_true] at h
    obtain ⟨h1, h2⟩ := h
    have h2 := of_decide_eq_true h2
    obtain ⟨i0, i1, i2⟩ := ih m (by omega) h1
    have h3 := (Fi.digit_lt b).1
    rw [Fi.val_snoc, List.length_append, List.length_singleton]
    refine ⟨by omega, ?_, ?_⟩
    · rw [Nat.pow_succ, Int.natCast_mul]; omega
    · rw [Fi.low, List.map_append, List.map_singleton, show (Fi.val m * 16 + Fi.digit b).toNat / 16 = (Fi.val m).toNat by omega, i2,
        show (Fi.val m * 16 + Fi.digit b).toNat % 16 = (Fi.digit b).toNat by omega, Fi.up_digit b h2]
theorem Fi.low_val (l : List UInt8) (h : Fi.good l = true) : 0 ≤ Fi.val l ∧ Fi.val l < ((16 ^ l.length : Nat) : Int) ∧ (Fi.low l.length (Fi.val l).toNat).map Fi.up = l := Fi.low_val' _ l rfl h

/-- A number's text is read back. -/
theorem Fi.hex_text (c : Nat) (h : c ≤ 1114111) : Fi.hex (Fi.text c) = some (c : Int) := by
  have hv : Fi.val (Fi.text c) = c := by
    unfold Fi.text
    rw [Fi.val_low]
    have h1 := Fi.lt_nd c
    have h2 : 16 ^ Fi.nd c ≤ 16 ^ max 4 (Fi.nd c) := Nat.pow_le_pow_right (by decide) (by omega)
    rw [Nat.mod_eq_of_lt (by omega)]
  have hg : Fi.good (Fi.text c) = true := Fi.good_low _ _
  have hl := Fi.text_le c h
  have hl2 := Fi.text_len c
  have hlong : Fi.long (Fi.text c) = true := by
    unfold Fi.long
    rw [decide_eq_true (by omega), decide_eq_true hl, Bool.true_and, Bool.true_and]
    rcases Nat.lt_or_ge 4 (Fi.text c).length with h4 | h4
    · rw [decide_eq_true h4, Bool.true_and]
      have hnd : max 4 (Fi.nd c) = Fi.nd c := by omega
      obtain ⟨k, hk⟩ : ∃ k, Fi.nd c = k + 1 := ⟨Fi.nd c - 1, by have := Fi.nd_pos c; omega⟩
      unfold Fi.text
      rw [hnd, hk, Fi.low_cons, List.map_cons]
      have h1 := Fi.lt_nd c
      rw [hk, Nat.pow_succ] at h1
      have h2 : c / 16 ^ k < 16 := Nat.div_lt_of_lt_mul (by omega)
      have h3 : 16 ^ k ≤ c := by
        rcases Nat.lt_or_ge c (16 ^ k) with hlt | hge
        · have hk1 : 1 ≤ k := by omega
          have := Fi.nd_le (k - 1) c (by rw [show k - 1 + 1 = k by omega]; exact hlt)
          omega
        · exact hge
      have h4 : 0 < c / 16 ^ k := Nat.div_pos h3 (Nat.pow_pos (by decide))
      rw [Nat.mod_eq_of_lt h2]
      have key : ∀ d : Fin 16, 0 < d.val → Fi.up d.val ≠ 48 := by decide
      have := key ⟨c / 16 ^ k, h2⟩ h4
      simp [this]
    · rw [decide_eq_false (by omega)]; rfl
  unfold Fi.hex
  rw [hlong, hg, hv, decide_eq_true (by omega)]
  rfl

/-- What is read is written so. -/
theorem Fi.hex_iff (l : List UInt8) (h4 : 4 ≤ l.length) (h6 : l.length ≤ 6) (hg : Fi.good l = true) : (Fi.text (Fi.val l).toNat = l) ↔ Fi.long l = true := by
  obtain ⟨v0, v1, v2⟩ := Fi.low_val l hg
  have hlong : Fi.long l = !(decide (4 < l.length) && l.head? == some 48) := by
    unfold Fi.long
    rw [decide_eq_true h4, decide_eq_true h6, Bool.true_and, Bool.true_and]
  rw [hlong]
  obtain ⟨v, hv⟩ : ∃ v : Nat, Fi.val l = v := ⟨(Fi.val l).toNat, by omega⟩
  rw [hv] at v1 v2 ⊢
  rw [Int.toNat_natCast] at v2 ⊢
  have v1 : v < 16 ^ l.length := by exact_mod_cast v1
  obtain ⟨k, hk⟩ : ∃ k, l.length = k + 1 := ⟨l.length - 1, by omega⟩
  have hnd : Fi.nd v ≤ l.length := by rw [hk]; exact Fi.nd_le k v (by rw [← hk]; exact v1)
  rcases Nat.lt_or_ge 4 l.length with hgt | hle
  · rw [decide_eq_true hgt, Bool.true_and]
    have hd : v / 16 ^ k < 16 := Nat.div_lt_of_lt_mul (by rw [hk, Nat.pow_succ] at v1; omega)
    have hhead : l.head? = some (Fi.up (v / 16 ^ k)) := by
      rw [← v2, hk, Fi.low_cons, Nat.mod_eq_of_lt hd]; rfl
    have key : ∀ d : Fin 16, (Fi.up d.val = 48) ↔ d.val = 0 := by decide
    have hk0 := key ⟨v / 16 ^ k, hd⟩
    rw [hhead]
    constructor
    · intro ht
      have hl := congrArg List.length ht
      rw [Fi.text_len] at hl
      have hne : v / 16 ^ k ≠ 0 := by
        intro h0
        have h1 : v < 16 ^ k := by
          rcases Nat.lt_or_ge v (16 ^ k) with h | h
          · exact h
          · have := Nat.div_pos h (Nat.pow_pos (by decide)); omega
        have := Fi.nd_le (k - 1) v (by rw [show k - 1 + 1 = k by omega]; exact h1)
        omega
      have : Fi.up (v / 16 ^ k) ≠ 48 := fun h => hne (hk0.1 h)
      simp [this]
    · intro hb
      have hne : Fi.up (v / 16 ^ k) ≠ 48 := by simpa using hb
      have hpos : v / 16 ^ k ≠ 0 := fun h => hne (hk0.2 h)
      have hge : 16 ^ k ≤ v := by
        rcases Nat.lt_or_ge v (16 ^ k) with h | h
        · rw [Nat.div_eq_of_lt h] at hpos; omega
        · exact h
      have := Fi.nd_ge v k hge
      unfold Fi.text
      rw [show max 4 (Fi.nd v) = l.length by omega]
      exact v2
  · rw [decide_eq_false (by omega), Bool.false_and]
    have : max 4 (Fi.nd v) = l.length := by omega
    unfold Fi.text
    rw [this]
    exact ⟨fun _ => rfl, fun _ => v2⟩
end Go.Proofs.YtppmcnpjglackaaGreatDoor
