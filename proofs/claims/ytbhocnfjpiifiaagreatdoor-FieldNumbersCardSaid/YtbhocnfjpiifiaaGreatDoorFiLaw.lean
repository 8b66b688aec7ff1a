/- The laws FieldHex and FieldParts, by walking their texts. -/
import Derived.Test.YtbhocnfjpiifiaaGreatDoorFiStrip
import Derived.Laws.Bits128
import Derived.Laws.BitsAllLaws
namespace Go.Proofs.YtbhocnfjpiifiaaGreatDoor
open Go.RowKit Go.Stop
set_option linter.unusedSimpArgs false
set_option linter.unusedVariables false

theorem Fi.ba_len (s : ByteArray) : s.data.toList.length = s.size := by simp
def Fi.cutS (s : ByteArray) (n : Nat) : ByteArray := if n < s.size then s.extract 0 n else s
theorem Fi.cutS_list (s : ByteArray) (n : Nat) : (Fi.cutS s n).data.toList = s.data.toList.take n := by
  unfold Fi.cutS
  split
  · rw [Lib.extract_data]; simp
  · rw [List.take_of_length_le (by simp; omega)]
theorem Fi.cutS_size (s : ByteArray) (n : Nat) : (Fi.cutS s n).size ≤ n := by
  rw [← Fi.ba_len, Fi.cutS_list, List.length_take]; omega

set_option maxRecDepth 100000 in
set_option maxHeartbeats 400000 in
theorem Fi.cut_any (s : ByteArray) (n : Nat) (w : World) (hs : s.size ≤ maxLen) :
    Calls Tryz.prog 5 #[.string s, .int .i64 n] w fun e w' => e = .returned (.string (Fi.cutS s n)) ∧ w = w' := by
  unfold maxLen at hs
  by_cases h : n < s.size
  · have hc : Fi.cutS s n = s.extract 0 n := by unfold Fi.cutS; rw [if_pos h]
    have HC := Lib.hid hc
    clear hc
    go_enter Tryz.func5, Tryz.ntmps5
    go_wp2
    go_ret
    rw [HC.out]
    exact ⟨rfl, rfl⟩
  · have hc : Fi.cutS s n = s := by unfold Fi.cutS; rw [if_neg h]
    have HC := Lib.hid hc
    clear hc
    go_enter Tryz.func5, Tryz.ntmps5
    go_wp2
    go_ret
    rw [HC.out]
    exact ⟨rfl, rfl⟩

def Fi.hexV (l : List UInt8) : Int := (Fi.hex l).getD 0
theorem Fi.k1 : Fi.hex [48, 48, 69, 57] = some 233 := by decide +kernel
theorem Fi.k2 : Fi.hex [48, 48, 48, 69, 57] = none := by decide +kernel
theorem Fi.k3 : Fi.strip [48, 57, 53, 56, 32, 35, 32, 97, 32, 110, 111, 116, 101] = [48, 57, 53, 56] := by decide +kernel
theorem Fi.nd233 : Fi.nd 233 = 2 := by rw [Fi.nd, dif_neg (by decide), Fi.nd, dif_pos (by decide)]
theorem Fi.k4 : Fi.text 233 = [48, 48, 69, 57] := by unfold Fi.text; rw [Fi.nd233]; decide +kernel

set_option maxRecDepth 100000 in
set_option maxHeartbeats 2000000 in
theorem Fi.awake_any (w : World) (hL : Fi.Laid w) : Calls Tryz.prog 4 #[] w fun e w' => e = .returned (.bool true) ∧ Below w.heap.size w w' := by
  have c1 : ∀ W : World, Calls Tryz.prog 6 #[.string ⟨#[48, 48, 69, 57]⟩] W fun e w' => e = .returned (.tuple #[.int .i32 233, .bool true]) ∧ w' = W := fun W => (Fi.hex_any _ W).mono fun e w' h => ⟨by
    have := h.1
    unfold Fi.RetHex at this
    rw [this, show (⟨#[48, 48, 69, 57]⟩ : ByteArray).data.toList = [48, 48, 69, 57] from rfl, Fi.k1]; rfl, h.2⟩
  have c2 : ∀ W : World, Calls Tryz.prog 6 #[.string ⟨#[48, 48, 48, 69, 57]⟩] W fun e w' => e = .returned (.tuple #[.int .i32 0, .bool false]) ∧ w' = W := fun W => (Fi.hex_any _ W).mono fun e w' h => ⟨by
    have := h.1
    unfold Fi.RetHex at this
    rw [this, show (⟨#[48, 48, 48, 69, 57]⟩ : ByteArray).data.toList = [48, 48, 48, 69, 57] from rfl, Fi.k2]; rfl, h.2⟩
  have c3 : ∀ W : World, Fi.Laid W → Calls Tryz.prog 12 #[.string ⟨#[48, 57, 53, 56, 32, 35, 32, 97, 32, 110, 111, 116, 101]⟩] W fun e w' => e = .returned (.string ⟨#[48, 57, 53, 56]⟩) ∧ Below W.heap.size W w' := fun W hW => (Fi.strip_any _ (by decide) W hW).mono fun e w' h => ⟨by
    rw [h.1, show (⟨#[48, 57, 53, 56, 32, 35, 32, 97, 32, 110, 111, 116, 101]⟩ : ByteArray).data.toList = [48, 57, 53, 56, 32, 35, 32, 97, 32, 110, 111, 116, 101] from rfl, Fi.k3], h.2⟩
  have c4 : ∀ W : World, Fi.Laid W → Calls Tryz.prog 13 #[.int .i32 233] W fun e w' => e = .returned (.string ⟨#[48, 48, 69, 57]⟩) ∧ Below W.heap.size W w' := fun W hW => (Fi.text_any 233 (by decide) W hW).mono fun e w' h => ⟨by
    rw [h.1, Fi.k4], h.2⟩
  go_enter Tryz.func4, Tryz.ntmps4
  go_wp2_with fail
  refine (c1 _).mono ?_
  rintro e w1 ⟨rfl, rfl⟩
  go_wp2_with fail
  refine (c2 _).mono ?_
  rintro e w2 ⟨rfl, rfl⟩
  go_wp2_with fail
  refine (c3 _ (by assumption)).mono ?_
  rintro e w3 ⟨rfl, hb3⟩
  have L3 := hL.below hb3
  go_wp2_with fail
  refine (c4 _ L3).mono ?_
  rintro e w4 ⟨rfl, hb4⟩
  go_wp2_with fail
  go_ret
  exact ⟨rfl, hb3.trans (hb4.mono hb3.size)⟩

theorem Fi.and21 (n : Int) : ∃ c : Nat, bits .and .i64 n 2097151 = (c : Int) ∧ c < 2097152 := by
  have hm : (BitVec.ofInt 64 2097151).toNat = 2 ^ 21 - 1 := by decide
  have key : (BitVec.ofInt 64 n &&& BitVec.ofInt 64 2097151).toNat = (n % ((2 ^ 64 : Nat) : Int)).toNat % 2 ^ 21 := by
    rw [BitVec.toNat_and, BitVec.toNat_ofInt, hm, Nat.and_two_pow_sub_one_eq_mod]
  refine ⟨(n % ((2 ^ 64 : Nat) : Int)).toNat % 2 ^ 21, ?_, ?_⟩
  · show IntKind.i64.wrap ((BitVec.ofInt 64 n &&& BitVec.ofInt 64 2097151).toNat : Nat) = _
    rw [key, IntKind.wrap_i64]
    omega
  · have : (2 : Nat) ^ 21 = 2097152 := by decide
    omega

theorem Fi.flat_take : ∀ (l : List (List UInt8)) (i : Nat), (l.take i).flatten.length ≤ l.flatten.length
  | [], i => by simp
  | x :: r, 0 => by simp
  | x :: r, i + 1 => by
    have := Fi.flat_take r i
    simp only [List.take_succ_cons, List.flatten_cons, List.length_append]
    omega
theorem Fi.glue_take (c : UInt8) (l : List (List UInt8)) (i : Nat) : (Fi.glue c (l.take i)).length ≤ (Fi.glue c l).length := by
  rcases l with _ | ⟨x, r⟩
  · simp [Fi.glue]
  rcases i with _ | i
  · simp [Fi.glue]
  simp only [List.take_succ_cons, Fi.glue, List.length_append, List.map_take]
  have := Fi.flat_take (r.map fun y => c :: y) i
  omega
theorem Fi.glue_size {l : List (List UInt8)} {t : List UInt8} (h : Fi.glue 59 l = t) (i : Nat) : (⟨(Fi.glue 59 (l.take i)).toArray⟩ : ByteArray).size ≤ t.length := by
  have := Fi.glue_take 59 l i
  rw [h] at this
  show (Fi.glue 59 (l.take i)).toArray.size ≤ _
  simpa using this

end Go.Proofs.YtbhocnfjpiifiaaGreatDoor
