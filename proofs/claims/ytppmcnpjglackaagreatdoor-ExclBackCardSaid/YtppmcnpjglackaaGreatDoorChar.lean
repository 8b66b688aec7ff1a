/- The laws' Char and Chars, by walking their texts. -/
import Derived.Test.YtppmcnpjglackaaGreatDoorCpPlainD
import Derived.Test.YtppmcnpjglackaaGreatDoorSlt
import Derived.Laws.BitsAllLaws
namespace Go.Proofs.YtppmcnpjglackaaGreatDoor
open Go.RowKit
set_option linter.unusedSimpArgs false
set_option linter.unusedVariables false

theorem Ch.isC_iff (c : Int) : C.isC c = true ↔ (0 ≤ c ∧ c ≤ 1114111 ∧ (c < 55296 ∨ 57343 < c)) := by unfold C.isC; simp
theorem Ch.take_succ_get {α : Type} {l : List α} {k : Nat} {x : α} (h : l[k]? = some x) : l.take (k + 1) = l.take k ++ [x] := by
  rw [List.take_add_one, h]; rfl
def Ch.RetOwn (el : TypeId) (k : IntKind) (l : List Int) (w : World) (e : Ending) (w' : World) : Prop :=
  ∃ A c, e = .returned (.slice A l.length c) ∧ w'.ownsRow w.heap.size el 1 (.slice A l.length c) l.length (l.map (Value.int k)) ∧ Below w.heap.size w w'
theorem Ch.RetOwn.mk {el : TypeId} {k : IntKind} {l : List Int} {w w' : World} {v : Value} {m : Nat} {xs : List Value} (h : w'.ownsRow w.heap.size el 1 v m xs) (hm : m = l.length) (hx : xs = l.map (Value.int k)) (hb : Below w.heap.size w w') :
    Ch.RetOwn el k l w (.returned v) w' := by
  subst hm hx
  obtain ⟨A, c, rfl⟩ := own_form h
  exact ⟨A, c, rfl, h, hb⟩
theorem Ch.and_21 (n : Int) : bits .and .i64 n 2097151 = n % 2097152 := by
  have hm : (BitVec.ofInt 64 2097151).toNat = 2 ^ 21 - 1 := by decide
  have key : (BitVec.ofInt 64 n &&& BitVec.ofInt 64 2097151).toNat = (n % ((2 ^ 64 : Nat) : Int)).toNat % 2 ^ 21 := by
    rw [BitVec.toNat_and, BitVec.toNat_ofInt, hm, Nat.and_two_pow_sub_one_eq_mod]
  show IntKind.i64.wrap ((BitVec.ofInt 64 n &&& BitVec.ofInt 64 2097151).toNat : Nat) = n % 2097152
  rw [key, IntKind.wrap_i64]
  omega
theorem Ch.and_11 (n : Int) : bits .and .i64 n 2047 = n % 2048 := by
  have hm : (BitVec.ofInt 64 2047).toNat = 2 ^ 11 - 1 := by decide
  have key : (BitVec.ofInt 64 n &&& BitVec.ofInt 64 2047).toNat = (n % ((2 ^ 64 : Nat) : Int)).toNat % 2 ^ 11 := by
    rw [BitVec.toNat_and, BitVec.toNat_ofInt, hm, Nat.and_two_pow_sub_one_eq_mod]
  show IntKind.i64.wrap ((BitVec.ofInt 64 n &&& BitVec.ofInt 64 2047).toNat : Nat) = n % 2048
  rw [key, IntKind.wrap_i64]
  omega

def Ch.K (x : Int) : Int := if C.isC (x % 2097152) then x % 2097152 else x % 2097152 % 2048
theorem Ch.K_is (x : Int) : C.isC (Ch.K x) = true := by
  unfold Ch.K
  split
  · assumption
  · rw [Ch.isC_iff]; omega

theorem Ch.K_bd (x : Int) : -2147483648 ≤ Ch.K x ∧ Ch.K x ≤ 2147483647 := by
  have := (Ch.isC_iff _).1 (Ch.K_is x)
  omega

set_option maxRecDepth 100000 in
theorem Ch.ris_any (c : Int) (w : World) : Calls Tryz.prog 20 #[.int .i64 c] w fun e w' => e = .returned (.bool (C.isC c)) ∧ w = w' := by
  obtain ⟨q, hq⟩ : ∃ q, C.isC c = q := ⟨_, rfl⟩
  rw [hq]
  have HQ := Lib.hid hq
  clear hq
  go_enter Tryz.func20, Tryz.ntmps20
  by_cases h0 : 0 ≤ c
  · by_cases h1 : c ≤ 1114111
    · by_cases h2 : c < 55296
      · go_wp2
        go_ret
        exact ⟨by rw [← HQ.out]; exact ret_bool (by unfold C.isC; symm; exact decide_eq_true (by omega)), rfl⟩
      · by_cases h3 : 57343 < c
        · go_wp2
          go_ret
          exact ⟨by rw [← HQ.out]; exact ret_bool (by unfold C.isC; symm; exact decide_eq_true (by omega)), rfl⟩
        · go_wp2
          go_ret
          exact ⟨by rw [← HQ.out]; exact ret_bool (by unfold C.isC; symm; exact decide_eq_false (by omega)), rfl⟩
    · go_wp2
      go_ret
      exact ⟨by rw [← HQ.out]; exact ret_bool (by unfold C.isC; symm; exact decide_eq_false (by omega)), rfl⟩
  · go_wp2
    go_ret
    exact ⟨by rw [← HQ.out]; exact ret_bool (by unfold C.isC; symm; exact decide_eq_false (by omega)), rfl⟩

set_option maxRecDepth 100000 in
set_option maxHeartbeats 400000 in
theorem Ch.char_any (x : Int) (w : World) :
    Calls Tryz.prog 6 #[.int .i64 x] w fun e w' => e = .returned (.int .i32 (Ch.K x)) ∧ w = w' := by
  have e1 := Ch.and_21 x
  have e2 := Ch.and_11 (x % 2097152)
  have b1 : 0 ≤ x % 2097152 := by omega
  have b2 : x % 2097152 ≤ 2097151 := by omega
  have b3 : 0 ≤ x % 2048 := by omega
  have b4 : x % 2048 ≤ 2047 := by omega
  by_cases hi : C.isC (x % 2097152) = true
  · have hk : Ch.K x = x % 2097152 := by unfold Ch.K; rw [if_pos hi]
    have HK := Lib.hid hk
    clear hk
    go_enter Tryz.func6, Tryz.ntmps6
    go_wp2_with (go_at_call 20; refine (Ch.ris_any _ _).mono ?_; rintro e w' ⟨rfl, rfl⟩)
    go_ret
    exact ⟨ret_int HK.out.symm, rfl⟩
  · have hk : Ch.K x = x % 2048 := by unfold Ch.K; rw [if_neg hi]; omega
    have hi' : C.isC (x % 2097152) = false := by simpa using hi
    have HK := Lib.hid hk
    clear hk hi
    go_enter Tryz.func6, Tryz.ntmps6
    go_wp2_with (go_at_call 20; refine (Ch.ris_any _ _).mono ?_; rintro e w' ⟨rfl, rfl⟩)
    go_ret
    exact ⟨ret_int HK.out.symm, rfl⟩

set_option maxRecDepth 100000 in
set_option maxHeartbeats 1000000 in
theorem Ch.chars_any (A : Option Addr) (len cap B : Nat) (l : List Int) (m : Nat) (w : World) (hB : B ≤ w.heap.size) (hl : l.length = min len m) (hm : m ≤ 1000) (hA : Sl w B A (l.map (Value.int .i64))) (hlen : len ≤ maxLen) :
    Calls Tryz.prog 14 #[.slice A len cap, .int .i64 m] w (Ch.RetOwn 21 .i32 (l.map Ch.K) w) := by
  have HL := Lib.hid hl
  clear hl
  unfold maxLen at hlen
  obtain ⟨i0, hi, hz0, hz1, hz2⟩ := info_parts infoRune
  go_enter Tryz.func14, Tryz.ntmps14
  go_wp2
  go_loopw [6, 5] (fun i v wr => ∃ k : Nat, k ≤ len ∧ k ≤ m ∧ i = .int .i64 k ∧ wr.ownsRow w.heap.size 21 1 v k (((l.take k).map Ch.K).map (Value.int .i32)) ∧ Below w.heap.size w wr) (fun i _ _ => m - (intOf i).toNat)
  case atStart => exact ⟨0, by omega, by omega, rfl, World.ownsRow_nil _ _ _ _, Below.refl _ _⟩
  case round =>
    obtain ⟨k, hk, hkm, rfl, hown, hbel⟩ := hrel
    have hsz := hbel.size
    have hfin : ¬ (k < len ∧ k < m) → wr.ownsRow w.heap.size 21 1 u5 (l.map Ch.K).length ((l.map Ch.K).map (Value.int .i32)) := by
      intro h
      have hkl : l.length = k := by rw [HL.out]; omega
      rw [List.length_map, hkl]
      rwa [List.take_of_length_le (by omega)] at hown
    have HF := Lib.hid hfin
    clear hfin
    by_cases hkn : (k : Int) < len
    · by_cases hkm' : (k : Int) < m
      · obtain ⟨x, hx⟩ : ∃ x, l[k]? = some x := ⟨_, List.getElem?_eq_getElem (by rw [HL.out]; omega)⟩
        obtain ⟨b, o, rfl, hlt, hc⟩ := hA.belowN hbel hB (Nat.le_refl _) (by rw [List.length_map, HL.out]; omega)
        have hcell := hc k (by rw [List.length_map, HL.out]; omega)
        rw [List.getElem?_map, hx] at hcell
        simp only [Option.map] at hcell
        have htk := Ch.take_succ_get hx
        have HTK := Lib.hid htk
        clear hx htk hc
        go_wp2_with (first | (go_at_call 6; refine (Ch.char_any _ _).mono ?_; rintro e w' ⟨rfl, rfl⟩) | (at_builtin; refine wpList_push1 _ rfl _ _ _ rfl w.heap.size 21 i0 _ 4 Tryz.underlying29 hi hz0 hz1 hz2 rfl _ k _ rfl hown _ rfl rfl (by simp only [maxLen]; omega) (by omega) hsz ?_; intro v1 w2 hown2 hb2))
        exact ⟨⟨k + 1, by omega, by omega, by go_num, by rw [HTK.out, List.map_append, List.map_append]; exact hown2, hbel.trans hb2⟩, by simp [intOf]; omega⟩
      · go_wp2
        go_ret
        exact Ch.RetOwn.mk (HF.out (by omega)) rfl rfl hbel
    · go_wp2
      go_ret
      exact Ch.RetOwn.mk (HF.out (by omega)) rfl rfl hbel
end Go.Proofs.YtppmcnpjglackaaGreatDoor
