/- Pages: what a value of pages is; in, Get, Blocks, by walking their texts. -/
import Derived.Test.YtamcpdggpdaioaaPgPlain
import Derived.Test.YtamcpdggpdaioaaRwTab
import Derived.Deep.QuietTactic
import Derived.BigQuiet
namespace Go.Proofs.Ytamcpdggpdaioaa
open Go.RowKit
set_option linter.unusedSimpArgs false
set_option linter.unusedVariables false

set_option maxRecDepth 100000 in
theorem Pg.in_any (c : Int) (w : World) : Calls Try.prog 30 #[.int .i32 c] w fun e w' => e = .returned (.bool (decide (0 ≤ c ∧ c ≤ 1114111))) ∧ w = w' := by
  go_enter Try.func30, Try.ntmps30
  by_cases h0 : 0 ≤ c
  · by_cases h1 : c ≤ 1114111
    · go_wp2
      go_ret
      exact ⟨ret_bool (by simp; omega), rfl⟩
    · go_wp2
      go_ret
      exact ⟨ret_bool (by simp; omega), rfl⟩
  · go_wp2
    go_ret
    exact ⟨ret_bool (by simp; omega), rfl⟩
theorem Pg.and_8 (n : Int) (h0 : 0 ≤ n) (h1 : n ≤ 1114111) : bits .and .i32 n 255 = n % 256 := by
  have hm : (BitVec.ofInt 32 255).toNat = 2 ^ 8 - 1 := by decide
  have key : (BitVec.ofInt 32 n &&& BitVec.ofInt 32 255).toNat = (n % ((2 ^ 32 : Nat) : Int)).toNat % 2 ^ 8 := by
    rw [BitVec.toNat_and, BitVec.toNat_ofInt, hm, Nat.and_two_pow_sub_one_eq_mod]
  show IntKind.i32.wrap ((BitVec.ofInt 32 n &&& BitVec.ofInt 32 255).toNat : Nat) = n % 256
  rw [key, IntKind.wrap_i32]
  omega
/-- A value of pages: the places, and the blocks. -/
def Pg.Is (w : World) (v : Value) (idx : List Int) (bl : List (List Int)) : Prop :=
  ∃ g A c, v = .pointer (some ⟨g, 0, none⟩) ∧ Rw.At w g 77 (idx.map (Value.int .u16) ++ [.slice A bl.length c]) ∧ Sl w w.heap.size A (bl.flatten.map (Value.int .u16))
/-- As a table of the numbers f has them. -/
def Pg.Of (w : World) (v : Value) (f : Int → Int) : Prop := Pg.Is w v (Pg.idx f 4352) (Pg.bls f 4352)
theorem Pg.Is.below {w w' : World} {v : Value} {idx : List Int} {bl : List (List Int)} (h : Pg.Is w v idx bl) (hb : Below w.heap.size w w') : Pg.Is w' v idx bl := by
  obtain ⟨g, A, c, hv, ha, hs⟩ := h
  exact ⟨g, A, c, hv, ha.below hb, hs.below hb hb.size⟩
theorem Pg.cell_last {w : World} {g : Nat} {t : TypeId} {xs : List Value} {v : Value} (h : Rw.At w g t (xs ++ [v])) {n : Nat} (hn : xs.length = n) : w.cell? ⟨g, n, none⟩ = some v :=
  h.cell n (by rw [List.getElem?_append_right (by omega), hn, Nat.sub_self]; rfl)
theorem Pg.cell_at {w : World} {g : Nat} {t : TypeId} {xs : List Value} {v u : Value} (h : Rw.At w g t (xs ++ [v])) {n : Nat} (hn : xs[n]? = some u) : w.cell? ⟨g, n, none⟩ = some u :=
  h.cell n (by rw [List.getElem?_append_left (List.getElem?_eq_some_iff.1 hn).1]; exact hn)
/-- The number that is looked up. -/
def Pg.get (f : Int → Int) (c : Int) : Int := if 0 ≤ c ∧ c ≤ 1114111 then f c else 0

set_option maxRecDepth 100000 in
set_option maxHeartbeats 4000000 in
theorem Pg.get_any (v : Value) (f : Int → Int) (c : Int) (w : World) (h : Pg.Of w v f) :
    Calls Try.prog 10 #[v, .int .i32 c] w fun e w' => e = .returned (.int .u16 (Pg.get f c)) ∧ Below w.heap.size w w' := by
  obtain ⟨g, A, cp, rfl, hat, hs⟩ := h
  obtain ⟨o, ho⟩ : ∃ o, Pg.get f c = o := ⟨_, rfl⟩
  rw [ho]
  by_cases hc : 0 ≤ c ∧ c ≤ 1114111
  · obtain ⟨N, hN⟩ : ∃ N : Nat, c / 256 = N := ⟨(c / 256).toNat, by omega⟩
    obtain ⟨M, hM⟩ : ∃ M : Nat, c % 256 = M := ⟨(c % 256).toNat, by omega⟩
    have hN' : N < 4352 := by omega
    have hM' : M < 256 := by omega
    have hcNM : c = 256 * (N : Int) + M := by omega
    have hand := Pg.and_8 c hc.1 hc.2
    rw [hM] at hand
    have hmem := (Pg.bls_mem f 4352 (Pg.blk f N)).2 (.inr ⟨N, hN', rfl⟩)
    have hix := Pg.idx_get f 4352 hN'
    have hp1 := Pg.at_lt hmem
    have hp2 := Pg.at_get hmem
    have hbl := Pg.bls_len f 4352
    obtain ⟨p, hp⟩ : ∃ p, Pg.at (Pg.bls f 4352) (Pg.blk f N) = p := ⟨_, rfl⟩
    rw [hp] at hix hp1 hp2
    have hfl := Pg.flat_get (Pg.bls f 4352) p M _ (Pg.bls_len256 f 4352) hp2 hM'
    rw [Pg.blk_get f N hM'] at hfl
    obtain ⟨bn, hbn⟩ : ∃ bn, (Pg.bls f 4352).length = bn := ⟨_, rfl⟩
    rw [hbn] at hp1 hbl hat
    have z0 := Pg.cell_at hat (n := N) (u := .int .u16 p) (by rw [List.getElem?_map, hix]; rfl)
    have z1 := Pg.cell_last hat (n := 4352) (by rw [List.length_map, Pg.idx_len])
    obtain ⟨b, o', rfl, hb, hcc⟩ := hs (by rw [List.length_map, Pg.flat_len _ (Pg.bls_len256 f 4352), hbn]; omega)
    have hz2 := hcc (p * 256 + M) (by rw [List.length_map, Pg.flat_len _ (Pg.bls_len256 f 4352), hbn]; omega)
    rw [List.getElem?_map, hfl, Option.map_some, ← hcNM] at hz2
    have hoo : f c = o := by rw [← ho]; unfold Pg.get; rw [if_pos hc]
    rw [hoo] at hz2
    have hI := Pg.in_any c w
    rw [decide_eq_true hc] at hI
    have HI := Lib.hid hI
    have hNI : (N : Int) < 4352 := by omega
    have hN0 : (0 : Int) ≤ N := by omega
    have hMI : (M : Int) < 256 := by omega
    have hM0 : (0 : Int) ≤ M := by omega
    have hpI : (p : Int) < bn := by omega
    have hp0 : (0 : Int) ≤ p := by omega
    have hgl := hat.lt
    rw [← Nat.add_assoc] at hz2
    clear hI ho hc hM hcNM hmem hix hp2 hp hfl hbn hs hcc hoo hbl hat
    go_enter Try.func10, Try.ntmps10
    go_wp2_with fail
    refine HI.out.mono ?_
    rintro e w1 ⟨rfl, rfl⟩
    go_wp2_with fail
    go_quiet (fail)
    go_wp2_with fail
    go_ret
    exact ⟨rfl, below_drewN (Below.refl _ _) _⟩
  · have hoo : o = 0 := by rw [← ho]; unfold Pg.get; rw [if_neg hc]
    subst hoo
    have hI := Pg.in_any c w
    rw [decide_eq_false hc] at hI
    have HI := Lib.hid hI
    clear hI ho hc hat hs
    go_enter Try.func10, Try.ntmps10
    go_wp2_with fail
    refine HI.out.mono ?_
    rintro e w1 ⟨rfl, rfl⟩
    go_wp2_with fail
    go_ret
    exact ⟨rfl, Below.refl _ _⟩

set_option maxRecDepth 100000 in
theorem Pg.blocks_any (v : Value) (f : Int → Int) (w : World) (h : Pg.Of w v f) :
    Calls Try.prog 13 #[v] w fun e w' => e = .returned (.int .i64 (Pg.bls f 4352).length) ∧ w = w' := by
  obtain ⟨g, A, cp, rfl, hat, hs⟩ := h
  obtain ⟨bn, hbn⟩ : ∃ bn, (Pg.bls f 4352).length = bn := ⟨_, rfl⟩
  rw [hbn] at hat ⊢
  have z1 := Pg.cell_last hat (n := 4352) (by rw [List.length_map, Pg.idx_len])
  clear hbn hs hat
  go_enter Try.func13, Try.ntmps13
  go_wp2
  go_ret
  exact ⟨rfl, rfl⟩
end Go.Proofs.Ytamcpdggpdaioaa
