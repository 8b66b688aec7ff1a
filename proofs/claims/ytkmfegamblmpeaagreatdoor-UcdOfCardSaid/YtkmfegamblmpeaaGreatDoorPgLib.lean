/- The layer model: a character's class, mapping and full decomposition, by walking the text. -/
import Derived.Test.YtkmfegamblmpeaaGreatDoorClone
import Derived.Test.YtkmfegamblmpeaaGreatDoorUdPlain
import Derived.Deep.QuietTactic
import Derived.BigQuiet
namespace Go.Proofs.YtkmfegamblmpeaaGreatDoor
open Go.RowKit
set_option linter.unusedSimpArgs false
set_option linter.unusedVariables false

/-- A table that may be searched. -/
def Md.Ok (T : List Rw.Row) : Prop := T.length ≤ 1000000 ∧ Md.rises T ∧ Md.bd T ∧ ∀ r ∈ T, r.2.2.length ≤ 1000000
/-- A value that is a table: its rows, and the bounds of the set of those that aren't composed. -/
def Md.Is (w : World) (v : Value) (T : List Rw.Row) (S : List Int) : Prop := ∃ A c XA xc, v = Md.tv A T.length c XA S.length xc ∧ Rw.Sees w A T ∧ Sl w w.heap.size XA (S.map (Value.int .i32))
theorem Md.Is.below {w w' : World} {v : Value} {T : List Rw.Row} {S : List Int} (h : Md.Is w v T S) (hb : Below w.heap.size w w') : Md.Is w' v T S := by
  obtain ⟨A, c, XA, xc, h1, h2, h3⟩ := h
  exact ⟨A, c, XA, xc, h1, h2.below hb, h3.below hb hb.size⟩
theorem Md.find_is {v : Value} {T : List Rw.Row} {S : List Int} {w : World} (d : Int) (ok : Md.Ok T) (h : Md.Is w v T S) (h3 : -2147483648 ≤ d) (h4 : d ≤ 2147483647) :
    Calls Tryz.prog 83 #[v, .int .i32 d] w (Md.RetFind T d w) := by
  obtain ⟨A, c, XA, xc, rfl, h2, _⟩ := h
  exact Md.find_any A T.length c XA S.length xc T d w rfl ok.1 ok.2.1 ok.2.2.1 h3 h4 h2

set_option maxRecDepth 100000 in
set_option maxHeartbeats 1000000 in
theorem Md.class_any (v : Value) (T : List Rw.Row) (S : List Int) (d : Int) (w : World) (ok : Md.Ok T) (h : Md.Is w v T S) (h3 : -2147483648 ≤ d) (h4 : d ≤ 2147483647) :
    Calls Tryz.prog 111 #[v, .int .i32 d] w fun e w' => e = .returned (.int .i64 (Md.cls T d)) ∧ Below w.heap.size w w' := by
  rw [Md.cls_of]
  have hv := h
  obtain ⟨A, c, XA, xc, rfl, h2, hX⟩ := hv
  obtain ⟨xn, hxn⟩ : ∃ k, S.length = k := ⟨_, rfl⟩
  obtain ⟨n, hn⟩ : ∃ k, T.length = k := ⟨_, rfl⟩
  rw [hn, hxn] at h ⊢
  have hba : Below w.heap.size w (w.alloc (.cells #[.slice A n c, .slice XA xn xc] 50)) := (Below.refl _ _).alloc (Nat.le_refl _) _
  have hat : Rw.At (w.alloc (.cells #[.slice A n c, .slice XA xn xc] 50)) w.heap.size 50 [.slice A n c, .slice XA xn xc] := Rw.At.new w 50 [.slice A n c, .slice XA xn xc]
  have hF := Md.find_is d ok (h.below hba) h3 h4
  have z0 := hat.cell 0 rfl
  have z1 := hat.cell 1 rfl
  have HB := Lib.hid hba
  clear h h2 hX hn hxn hba hat ok
  unfold Md.tv at hF ⊢
  go_enter Tryz.func111, Tryz.ntmps111
  go_wp2_with fail
  refine hF.mono ?_
  rintro e w1 ⟨a, rfl, _, hb1⟩
  have HB1 := Lib.hid (HB.out.trans (hb1.mono HB.out.size))
  clear hb1 z0 z1 hF
  unfold Md.rv
  obtain ⟨r, hr⟩ : ∃ r, Md.rowOf T d = r := ⟨_, rfl⟩
  rw [hr]
  have HR := Lib.hid hr
  clear hr
  go_wp2_with fail
  go_ret
  rw [HR.out]
  exact ⟨rfl, HB1.out.alloc HB1.out.size _⟩

/-- A row of runes of the call's own. -/
def Md.RetOwn (l : List Int) (w : World) (e : Ending) (w' : World) : Prop :=
  ∃ A c, e = .returned (.slice A l.length c) ∧ w'.ownsRow w.heap.size 21 1 (.slice A l.length c) l.length (l.map (Value.int .i32)) ∧ Below w.heap.size w w'

set_option maxRecDepth 100000 in
set_option maxHeartbeats 1000000 in
theorem Md.map_any (v : Value) (T : List Rw.Row) (S : List Int) (d : Int) (w : World) (ok : Md.Ok T) (h : Md.Is w v T S) (h3 : -2147483648 ≤ d) (h4 : d ≤ 2147483647) :
    Calls Tryz.prog 110 #[v, .int .i32 d] w (Md.RetOwn (Md.mp T d) w) := by
  have hv := h
  obtain ⟨A, c, XA, xc, rfl, h2, hX⟩ := hv
  obtain ⟨xn, hxn⟩ : ∃ k, S.length = k := ⟨_, rfl⟩
  obtain ⟨n, hn⟩ : ∃ k, T.length = k := ⟨_, rfl⟩
  rw [hn, hxn] at h ⊢
  have hba : Below w.heap.size w (w.alloc (.cells #[.slice A n c, .slice XA xn xc] 50)) := (Below.refl _ _).alloc (Nat.le_refl _) _
  have hat : Rw.At (w.alloc (.cells #[.slice A n c, .slice XA xn xc] 50)) w.heap.size 50 [.slice A n c, .slice XA xn xc] := Rw.At.new w 50 [.slice A n c, .slice XA xn xc]
  have hF := Md.find_is d ok (h.below hba) h3 h4
  have z0 := hat.cell 0 rfl
  have z1 := hat.cell 1 rfl
  have HB := Lib.hid hba
  have hmb := Md.mp_bd ok.2.2.1 d
  have hlen : (Md.rowOf T d).2.2.length ≤ 1000000 := by
    unfold Md.rowOf
    cases hf : Md.find T d with
    | none => exact Nat.zero_le _
    | some r => exact ok.2.2.2 r (Md.find_some hf).1
  have HP := Lib.hid (Hg.pair_any d (w.alloc (.cells #[.slice A n c, .slice XA xn xc] 50)) h3 h4)
  obtain ⟨m, hm⟩ : ∃ m, Md.mp T d = m := ⟨_, rfl⟩
  rw [hm] at hmb ⊢
  have HM := Lib.hid hm
  rcases hpk : Hg.pairK d with ⟨x, y, is⟩
  have hp := HP.out
  rw [hpk] at hp
  have HPK := Lib.hid hpk
  clear h h2 hX hn hxn hba hat ok hm hpk HP
  unfold Md.tv at hF ⊢
  cases is
  · have hm2 : m = (Md.rowOf T d).2.2 := by
      rw [← HM.out, ← Md.rmp_of]
      unfold Md.mp
      rw [HPK.out, if_neg (by simp)]
    obtain ⟨r, hr⟩ : ∃ r, Md.rowOf T d = r := ⟨_, rfl⟩
    unfold Md.RetFind at hF
    rw [hr] at hm2 hlen hF
    subst hm2
    clear hr HM HPK hmb
    go_enter Tryz.func110, Tryz.ntmps110
    go_wp2_with fail
    refine hp.mono ?_
    rintro e w0 ⟨rfl, rfl⟩
    go_wp2_with fail
    refine hF.mono ?_
    rintro e w1 ⟨a, rfl, hsl, hb1⟩
    have HB1 := Lib.hid (HB.out.trans (hb1.mono HB.out.size))
    have hbn : Below w1.heap.size w1 (w1.alloc (.cells #[.int .i32 r.1, .int .i64 r.2.1, .slice a.1 r.2.2.length a.2] 99)) := (Below.refl _ _).alloc (Nat.le_refl _) _
    have hC := R.clone_any a.1 r.2.2.length a.2 _ r.2.2 _ rfl hlen (Nat.le_refl _) (hsl.below hbn hbn.size)
    have HB2 := Lib.hid (HB1.out.trans (hbn.mono HB1.out.size))
    clear hb1 z0 z1 hF hsl hbn hp
    unfold Md.rv
    go_wp2_with fail
    refine hC.mono ?_
    rintro e w2 ⟨A', c', rfl, hown, hb2⟩
    have HO := Lib.hid (own_base hown HB2.out.size)
    have HB3 := Lib.hid (HB2.out.trans (hb2.mono HB2.out.size))
    clear hown hb2 hC
    go_wp2_with fail
    go_ret
    exact ⟨A', c', rfl, HO.out, HB3.out⟩
  · have hm2 : m = [x, y] := by
      rw [← HM.out]
      unfold Md.mp
      rw [HPK.out, if_pos rfl]
    subst hm2
    clear HM HPK hF hlen
    go_enter Tryz.func110, Tryz.ntmps110
    go_wp2_with fail
    refine hp.mono ?_
    rintro e w0 ⟨rfl, rfl⟩
    go_wp2_with fail
    go_ret
    have hnew := heap_alloc_new (w.alloc (.cells #[.slice A n c, .slice XA xn xc] 50)) (.cells #[.int .i32 x, .int .i32 y] 21)
    rw [World.size_alloc] at hnew
    exact ⟨_, _, rfl, ⟨rfl, .inr ⟨_, _, #[.int .i32 x, .int .i32 y], rfl, Nat.le_succ _, hnew, Nat.le_refl _, by decide, rfl, rfl⟩⟩, HB.out.alloc HB.out.size _⟩
end Go.Proofs.YtkmfegamblmpeaaGreatDoor

/- Pages: what a value of pages is; in, Get, Blocks, by walking their texts. -/
namespace Go.Proofs.YtkmfegamblmpeaaGreatDoor
open Go.RowKit
set_option linter.unusedSimpArgs false
set_option linter.unusedVariables false

set_option maxRecDepth 100000 in
theorem Pg.in_any (c : Int) (w : World) : Calls Tryz.prog 69 #[.int .i32 c] w fun e w' => e = .returned (.bool (decide (0 ≤ c ∧ c ≤ 1114111))) ∧ w = w' := by
  go_enter Tryz.func69, Tryz.ntmps69
  by_cases h0 : 0 ≤ c
  · by_cases h1 : c ≤ 1114111
    · go_wp2
      go_ret
      exact ⟨ret_bool (by simp; omega), rfl⟩
    · go_wp2
      go_ret
      exact ⟨ret_bool (by simp; omega), rfl⟩
  · go_wp2
    go_ret
    exact ⟨ret_bool (by simp; omega), rfl⟩
theorem Pg.and_8 (n : Int) (h0 : 0 ≤ n) (h1 : n ≤ 1114111) : bits .and .i32 n 255 = n % 256 := by
  have hm : (BitVec.ofInt 32 255).toNat = 2 ^ 8 - 1 := by decide
  have key : (BitVec.ofInt 32 n &&& BitVec.ofInt 32 255).toNat = (n % ((2 ^ 32 : Nat) : Int)).toNat % 2 ^ 8 := by
    rw [BitVec.toNat_and, BitVec.toNat_ofInt, hm, Nat.and_two_pow_sub_one_eq_mod]
  show IntKind.i32.wrap ((BitVec.ofInt 32 n &&& BitVec.ofInt 32 255).toNat : Nat) = n % 256
  rw [key, IntKind.wrap_i32]
  omega
/-- A value of pages: the places, and the blocks. -/
def Pg.Is (w : World) (v : Value) (idx : List Int) (bl : List (List Int)) : Prop :=
  ∃ g A c, v = .pointer (some ⟨g, 0, none⟩) ∧ Rw.At w g 129 (idx.map (Value.int .u16) ++ [.slice A bl.length c]) ∧ Sl w w.heap.size A (bl.flatten.map (Value.int .u16))
/-- As a table of the numbers f has them. -/
def Pg.Of (w : World) (v : Value) (f : Int → Int) : Prop := Pg.Is w v (Pg.idx f 4352) (Pg.bls f 4352)
theorem Pg.Is.below {w w' : World} {v : Value} {idx : List Int} {bl : List (List Int)} (h : Pg.Is w v idx bl) (hb : Below w.heap.size w w') : Pg.Is w' v idx bl := by
  obtain ⟨g, A, c, hv, ha, hs⟩ := h
  exact ⟨g, A, c, hv, ha.below hb, hs.below hb hb.size⟩
theorem Pg.cell_last {w : World} {g : Nat} {t : TypeId} {xs : List Value} {v : Value} (h : Rw.At w g t (xs ++ [v])) {n : Nat} (hn : xs.length = n) : w.cell? ⟨g, n, none⟩ = some v :=
  h.cell n (by rw [List.getElem?_append_right (by omega), hn, Nat.sub_self]; rfl)
theorem Pg.cell_at {w : World} {g : Nat} {t : TypeId} {xs : List Value} {v u : Value} (h : Rw.At w g t (xs ++ [v])) {n : Nat} (hn : xs[n]? = some u) : w.cell? ⟨g, n, none⟩ = some u :=
  h.cell n (by rw [List.getElem?_append_left (List.getElem?_eq_some_iff.1 hn).1]; exact hn)
/-- The number that is looked up. -/
def Pg.get (f : Int → Int) (c : Int) : Int := if 0 ≤ c ∧ c ≤ 1114111 then f c else 0

set_option maxRecDepth 100000 in
set_option maxHeartbeats 4000000 in
theorem Pg.get_any (v : Value) (f : Int → Int) (c : Int) (w : World) (h : Pg.Of w v f) :
    Calls Tryz.prog 37 #[v, .int .i32 c] w fun e w' => e = .returned (.int .u16 (Pg.get f c)) ∧ Below w.heap.size w w' := by
  obtain ⟨g, A, cp, rfl, hat, hs⟩ := h
  obtain ⟨o, ho⟩ : ∃ o, Pg.get f c = o := ⟨_, rfl⟩
  rw [ho]
  by_cases hc : 0 ≤ c ∧ c ≤ 1114111
  · obtain ⟨N, hN⟩ : ∃ N : Nat, c / 256 = N := ⟨(c / 256).toNat, by omega⟩
    obtain ⟨M, hM⟩ : ∃ M : Nat, c % 256 = M := ⟨(c % 256).toNat, by omega⟩
    have hN' : N < 4352 := by omega
    have hM' : M < 256 := by omega
    have hcNM : c = 256 * (N : Int) + M := by omega
    have hand := Pg.and_8 c hc.1 hc.2
    rw [hM] at hand
    have hmem := (Pg.bls_mem f 4352 (Pg.blk f N)).2 (.inr ⟨N, hN', rfl⟩)
    have hix := Pg.idx_get f 4352 hN'
    have hp1 := Pg.at_lt hmem
    have hp2 := Pg.at_get hmem
    have hbl := Pg.bls_len f 4352
    obtain ⟨p, hp⟩ : ∃ p, Pg.at (Pg.bls f 4352) (Pg.blk f N) = p := ⟨_, rfl⟩
    rw [hp] at hix hp1 hp2
    have hfl := Pg.flat_get (Pg.bls f 4352) p M _ (Pg.bls_len256 f 4352) hp2 hM'
    rw [Pg.blk_get f N hM'] at hfl
    obtain ⟨bn, hbn⟩ : ∃ bn, (Pg.bls f 4352).length = bn := ⟨_, rfl⟩
    rw [hbn] at hp1 hbl hat
    have z0 := Pg.cell_at hat (n := N) (u := .int .u16 p) (by rw [List.getElem?_map, hix]; rfl)
    have z1 := Pg.cell_last hat (n := 4352) (by rw [List.length_map, Pg.idx_len])
    obtain ⟨b, o', rfl, hb, hcc⟩ := hs (by rw [List.length_map, Pg.flat_len _ (Pg.bls_len256 f 4352), hbn]; omega)
    have hz2 := hcc (p * 256 + M) (by rw [List.length_map, Pg.flat_len _ (Pg.bls_len256 f 4352), hbn]; omega)
    rw [List.getElem?_map, hfl, Option.map_some, ← hcNM] at hz2
    have hoo : f c = o := by rw [← ho]; unfold Pg.get; rw [if_pos hc]
    rw [hoo] at hz2
    have hI := Pg.in_any c w
    rw [decide_eq_true hc] at hI
    have HI := Lib.hid hI
    have hNI : (N : Int) < 4352 := by omega
    have hN0 : (0 : Int) ≤ N := by omega
    have hMI : (M : Int) < 256 := by omega
    have hM0 : (0 : Int) ≤ M := by omega
    have hpI : (p : Int) < bn := by omega
    have hp0 : (0 : Int) ≤ p := by omega
    have hgl := hat.lt
    rw [← Nat.add_assoc] at hz2
    clear hI ho hc hM hcNM hmem hix hp2 hp hfl hbn hs hcc hoo hbl hat
    go_enter Tryz.func37, Tryz.ntmps37
    go_wp2_with fail
    refine HI.out.mono ?_
    rintro e w1 ⟨rfl, rfl⟩
    go_wp2_with fail
    go_quiet (fail)
    go_wp2_with fail
    go_ret
    exact ⟨rfl, below_drewN (Below.refl _ _) _⟩
  · have hoo : o = 0 := by rw [← ho]; unfold Pg.get; rw [if_neg hc]
    subst hoo
    have hI := Pg.in_any c w
    rw [decide_eq_false hc] at hI
    have HI := Lib.hid hI
    clear hI ho hc hat hs
    go_enter Tryz.func37, Tryz.ntmps37
    go_wp2_with fail
    refine HI.out.mono ?_
    rintro e w1 ⟨rfl, rfl⟩
    go_wp2_with fail
    go_ret
    exact ⟨rfl, Below.refl _ _⟩

end Go.Proofs.YtkmfegamblmpeaaGreatDoor
