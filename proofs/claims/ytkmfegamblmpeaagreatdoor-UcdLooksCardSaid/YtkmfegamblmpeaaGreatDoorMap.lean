/- The layer cpset: what its walks share. -/
import Derived.Test.YtkmfegamblmpeaaGreatDoorLib3
import Derived.Test.YtkmfegamblmpeaaGreatDoorUdPlain
import Derived.BigQuiet
import Derived.Deep.QuietTactic
import Derived.WalkSpells
import Derived.Test.YtkmfegamblmpeaaGreatDoorMdTable
import Derived.Maps.Own
import Derived.WideKeyArr
namespace Go.Proofs.YtkmfegamblmpeaaGreatDoor
open Go.RowKit
set_option linter.unusedSimpArgs false
set_option linter.unusedVariables false

/-- A new set is handed back: its places. -/
def RetSet (l : List Int) (w : World) (e : Ending) (w' : World) : Prop :=
  ∃ A c, e = .returned (.agg #[.slice A l.length c]) ∧ w'.ownsRow w.heap.size 21 1 (.slice A l.length c) l.length (l.map (Value.int .i32)) ∧ Below w.heap.size w w'

/-- A call that lays its result's variable first: that variable's block, and what was there before. -/
theorem ret_blk {w wr : World} {cs : Array Value} {t : TypeId} (h : Below (w.heap.size + 1) (w.alloc (.cells cs t)) wr) : wr.heap[w.heap.size]? = some (.cells cs t (0, 0)) ∧ Below w.heap.size w wr := by
  refine ⟨(h.block w.heap.size (by omega)).trans (heap_alloc_new _ _), ?_⟩
  exact ((Below.refl _ _).alloc (Nat.le_refl _) _).trans (h.mono (by omega))
theorem blk_cell {w : World} {g : Nat} {cs : Array Value} {t : TypeId} (h : w.heap[g]? = some (.cells cs t (0, 0))) (i : Nat) : w.cell? ⟨g, i, none⟩ = cs[i]? ∧ w.frozen? ⟨g, i, none⟩ = false := by
  constructor
  · simp [World.cell?, h]
  · simp [World.frozen?, h]
theorem own_base {w : World} {base base' : Nat} {e : TypeId} {size n : Nat} {v : Value} {xs : List Value} (h : w.ownsRow base e size v n xs) (hb : base' ≤ base) : w.ownsRow base' e size v n xs := by
  obtain ⟨h1, h2⟩ := h
  refine ⟨h1, ?_⟩
  rcases h2 with h2 | ⟨g, cap, cur, hv, hg, r⟩
  · exact .inl h2
  · exact .inr ⟨g, cap, cur, hv, by omega, r⟩
theorem set_cell {w : World} {g : Nat} {u v : Value} {t : TypeId} (h : w.heap[g]? = some (.cells #[u] t (0, 0))) : (w.setCell ⟨g, 0, none⟩ v).heap[g]? = some (.cells #[v] t (0, 0)) := by
  simp [World.setCell, Array.getElem?_modify, h]

def C.par (i : Nat) : Bool := ((i : Int) % 2 == 1)
theorem C.par_succ (i : Nat) : C.par (i + 1) = !C.par i := by
  unfold C.par
  rw [Bool.eq_iff_iff]
  simp
  omega
/-- 'i&1'. -/
theorem C.and_one (i : Nat) (hi : i < 9223372036854775808) : bits BinOp.and IntKind.i64 (i : Int) 1 = ((i % 2 : Nat) : Int) := by
  have two63 : (2 : Int) ^ 63 = 9223372036854775808 := by decide
  have h := bits_mask .i64 63 (by decide) (fun n h0 h1 => by rw [two63] at h1; rw [IntKind.wrap_i64]; omega) 1 (by decide) (i : Int) (by omega) (by rw [two63]; omega)
  have e : ((2 : Int) ^ 1 - 1) = 1 := by decide
  rw [e] at h
  rw [h]
  omega
theorem C.par_bits (i : Nat) (hi : i < 9223372036854775808) : (bits BinOp.and IntKind.i64 (i : Int) 1 == 1) = C.par i := by
  rw [C.and_one i hi]
  unfold C.par
  rw [Bool.eq_iff_iff]
  simp
theorem C.par_bits1 (i : Nat) (hi : i < 9223372036854775807) : (bits BinOp.and IntKind.i64 ((i : Int) + 1) 1 == 1) = !C.par i := by
  rw [← C.par_succ, ← C.par_bits (i + 1) (by omega)]
  rfl
theorem C.drop_get {l : List Int} {i : Nat} {x : Int} {t : List Int} (h : l.drop i = x :: t) : i < l.length ∧ l[i]? = some x ∧ l.drop (i + 1) = t := by
  have hi : i < l.length := by
    rcases Nat.lt_or_ge i l.length with h' | h'
    · exact h'
    · rw [List.drop_of_length_le h'] at h; cases h
  rw [List.drop_eq_getElem_cons hi] at h
  simp only [List.cons.injEq] at h
  exact ⟨hi, by rw [List.getElem?_eq_getElem hi, h.1], h.2⟩
theorem C.drop_nil {l : List Int} {i : Nat} (h : l.drop i = []) (hi : i ≤ l.length) : i = l.length := by
  have := List.drop_eq_nil_iff.1 h; omega
theorem C.srt_drop {l : List Int} (h : C.srt l) (i : Nat) : C.srt (l.drop i) := List.Pairwise.sublist (List.drop_sublist i l) h

theorem Sl.ints {w : World} {B : Nat} {A : Option Addr} {k : IntKind} {l : List Int} (h : Sl w B A (l.map (Value.int k))) {i : Nat} {x : Int} (hx : l[i]? = some x) : ∃ b o, A = some ⟨b, o, none⟩ ∧ b < B ∧ w.cell? ⟨b, o + i, none⟩ = some (.int k x) ∧ ∀ j y, l[j]? = some y → w.cell? ⟨b, o + j, none⟩ = some (.int k y) := by
  have hi : i < l.length := (List.getElem?_eq_some_iff.1 hx).1
  obtain ⟨b, o, hA, hb, hc⟩ := h (by rw [List.length_map]; omega)
  have hj : ∀ j y, l[j]? = some y → w.cell? ⟨b, o + j, none⟩ = some (.int k y) := by
    intro j y hy
    have hj : j < l.length := (List.getElem?_eq_some_iff.1 hy).1
    rw [hc j (by rw [List.length_map]; omega), List.getElem?_map, hy]; rfl
  exact ⟨b, o, hA, hb, hj i x hx, hj⟩

/-- A call of a function with a body: it is entered. -/
theorem C.enter {P : Program} {f : FuncId} {fn : Func} {c : Code} (hf : P.funcs[f]? = some fn) (hname : (fn.name == "runtime.NumGoroutine") = false) (hb : fn.body = some c) (args : Array Value) (w : World) :
    (callFunc f args).run P w = .ok (.enter f args) w := by
  have h1 : fn.name ≠ "runtime.NumGoroutine" := by simpa using hname
  simp [callFunc, hf, h1, hb]
end Go.Proofs.YtkmfegamblmpeaaGreatDoor

/- slices.Clone of runes, by walking its text. -/
namespace Go.Proofs.YtkmfegamblmpeaaGreatDoor
open Go.RowKit
set_option linter.unusedSimpArgs false
set_option linter.unusedVariables false

set_option maxRecDepth 100000 in
set_option maxHeartbeats 1000000 in
/-- slices.Clone of runes that are read: a row of the call's own. -/
theorem R.clone_any (A : Option Addr) (n c B : Nat) (l : List Int) (w : World) (hn : l.length = n) (hn' : n ≤ 1000000) (hB : B ≤ w.heap.size) (hA : Sl w B A (l.map (Value.int .i32))) :
    Calls Tryz.prog 40 #[.slice A n c] w fun r w' => ∃ A' c', r = .returned (.slice A' n c') ∧ w'.ownsRow w.heap.size 21 1 (.slice A' n c') n (l.map (Value.int .i32)) ∧ Go.RowKit.Below w.heap.size w w' := by
  obtain ⟨j0, hj0, hy0, hy1, hy2⟩ := info_parts infoRune
  have HN := Lib.hid hn
  clear hn
  rcases A with _ | ad
  · have hl : l = [] := by
      rcases l with _ | ⟨x, t⟩
      · rfl
      · obtain ⟨b, o, h, _⟩ := hA (by simp)
        cases h
    subst hl
    obtain rfl : 0 = n := HN.out
    have heq : ∀ w, (binOp .eql 36 (.slice none 0 c) (.slice none 0 0)).run Tryz.prog w = .ok (.bool true) w := fun w => by kernel_rfl
    go_enter Tryz.func40, Tryz.ntmps40
    go_wp2
    go_ret
    exact ⟨none, 0, rfl, World.ownsRow_nil _ _ _ _, Go.RowKit.Below.refl _ _⟩
  · have hal : Go.RowKit.Below w.heap.size w (w.alloc (.cells #[] 21)) := (Go.RowKit.Below.refl _ _).alloc (Nat.le_refl _) _
    have hS := Lib.hid (hA.belowN hal hB (Nat.le_refl _))
    have heq : ∀ w, (binOp .eql 36 (.slice (some ad) n c) (.slice none 0 0)).run Tryz.prog w = .ok (.bool false) w := fun w => by first | exact Lib.run_eql_slice_nil w _ _ _ _ _ Tryz.underlying36 | kernel_rfl | simp [binOp, Op.equal, Op.maxDepth, Op.equalIn, run_underlying Tryz.underlying36]
    have hown0 : (w.alloc (.cells #[] 21)).ownsRow w.heap.size 21 1 (.slice (some ⟨w.heap.size, 0, none⟩) 0 0) 0 [] := ⟨rfl, .inr ⟨w.heap.size, 0, #[], rfl, Nat.le_refl _, heap_alloc_new w _, Nat.le_refl _, by decide, rfl, rfl⟩⟩
    go_enter Tryz.func40, Tryz.ntmps40
    go_wp2_with (at_builtin; refine wpList_appendSl _ rfl _ _ _ rfl w.heap.size 21 j0 _ 1 4 Tryz.underlying36 hj0 hy0 hy1 hy2 rfl (by omega) _ 0 _ rfl hown0 _ (some ad) n c (l.map (Value.int .i32)) rfl (by rw [List.length_map, HN.out]; omega) hS.out (oneCells _ _) (by simp only [maxLen]; omega) (by omega) (by simp) ?_; intro v1 w2 hown2 hb2 _)
    obtain ⟨A5, c5, rfl⟩ := own_form hown2
    go_wp2
    go_ret
    rw [Nat.zero_add] at hown2
    exact ⟨A5, c5, by simp, by simpa using hown2, hal.trans hb2⟩
end Go.Proofs.YtkmfegamblmpeaaGreatDoor

/- The layer model: a character's class, mapping and full decomposition, by walking the text. -/
namespace Go.Proofs.YtkmfegamblmpeaaGreatDoor
open Go.RowKit
set_option linter.unusedSimpArgs false
set_option linter.unusedVariables false

/-- A table that may be searched. -/
def Md.Ok (T : List Rw.Row) : Prop := T.length ≤ 1000000 ∧ Md.rises T ∧ Md.bd T ∧ ∀ r ∈ T, r.2.2.length ≤ 1000000
/-- A value that is a table: its rows, and the bounds of the set of those that aren't composed. -/
def Md.Is (w : World) (v : Value) (T : List Rw.Row) (S : List Int) : Prop := ∃ A c XA xc, v = Md.tv A T.length c XA S.length xc ∧ Rw.Sees w A T ∧ Sl w w.heap.size XA (S.map (Value.int .i32))
theorem Md.Is.below {w w' : World} {v : Value} {T : List Rw.Row} {S : List Int} (h : Md.Is w v T S) (hb : Below w.heap.size w w') : Md.Is w' v T S := by
  obtain ⟨A, c, XA, xc, h1, h2, h3⟩ := h
  exact ⟨A, c, XA, xc, h1, h2.below hb, h3.below hb hb.size⟩
theorem Md.find_is {v : Value} {T : List Rw.Row} {S : List Int} {w : World} (d : Int) (ok : Md.Ok T) (h : Md.Is w v T S) (h3 : -2147483648 ≤ d) (h4 : d ≤ 2147483647) :
    Calls Tryz.prog 83 #[v, .int .i32 d] w (Md.RetFind T d w) := by
  obtain ⟨A, c, XA, xc, rfl, h2, _⟩ := h
  exact Md.find_any A T.length c XA S.length xc T d w rfl ok.1 ok.2.1 ok.2.2.1 h3 h4 h2

set_option maxRecDepth 100000 in
set_option maxHeartbeats 1000000 in
theorem Md.class_any (v : Value) (T : List Rw.Row) (S : List Int) (d : Int) (w : World) (ok : Md.Ok T) (h : Md.Is w v T S) (h3 : -2147483648 ≤ d) (h4 : d ≤ 2147483647) :
    Calls Tryz.prog 111 #[v, .int .i32 d] w fun e w' => e = .returned (.int .i64 (Md.cls T d)) ∧ Below w.heap.size w w' := by
  rw [Md.cls_of]
  have hv := h
  obtain ⟨A, c, XA, xc, rfl, h2, hX⟩ := hv
  obtain ⟨xn, hxn⟩ : ∃ k, S.length = k := ⟨_, rfl⟩
  obtain ⟨n, hn⟩ : ∃ k, T.length = k := ⟨_, rfl⟩
  rw [hn, hxn] at h ⊢
  have hba : Below w.heap.size w (w.alloc (.cells #[.slice A n c, .slice XA xn xc] 50)) := (Below.refl _ _).alloc (Nat.le_refl _) _
  have hat : Rw.At (w.alloc (.cells #[.slice A n c, .slice XA xn xc] 50)) w.heap.size 50 [.slice A n c, .slice XA xn xc] := Rw.At.new w 50 [.slice A n c, .slice XA xn xc]
  have hF := Md.find_is d ok (h.below hba) h3 h4
  have z0 := hat.cell 0 rfl
  have z1 := hat.cell 1 rfl
  have HB := Lib.hid hba
  clear h h2 hX hn hxn hba hat ok
  unfold Md.tv at hF ⊢
  go_enter Tryz.func111, Tryz.ntmps111
  go_wp2_with fail
  refine hF.mono ?_
  rintro e w1 ⟨a, rfl, _, hb1⟩
  have HB1 := Lib.hid (HB.out.trans (hb1.mono HB.out.size))
  clear hb1 z0 z1 hF
  unfold Md.rv
  obtain ⟨r, hr⟩ : ∃ r, Md.rowOf T d = r := ⟨_, rfl⟩
  rw [hr]
  have HR := Lib.hid hr
  clear hr
  go_wp2_with fail
  go_ret
  rw [HR.out]
  exact ⟨rfl, HB1.out.alloc HB1.out.size _⟩

/-- A row of runes of the call's own. -/
def Md.RetOwn (l : List Int) (w : World) (e : Ending) (w' : World) : Prop :=
  ∃ A c, e = .returned (.slice A l.length c) ∧ w'.ownsRow w.heap.size 21 1 (.slice A l.length c) l.length (l.map (Value.int .i32)) ∧ Below w.heap.size w w'

set_option maxRecDepth 100000 in
set_option maxHeartbeats 1000000 in
theorem Md.map_any (v : Value) (T : List Rw.Row) (S : List Int) (d : Int) (w : World) (ok : Md.Ok T) (h : Md.Is w v T S) (h3 : -2147483648 ≤ d) (h4 : d ≤ 2147483647) :
    Calls Tryz.prog 110 #[v, .int .i32 d] w (Md.RetOwn (Md.mp T d) w) := by
  have hv := h
  obtain ⟨A, c, XA, xc, rfl, h2, hX⟩ := hv
  obtain ⟨xn, hxn⟩ : ∃ k, S.length = k := ⟨_, rfl⟩
  obtain ⟨n, hn⟩ : ∃ k, T.length = k := ⟨_, rfl⟩
  rw [hn, hxn] at h ⊢
  have hba : Below w.heap.size w (w.alloc (.cells #[.slice A n c, .slice XA xn xc] 50)) := (Below.refl _ _).alloc (Nat.le_refl _) _
  have hat : Rw.At (w.alloc (.cells #[.slice A n c, .slice XA xn xc] 50)) w.heap.size 50 [.slice A n c, .slice XA xn xc] := Rw.At.new w 50 [.slice A n c, .slice XA xn xc]
  have hF := Md.find_is d ok (h.below hba) h3 h4
  have z0 := hat.cell 0 rfl
  have z1 := hat.cell 1 rfl
  have HB := Lib.hid hba
  have hmb := Md.mp_bd ok.2.2.1 d
  have hlen : (Md.rowOf T d).2.2.length ≤ 1000000 := by
    unfold Md.rowOf
    cases hf : Md.find T d with
    | none => exact Nat.zero_le _
    | some r => exact ok.2.2.2 r (Md.find_some hf).1
  have HP := Lib.hid (Hg.pair_any d (w.alloc (.cells #[.slice A n c, .slice XA xn xc] 50)) h3 h4)
  obtain ⟨m, hm⟩ : ∃ m, Md.mp T d = m := ⟨_, rfl⟩
  rw [hm] at hmb ⊢
  have HM := Lib.hid hm
  rcases hpk : Hg.pairK d with ⟨x, y, is⟩
  have hp := HP.out
  rw [hpk] at hp
  have HPK := Lib.hid hpk
  clear h h2 hX hn hxn hba hat ok hm hpk HP
  unfold Md.tv at hF ⊢
  cases is
  · have hm2 : m = (Md.rowOf T d).2.2 := by
      rw [← HM.out, ← Md.rmp_of]
      unfold Md.mp
      rw [HPK.out, if_neg (by simp)]
    obtain ⟨r, hr⟩ : ∃ r, Md.rowOf T d = r := ⟨_, rfl⟩
    unfold Md.RetFind at hF
    rw [hr] at hm2 hlen hF
    subst hm2
    clear hr HM HPK hmb
    go_enter Tryz.func110, Tryz.ntmps110
    go_wp2_with fail
    refine hp.mono ?_
    rintro e w0 ⟨rfl, rfl⟩
    go_wp2_with fail
    refine hF.mono ?_
    rintro e w1 ⟨a, rfl, hsl, hb1⟩
    have HB1 := Lib.hid (HB.out.trans (hb1.mono HB.out.size))
    have hbn : Below w1.heap.size w1 (w1.alloc (.cells #[.int .i32 r.1, .int .i64 r.2.1, .slice a.1 r.2.2.length a.2] 99)) := (Below.refl _ _).alloc (Nat.le_refl _) _
    have hC := R.clone_any a.1 r.2.2.length a.2 _ r.2.2 _ rfl hlen (Nat.le_refl _) (hsl.below hbn hbn.size)
    have HB2 := Lib.hid (HB1.out.trans (hbn.mono HB1.out.size))
    clear hb1 z0 z1 hF hsl hbn hp
    unfold Md.rv
    go_wp2_with fail
    refine hC.mono ?_
    rintro e w2 ⟨A', c', rfl, hown, hb2⟩
    have HO := Lib.hid (own_base hown HB2.out.size)
    have HB3 := Lib.hid (HB2.out.trans (hb2.mono HB2.out.size))
    clear hown hb2 hC
    go_wp2_with fail
    go_ret
    exact ⟨A', c', rfl, HO.out, HB3.out⟩
  · have hm2 : m = [x, y] := by
      rw [← HM.out]
      unfold Md.mp
      rw [HPK.out, if_pos rfl]
    subst hm2
    clear HM HPK hF hlen
    go_enter Tryz.func110, Tryz.ntmps110
    go_wp2_with fail
    refine hp.mono ?_
    rintro e w0 ⟨rfl, rfl⟩
    go_wp2_with fail
    go_ret
    have hnew := heap_alloc_new (w.alloc (.cells #[.slice A n c, .slice XA xn xc] 50)) (.cells #[.int .i32 x, .int .i32 y] 21)
    rw [World.size_alloc] at hnew
    exact ⟨_, _, rfl, ⟨rfl, .inr ⟨_, _, #[.int .i32 x, .int .i32 y], rfl, Nat.le_succ _, hnew, Nat.le_refl _, by decide, rfl, rfl⟩⟩, HB.out.alloc HB.out.size _⟩
end Go.Proofs.YtkmfegamblmpeaaGreatDoor

/- Pages: what a value of pages is; in, Get, Blocks, by walking their texts. -/
namespace Go.Proofs.YtkmfegamblmpeaaGreatDoor
open Go.RowKit
set_option linter.unusedSimpArgs false
set_option linter.unusedVariables false

set_option maxRecDepth 100000 in
theorem Pg.in_any (c : Int) (w : World) : Calls Tryz.prog 69 #[.int .i32 c] w fun e w' => e = .returned (.bool (decide (0 ≤ c ∧ c ≤ 1114111))) ∧ w = w' := by
  go_enter Tryz.func69, Tryz.ntmps69
  by_cases h0 : 0 ≤ c
  · by_cases h1 : c ≤ 1114111
    · go_wp2
      go_ret
      exact ⟨ret_bool (by simp; omega), rfl⟩
    · go_wp2
      go_ret
      exact ⟨ret_bool (by simp; omega), rfl⟩
  · go_wp2
    go_ret
    exact ⟨ret_bool (by simp; omega), rfl⟩
theorem Pg.and_8 (n : Int) (h0 : 0 ≤ n) (h1 : n ≤ 1114111) : bits .and .i32 n 255 = n % 256 := by
  have hm : (BitVec.ofInt 32 255).toNat = 2 ^ 8 - 1 := by decide
  have key : (BitVec.ofInt 32 n &&& BitVec.ofInt 32 255).toNat = (n % ((2 ^ 32 : Nat) : Int)).toNat % 2 ^ 8 := by
    rw [BitVec.toNat_and, BitVec.toNat_ofInt, hm, Nat.and_two_pow_sub_one_eq_mod]
  show IntKind.i32.wrap ((BitVec.ofInt 32 n &&& BitVec.ofInt 32 255).toNat : Nat) = n % 256
  rw [key, IntKind.wrap_i32]
  omega
/-- A value of pages: the places, and the blocks. -/
def Pg.Is (w : World) (v : Value) (idx : List Int) (bl : List (List Int)) : Prop :=
  ∃ g A c, v = .pointer (some ⟨g, 0, none⟩) ∧ Rw.At w g 129 (idx.map (Value.int .u16) ++ [.slice A bl.length c]) ∧ Sl w w.heap.size A (bl.flatten.map (Value.int .u16))
/-- As a table of the numbers f has them. -/
def Pg.Of (w : World) (v : Value) (f : Int → Int) : Prop := Pg.Is w v (Pg.idx f 4352) (Pg.bls f 4352)
theorem Pg.Is.below {w w' : World} {v : Value} {idx : List Int} {bl : List (List Int)} (h : Pg.Is w v idx bl) (hb : Below w.heap.size w w') : Pg.Is w' v idx bl := by
  obtain ⟨g, A, c, hv, ha, hs⟩ := h
  exact ⟨g, A, c, hv, ha.below hb, hs.below hb hb.size⟩
theorem Pg.cell_last {w : World} {g : Nat} {t : TypeId} {xs : List Value} {v : Value} (h : Rw.At w g t (xs ++ [v])) {n : Nat} (hn : xs.length = n) : w.cell? ⟨g, n, none⟩ = some v :=
  h.cell n (by rw [List.getElem?_append_right (by omega), hn, Nat.sub_self]; rfl)
theorem Pg.cell_at {w : World} {g : Nat} {t : TypeId} {xs : List Value} {v u : Value} (h : Rw.At w g t (xs ++ [v])) {n : Nat} (hn : xs[n]? = some u) : w.cell? ⟨g, n, none⟩ = some u :=
  h.cell n (by rw [List.getElem?_append_left (List.getElem?_eq_some_iff.1 hn).1]; exact hn)
/-- The number that is looked up. -/
def Pg.get (f : Int → Int) (c : Int) : Int := if 0 ≤ c ∧ c ≤ 1114111 then f c else 0

set_option maxRecDepth 100000 in
set_option maxHeartbeats 4000000 in
theorem Pg.get_any (v : Value) (f : Int → Int) (c : Int) (w : World) (h : Pg.Of w v f) :
    Calls Tryz.prog 37 #[v, .int .i32 c] w fun e w' => e = .returned (.int .u16 (Pg.get f c)) ∧ Below w.heap.size w w' := by
  obtain ⟨g, A, cp, rfl, hat, hs⟩ := h
  obtain ⟨o, ho⟩ : ∃ o, Pg.get f c = o := ⟨_, rfl⟩
  rw [ho]
  by_cases hc : 0 ≤ c ∧ c ≤ 1114111
  · obtain ⟨N, hN⟩ : ∃ N : Nat, c / 256 = N := ⟨(c / 256).toNat, by omega⟩
    obtain ⟨M, hM⟩ : ∃ M : Nat, c % 256 = M := ⟨(c % 256).toNat, by omega⟩
    have hN' : N < 4352 := by omega
    have hM' : M < 256 := by omega
    have hcNM : c = 256 * (N : Int) + M := by omega
    have hand := Pg.and_8 c hc.1 hc.2
    rw [hM] at hand
    have hmem := (Pg.bls_mem f 4352 (Pg.blk f N)).2 (.inr ⟨N, hN', rfl⟩)
    have hix := Pg.idx_get f 4352 hN'
    have hp1 := Pg.at_lt hmem
    have hp2 := Pg.at_get hmem
    have hbl := Pg.bls_len f 4352
    obtain ⟨p, hp⟩ : ∃ p, Pg.at (Pg.bls f 4352) (Pg.blk f N) = p := ⟨_, rfl⟩
    rw [hp] at hix hp1 hp2
    have hfl := Pg.flat_get (Pg.bls f 4352) p M _ (Pg.bls_len256 f 4352) hp2 hM'
    rw [Pg.blk_get f N hM'] at hfl
    obtain ⟨bn, hbn⟩ : ∃ bn, (Pg.bls f 4352).length = bn := ⟨_, rfl⟩
    rw [hbn] at hp1 hbl hat
    have z0 := Pg.cell_at hat (n := N) (u := .int .u16 p) (by rw [List.getElem?_map, hix]; rfl)
    have z1 := Pg.cell_last hat (n := 4352) (by rw [List.length_map, Pg.idx_len])
    obtain ⟨b, o', rfl, hb, hcc⟩ := hs (by rw [List.length_map, Pg.flat_len _ (Pg.bls_len256 f 4352), hbn]; omega)
    have hz2 := hcc (p * 256 + M) (by rw [List.length_map, Pg.flat_len _ (Pg.bls_len256 f 4352), hbn]; omega)
    rw [List.getElem?_map, hfl, Option.map_some, ← hcNM] at hz2
    have hoo : f c = o := by rw [← ho]; unfold Pg.get; rw [if_pos hc]
    rw [hoo] at hz2
    have hI := Pg.in_any c w
    rw [decide_eq_true hc] at hI
    have HI := Lib.hid hI
    have hNI : (N : Int) < 4352 := by omega
    have hN0 : (0 : Int) ≤ N := by omega
    have hMI : (M : Int) < 256 := by omega
    have hM0 : (0 : Int) ≤ M := by omega
    have hpI : (p : Int) < bn := by omega
    have hp0 : (0 : Int) ≤ p := by omega
    have hgl := hat.lt
    rw [← Nat.add_assoc] at hz2
    clear hI ho hc hM hcNM hmem hix hp2 hp hfl hbn hs hcc hoo hbl hat
    go_enter Tryz.func37, Tryz.ntmps37
    go_wp2_with fail
    refine HI.out.mono ?_
    rintro e w1 ⟨rfl, rfl⟩
    go_wp2_with fail
    go_quiet (fail)
    go_wp2_with fail
    go_ret
    exact ⟨rfl, below_drewN (Below.refl _ _) _⟩
  · have hoo : o = 0 := by rw [← ho]; unfold Pg.get; rw [if_neg hc]
    subst hoo
    have hI := Pg.in_any c w
    rw [decide_eq_false hc] at hI
    have HI := Lib.hid hI
    clear hI ho hc hat hs
    go_enter Tryz.func37, Tryz.ntmps37
    go_wp2_with fail
    refine HI.out.mono ?_
    rintro e w1 ⟨rfl, rfl⟩
    go_wp2_with fail
    go_ret
    exact ⟨rfl, Below.refl _ _⟩

end Go.Proofs.YtkmfegamblmpeaaGreatDoor

/- Maps of the call's own: what is found in one, and what a store makes of it. -/
namespace Go.Proofs.YtkmfegamblmpeaaGreatDoor
open Go.RowKit
open Go.ChangeMaps (setBlock modify_eq_set)
open Go.ChangeMaps
set_option linter.unusedSimpArgs false
set_option linter.unusedVariables false

/-- Block b is a map: what it has at each key. -/
def Mp.Is (P : Program) (k : TypeId) (w : World) (b : Nat) (F : Value → Option Value) : Prop :=
  ∃ es clock, w.heap[b]? = some (.map es clock) ∧ (∀ e ∈ es.toList, ∃ l, keyOf P k e.key = some l) ∧ (es.toList.Pairwise fun x y => x.key ≠ y.key) ∧ ∀ x v, F x = some v ↔ ∃ e ∈ es.toList, e.key = x ∧ e.val = v

section
variable {P : Program} {k : TypeId} {w : World} {b : Nat} {F : Value → Option Value}

theorem Mp.Is.made (w : World) (P : Program) (k : TypeId) : Mp.Is P k (w.alloc (.map #[] 0)) w.heap.size fun _ => none :=
  ⟨#[], 0, heap_alloc_new w _, fun e he => by simp at he, by simp, fun x v => by simp⟩
theorem Mp.Is.lt (h : Mp.Is P k w b F) : b < w.heap.size := by
  obtain ⟨es, c, hb, _⟩ := h
  exact heap_lt hb
theorem Mp.Is.below {w' : World} (h : Mp.Is P k w b F) (hb : Below w.heap.size w w') : Mp.Is P k w' b F := by
  have hlt := h.lt
  obtain ⟨es, c, hh, r⟩ := h
  exact ⟨es, c, (hb.block b hlt).trans hh, r⟩
theorem Mp.Is.grown {w' : World} {row : Option Nat} (h : Mp.Is P k w b F) (hg : w.grownBy w' row) (hne : some b ≠ row) : Mp.Is P k w' b F := by
  have hlt := h.lt
  obtain ⟨es, c, hh, r⟩ := h
  exact ⟨es, c, (hg.block b hlt hne).trans hh, r⟩

/-- What is found. -/
theorem Mp.Is.look {t e : TypeId} (h : Mp.Is P k w b F) (K : Go.Maps.Keyed P k) (ht : P.underlying t = some (.map k e)) {z : Value} (hz : (zeroValue e).run P w = .ok z w) {x : Value} {l : Lit} (hk : keyOf P k x = some l) (c : Bool) :
    (Instr.lookup t (.map (some b)) x c).run P w = .ok (if c = true then .tuple #[(F x).getD z, .bool (F x).isSome] else (F x).getD z) w := by
  obtain ⟨es, clock, hb, hks, hap, hF⟩ := h
  rcases K.find w hk es.toList hks with ⟨h1, h2⟩ | ⟨j, e0, h1, h2, h3⟩
  · have hn : F x = none := by
      cases hx : F x with
      | none => rfl
      | some v =>
        obtain ⟨e, he, hek, _⟩ := (hF x v).1 hx
        exact absurd hek (h2 e he)
    rw [hn]
    simp [Instr.lookup, run_underlying ht, MapKept.run_getObj_map hb, K.check w _ hk, h1, hz, Result.andThen]
  · have hn : F x = some e0.val := (hF x _).2 ⟨e0, List.mem_of_getElem? h2, h3, rfl⟩
    rw [hn]
    simp [Instr.lookup, run_underlying ht, MapKept.run_getObj_map hb, K.check w _ hk, h1, Result.andThen]

/-- A store. -/
theorem Mp.Is.put {t e : TypeId} (h : Mp.Is P k w b F) (K : Go.Maps.Keyed P k) (ht : P.underlying t = some (.map k e)) {x v : Value} {l : Lit} (hk : keyOf P k x = some l) (F' : Value → Option Value) (h1 : F' x = some v) (h2 : ∀ y, y ≠ x → F' y = F y) :
    ∃ w', (Instr.mapUpdate t (.map (some b)) x v).run P w = .ok () w' ∧ Mp.Is P k w' b F' ∧ w.grownBy w' (some b) := by
  obtain ⟨es, clock, hb, hks, hap, hF⟩ := h
  rcases K.find w hk es.toList hks with ⟨g1, g2⟩ | ⟨j, e0, g1, g2, g3⟩
  · refine ⟨setBlock w b (.map (es.push ⟨x, v, clock⟩) (clock + 1)), ?_, ⟨es.push ⟨x, v, clock⟩, clock + 1, Go.ChangeMaps.heap_setBlock_same hb _, ?_, ?_, ?_⟩, ⟨rfl, rfl, rfl, by simp [setBlock], fun i _ hi => Go.ChangeMaps.heap_setBlock_other hb _ (fun e => hi (by rw [e]))⟩⟩
    · simp [Instr.mapUpdate, run_underlying ht, MapKept.run_getObj_map hb, K.check w false hk, g1, MapKept.run_setObj_map _ hb, Result.andThen, setBlock]
    · intro e he
      rw [Array.toList_push] at he
      rcases List.mem_append.1 he with he | he
      · exact hks e he
      · rw [List.mem_singleton] at he
        subst he
        exact ⟨l, hk⟩
    · rw [Array.toList_push, List.pairwise_append]
      refine ⟨hap, by simp, fun a ha c hc => ?_⟩
      rw [List.mem_singleton] at hc
      subst hc
      exact g2 a ha
    · intro y u
      rw [Array.toList_push]
      by_cases hy : y = x
      · subst hy
        rw [h1]
        constructor
        · intro hu
          cases hu
          exact ⟨_, List.mem_append_right _ (List.mem_singleton.2 rfl), rfl, rfl⟩
        · rintro ⟨a, ha, hk', hv⟩
          rcases List.mem_append.1 ha with ha | ha
          · exact absurd hk' (g2 a ha)
          · rw [List.mem_singleton] at ha
            subst ha
            exact congrArg some hv
      · rw [h2 y hy, hF y u]
        constructor
        · rintro ⟨a, ha, r⟩
          exact ⟨a, List.mem_append_left _ ha, r⟩
        · rintro ⟨a, ha, hk', hv⟩
          rcases List.mem_append.1 ha with ha | ha
          · exact ⟨a, ha, hk', hv⟩
          · rw [List.mem_singleton] at ha
            subst ha
            exact absurd hk'.symm hy
  · have hj : es[j]? = some e0 := by simpa using g2
    have hjl : j < es.toList.length := (List.getElem?_eq_some_iff.1 g2).1
    have hlist : (es.modify j (fun e' => { e' with key := x, val := v })).toList = es.toList.set j { e0 with key := x, val := v } := by rw [Array.toList_modify, modify_eq_set _ _ _ _ g2]
    have who : ∀ a ∈ es.toList.set j { e0 with key := x, val := v }, a = { e0 with key := x, val := v } ∨ (a ∈ es.toList ∧ a.key ≠ x) := by
      intro a ha
      obtain ⟨i, hi, ex⟩ := List.getElem_of_mem ha
      rw [List.getElem_set] at ex
      split at ex
      · exact .inl ex.symm
      · rename_i hne
        have hi' : i < es.toList.length := by simpa using hi
        refine .inr ⟨ex ▸ List.getElem_mem hi', ?_⟩
        have h0 : es.toList[j] = e0 := (List.getElem?_eq_some_iff.1 g2).2
        rcases Nat.lt_or_ge i j with hl | hl
        · have := List.pairwise_iff_getElem.1 hap i j hi' hjl hl
          rw [ex, h0, g3] at this
          exact this
        · have := List.pairwise_iff_getElem.1 hap j i hjl hi' (by omega)
          rw [ex, h0, g3] at this
          exact this.symm
    have old : ∀ a ∈ es.toList, a.key ≠ x → a ∈ es.toList.set j { e0 with key := x, val := v } := by
      intro a ha hne
      obtain ⟨i, hi, ex⟩ := List.getElem_of_mem ha
      refine List.mem_iff_getElem.2 ⟨i, by simpa using hi, ?_⟩
      rw [List.getElem_set, if_neg, ex]
      intro e
      subst e
      have h0 : es.toList[j] = e0 := (List.getElem?_eq_some_iff.1 g2).2
      rw [h0] at ex
      exact hne (by rw [← ex, g3])
    have new : { e0 with key := x, val := v } ∈ es.toList.set j { e0 with key := x, val := v } := List.mem_iff_getElem.2 ⟨j, by simpa using hjl, by simp⟩
    refine ⟨setBlock w b (.map (es.modify j (fun e' => { e' with key := x, val := v })) clock), ?_, ⟨es.modify j (fun e' => { e' with key := x, val := v }), clock, Go.ChangeMaps.heap_setBlock_same hb _, ?_, ?_, ?_⟩, ⟨rfl, rfl, rfl, by simp [setBlock], fun i _ hi => Go.ChangeMaps.heap_setBlock_other hb _ (fun e => hi (by rw [e]))⟩⟩
    · simp [Instr.mapUpdate, run_underlying ht, MapKept.run_getObj_map hb, K.check w false hk, g1, hj, g3, K.stays w hk, MapKept.run_setObj_map _ hb, Result.andThen, setBlock]
    · intro a ha
      rw [hlist] at ha
      rcases who a ha with rfl | ⟨ha, _⟩
      · exact ⟨l, hk⟩
      · exact hks a ha
    · rw [hlist]
      refine List.pairwise_iff_getElem.2 fun i i' hi hi' hlt => ?_
      rw [List.length_set] at hi hi'
      rw [List.getElem_set, List.getElem_set]
      have h0 : es.toList[j] = e0 := (List.getElem?_eq_some_iff.1 g2).2
      have hp := List.pairwise_iff_getElem.1 hap i i' hi hi' hlt
      by_cases hji : j = i
      · subst hji
        rw [if_pos rfl, if_neg (by omega)]
        rw [h0, g3] at hp
        exact hp
      · rw [if_neg hji]
        by_cases hji' : j = i'
        · subst hji'
          rw [if_pos rfl]
          rw [h0, g3] at hp
          exact hp
        · rw [if_neg hji']
          exact hp
    · intro y u
      rw [hlist]
      by_cases hy : y = x
      · subst hy
        rw [h1]
        constructor
        · intro hu
          cases hu
          exact ⟨_, new, rfl, rfl⟩
        · rintro ⟨a, ha, hk', hv⟩
          rcases who a ha with rfl | ⟨_, hne⟩
          · exact congrArg some hv
          · exact absurd hk' hne
      · rw [h2 y hy, hF y u]
        constructor
        · rintro ⟨a, ha, hk', hv⟩
          exact ⟨a, old a ha (by rw [hk']; exact hy), hk', hv⟩
        · rintro ⟨a, ha, hk', hv⟩
          rcases who a ha with rfl | ⟨ha, _⟩
          · exact absurd hk'.symm hy
          · exact ⟨a, ha, hk', hv⟩

theorem Mp.mapM_some {α β : Type} {f : α → Option β} : ∀ {l : List α}, (∀ x ∈ l, ∃ y, f x = some y) → ∃ ys, l.mapM f = some ys
  | [], _ => ⟨[], rfl⟩
  | x :: l, h => by
    obtain ⟨y, hy⟩ := h x List.mem_cons_self
    obtain ⟨ys, hys⟩ := Mp.mapM_some fun z hz => h z (List.mem_cons_of_mem _ hz)
    exact ⟨y :: ys, by simp [List.mapM_cons, hy, hys]⟩

/-- An array of whole numbers is a key. -/
theorem Mp.keyArr {e : TypeId} {n : Nat} {q : IntKind} (A : Go.WideMaps.ArrKey P k e n) (he : P.underlying e = some (.int q)) (hsz : ∃ m, P.types.size = m + 1) (xs : List Int) (hn : xs.length = n) (hw : ∀ x ∈ xs, (Lit.int q x).wf = true) :
    ∃ l, keyOf P k (.agg (xs.map (Value.int q)).toArray) = some l := by
  obtain ⟨m, hm⟩ := hsz
  have hform : (Value.agg (xs.map (Value.int q)).toArray).formed P k = true := by
    unfold Value.formed
    rw [A.hu]
    simp [A.size, hn]
  have hlits : ∃ ls, P.keyLits (P.types.size + 1) k (xs.map (Value.int q)) = some ls := by
    have hmap : ∃ ys, ((List.range n).mapM fun i => P.keyLits P.types.size e (((xs.map (Value.int q)).drop (i * P.cellsOf e)).take (P.cellsOf e))) = some ys := by
      refine Mp.mapM_some fun i hi => ?_
      rw [List.mem_range] at hi
      have hi' : i < xs.length := by omega
      have hx : (((xs.map (Value.int q)).drop (i * P.cellsOf e)).take (P.cellsOf e)) = [.int q xs[i]] := by
        rw [A.one, Nat.mul_one, List.drop_eq_getElem_cons (by simpa using hi')]
        simp
      rw [hx, hm]
      unfold Program.keyLits
      rw [he]
      simp [hw xs[i] (List.getElem_mem hi')]
    obtain ⟨ys, hys⟩ := hmap
    unfold Program.keyLits
    rw [A.hu]
    simp only [List.length_map, hn, A.size, if_true]
    rw [hys]
    exact ⟨_, rfl⟩
  obtain ⟨ls, hls⟩ := hlits
  unfold keyOf
  rw [A.hu]
  simp only [A.keyType ⟨m, hm⟩, hform, Bool.and_self, if_true, Value.cells]
  rw [hls]
  exact ⟨_, rfl⟩

end
end Go.Proofs.YtkmfegamblmpeaaGreatDoor
