/- The layer cpset: what its walks share. -/
import Derived.Test.YtamcpdggpdaioaaRwRow
import Derived.Test.YtamcpdggpdaioaaSlt
import Derived.BigQuiet
import Derived.Deep.QuietTactic
import Derived.WalkSpells
import Derived.Test.YtamcpdggpdaioaaMdTable
namespace Go.Proofs.Ytamcpdggpdaioaa
open Go.RowKit
set_option linter.unusedSimpArgs false
set_option linter.unusedVariables false

/-- A new set is handed back: its places. -/
def RetSet (l : List Int) (w : World) (e : Ending) (w' : World) : Prop :=
  ∃ A c, e = .returned (.agg #[.slice A l.length c]) ∧ w'.ownsRow w.heap.size 21 1 (.slice A l.length c) l.length (l.map (Value.int .i32)) ∧ Below w.heap.size w w'

/-- A call that lays its result's variable first: that variable's block, and what was there before. -/
theorem ret_blk {w wr : World} {cs : Array Value} {t : TypeId} (h : Below (w.heap.size + 1) (w.alloc (.cells cs t)) wr) : wr.heap[w.heap.size]? = some (.cells cs t (0, 0)) ∧ Below w.heap.size w wr := by
  refine ⟨(h.block w.heap.size (by omega)).trans (heap_alloc_new _ _), ?_⟩
  exact ((Below.refl _ _).alloc (Nat.le_refl _) _).trans (h.mono (by omega))
theorem blk_cell {w : World} {g : Nat} {cs : Array Value} {t : TypeId} (h : w.heap[g]? = some (.cells cs t (0, 0))) (i : Nat) : w.cell? ⟨g, i, none⟩ = cs[i]? ∧ w.frozen? ⟨g, i, none⟩ = false := by
  constructor
  · simp [World.cell?, h]
  · simp [World.frozen?, h]
theorem own_base {w : World} {base base' : Nat} {e : TypeId} {size n : Nat} {v : Value} {xs : List Value} (h : w.ownsRow base e size v n xs) (hb : base' ≤ base) : w.ownsRow base' e size v n xs := by
  obtain ⟨h1, h2⟩ := h
  refine ⟨h1, ?_⟩
  rcases h2 with h2 | ⟨g, cap, cur, hv, hg, r⟩
  · exact .inl h2
  · exact .inr ⟨g, cap, cur, hv, by omega, r⟩
theorem set_cell {w : World} {g : Nat} {u v : Value} {t : TypeId} (h : w.heap[g]? = some (.cells #[u] t (0, 0))) : (w.setCell ⟨g, 0, none⟩ v).heap[g]? = some (.cells #[v] t (0, 0)) := by
  simp [World.setCell, Array.getElem?_modify, h]

def C.par (i : Nat) : Bool := ((i : Int) % 2 == 1)
theorem C.par_succ (i : Nat) : C.par (i + 1) = !C.par i := by
  unfold C.par
  rw [Bool.eq_iff_iff]
  simp
  omega
theorem C.par_succ' (i : Nat) : (((i : Int) + 1) % 2 == 1) = !C.par i := by rw [← C.par_succ]; rfl
/-- 'i&1'. -/
theorem C.and_one (i : Nat) (hi : i < 9223372036854775808) : bits BinOp.and IntKind.i64 (i : Int) 1 = ((i % 2 : Nat) : Int) := by
  have two63 : (2 : Int) ^ 63 = 9223372036854775808 := by decide
  have h := bits_mask .i64 63 (by decide) (fun n h0 h1 => by rw [two63] at h1; rw [IntKind.wrap_i64]; omega) 1 (by decide) (i : Int) (by omega) (by rw [two63]; omega)
  have e : ((2 : Int) ^ 1 - 1) = 1 := by decide
  rw [e] at h
  rw [h]
  omega
theorem C.par_bits (i : Nat) (hi : i < 9223372036854775808) : (bits BinOp.and IntKind.i64 (i : Int) 1 == 1) = C.par i := by
  rw [C.and_one i hi]
  unfold C.par
  rw [Bool.eq_iff_iff]
  simp
theorem C.par_bits1 (i : Nat) (hi : i < 9223372036854775807) : (bits BinOp.and IntKind.i64 ((i : Int) + 1) 1 == 1) = !C.par i := by
  rw [← C.par_succ, ← C.par_bits (i + 1) (by omega)]
  rfl
theorem C.drop_get {l : List Int} {i : Nat} {x : Int} {t : List Int} (h : l.drop i = x :: t) : i < l.length ∧ l[i]? = some x ∧ l.drop (i + 1) = t := by
  have hi : i < l.length := by
    rcases Nat.lt_or_ge i l.length with h' | h'
    · exact h'
    · rw [List.drop_of_length_le h'] at h; cases h
  rw [List.drop_eq_getElem_cons hi] at h
  simp only [List.cons.injEq] at h
  exact ⟨hi, by rw [List.getElem?_eq_getElem hi, h.1], h.2⟩
theorem C.drop_nil {l : List Int} {i : Nat} (h : l.drop i = []) (hi : i ≤ l.length) : i = l.length := by
  have := List.drop_eq_nil_iff.1 h; omega
theorem C.srt_drop {l : List Int} (h : C.srt l) (i : Nat) : C.srt (l.drop i) := List.Pairwise.sublist (List.drop_sublist i l) h

theorem Sl.ints {w : World} {B : Nat} {A : Option Addr} {k : IntKind} {l : List Int} (h : Sl w B A (l.map (Value.int k))) {i : Nat} {x : Int} (hx : l[i]? = some x) : ∃ b o, A = some ⟨b, o, none⟩ ∧ b < B ∧ w.cell? ⟨b, o + i, none⟩ = some (.int k x) ∧ ∀ j y, l[j]? = some y → w.cell? ⟨b, o + j, none⟩ = some (.int k y) := by
  have hi : i < l.length := (List.getElem?_eq_some_iff.1 hx).1
  obtain ⟨b, o, hA, hb, hc⟩ := h (by rw [List.length_map]; omega)
  have hj : ∀ j y, l[j]? = some y → w.cell? ⟨b, o + j, none⟩ = some (.int k y) := by
    intro j y hy
    have hj : j < l.length := (List.getElem?_eq_some_iff.1 hy).1
    rw [hc j (by rw [List.length_map]; omega), List.getElem?_map, hy]; rfl
  exact ⟨b, o, hA, hb, hj i x hx, hj⟩

/-- A call of a function with a body: it is entered. -/
theorem C.enter {P : Program} {f : FuncId} {fn : Func} {c : Code} (hf : P.funcs[f]? = some fn) (hname : (fn.name == "runtime.NumGoroutine") = false) (hb : fn.body = some c) (args : Array Value) (w : World) :
    (callFunc f args).run P w = .ok (.enter f args) w := by
  have h1 : fn.name ≠ "runtime.NumGoroutine" := by simpa using hname
  simp [callFunc, hf, h1, hb]
end Go.Proofs.Ytamcpdggpdaioaa

/- slices.Clone of runes, by walking its text. -/
namespace Go.Proofs.Ytamcpdggpdaioaa
open Go.RowKit
set_option linter.unusedSimpArgs false
set_option linter.unusedVariables false

set_option maxRecDepth 100000 in
set_option maxHeartbeats 1000000 in
/-- slices.Clone of runes that are read: a row of the call's own. -/
theorem R.clone_any (A : Option Addr) (n c B : Nat) (l : List Int) (w : World) (hn : l.length = n) (hn' : n ≤ 1000000) (hB : B ≤ w.heap.size) (hA : Sl w B A (l.map (Value.int .i32))) :
    Calls Try.prog 45 #[.slice A n c] w fun r w' => ∃ A' c', r = .returned (.slice A' n c') ∧ w'.ownsRow w.heap.size 21 1 (.slice A' n c') n (l.map (Value.int .i32)) ∧ Go.RowKit.Below w.heap.size w w' := by
  obtain ⟨j0, hj0, hy0, hy1, hy2⟩ := info_parts infoRune
  have HN := Lib.hid hn
  clear hn
  rcases A with _ | ad
  · have hl : l = [] := by
      rcases l with _ | ⟨x, t⟩
      · rfl
      · obtain ⟨b, o, h, _⟩ := hA (by simp)
        cases h
    subst hl
    obtain rfl : 0 = n := HN.out
    have heq : ∀ w, (binOp .eql 47 (.slice none 0 c) (.slice none 0 0)).run Try.prog w = .ok (.bool true) w := fun w => by kernel_rfl
    go_enter Try.func45, Try.ntmps45
    go_wp2
    go_ret
    exact ⟨none, 0, rfl, World.ownsRow_nil _ _ _ _, Go.RowKit.Below.refl _ _⟩
  · have hal : Go.RowKit.Below w.heap.size w (w.alloc (.cells #[] 21)) := (Go.RowKit.Below.refl _ _).alloc (Nat.le_refl _) _
    have hS := Lib.hid (hA.belowN hal hB (Nat.le_refl _))
    have heq : ∀ w, (binOp .eql 47 (.slice (some ad) n c) (.slice none 0 0)).run Try.prog w = .ok (.bool false) w := fun w => by first | exact Lib.run_eql_slice_nil w _ _ _ _ _ Try.underlying47 | kernel_rfl | simp [binOp, Op.equal, Op.maxDepth, Op.equalIn, run_underlying Try.underlying47]
    have hown0 : (w.alloc (.cells #[] 21)).ownsRow w.heap.size 21 1 (.slice (some ⟨w.heap.size, 0, none⟩) 0 0) 0 [] := ⟨rfl, .inr ⟨w.heap.size, 0, #[], rfl, Nat.le_refl _, heap_alloc_new w _, Nat.le_refl _, by decide, rfl, rfl⟩⟩
    go_enter Try.func45, Try.ntmps45
    go_wp2_with (at_builtin; refine wpList_appendSl _ rfl _ _ _ rfl w.heap.size 21 j0 _ 1 4 Try.underlying47 hj0 hy0 hy1 hy2 rfl (by omega) _ 0 _ rfl hown0 _ (some ad) n c (l.map (Value.int .i32)) rfl (by rw [List.length_map, HN.out]; omega) hS.out (oneCells _ _) (by simp only [maxLen]; omega) (by omega) (by simp) ?_; intro v1 w2 hown2 hb2 _)
    obtain ⟨A5, c5, rfl⟩ := own_form hown2
    go_wp2
    go_ret
    rw [Nat.zero_add] at hown2
    exact ⟨A5, c5, by simp, by simpa using hown2, hal.trans hb2⟩
end Go.Proofs.Ytamcpdggpdaioaa

/- The layer model: a character's class, mapping and full decomposition, by walking the text. -/
namespace Go.Proofs.Ytamcpdggpdaioaa
open Go.RowKit
set_option linter.unusedSimpArgs false
set_option linter.unusedVariables false

/-- A table that may be searched. -/
def Md.Ok (T : List Rw.Row) : Prop := T.length ≤ 1000000 ∧ Md.rises T ∧ Md.bd T ∧ ∀ r ∈ T, r.2.2.length ≤ 1000000
/-- A value that is a table: its rows, and the bounds of the set of those that aren't composed. -/
def Md.Is (w : World) (v : Value) (T : List Rw.Row) (S : List Int) : Prop := ∃ A c XA xc, v = Md.tv A T.length c XA S.length xc ∧ Rw.Sees w A T ∧ Sl w w.heap.size XA (S.map (Value.int .i32))
theorem Md.Is.below {w w' : World} {v : Value} {T : List Rw.Row} {S : List Int} (h : Md.Is w v T S) (hb : Below w.heap.size w w') : Md.Is w' v T S := by
  obtain ⟨A, c, XA, xc, h1, h2, h3⟩ := h
  exact ⟨A, c, XA, xc, h1, h2.below hb, h3.below hb hb.size⟩
theorem Md.find_is {v : Value} {T : List Rw.Row} {S : List Int} {w : World} (d : Int) (ok : Md.Ok T) (h : Md.Is w v T S) (h3 : -2147483648 ≤ d) (h4 : d ≤ 2147483647) :
    Calls Try.prog 43 #[v, .int .i32 d] w (Md.RetFind T d w) := by
  obtain ⟨A, c, XA, xc, rfl, h2, _⟩ := h
  exact Md.find_any A T.length c XA S.length xc T d w rfl ok.1 ok.2.1 ok.2.2.1 h3 h4 h2

set_option maxRecDepth 100000 in
set_option maxHeartbeats 1000000 in
theorem Md.class_any (v : Value) (T : List Rw.Row) (S : List Int) (d : Int) (w : World) (ok : Md.Ok T) (h : Md.Is w v T S) (h3 : -2147483648 ≤ d) (h4 : d ≤ 2147483647) :
    Calls Try.prog 21 #[v, .int .i32 d] w fun e w' => e = .returned (.int .i64 (Md.cls T d)) ∧ Below w.heap.size w w' := by
  rw [Md.cls_of]
  have hv := h
  obtain ⟨A, c, XA, xc, rfl, h2, hX⟩ := hv
  obtain ⟨xn, hxn⟩ : ∃ k, S.length = k := ⟨_, rfl⟩
  obtain ⟨n, hn⟩ : ∃ k, T.length = k := ⟨_, rfl⟩
  rw [hn, hxn] at h ⊢
  have hba : Below w.heap.size w (w.alloc (.cells #[.slice A n c, .slice XA xn xc] 51)) := (Below.refl _ _).alloc (Nat.le_refl _) _
  have hat : Rw.At (w.alloc (.cells #[.slice A n c, .slice XA xn xc] 51)) w.heap.size 51 [.slice A n c, .slice XA xn xc] := Rw.At.new w 51 [.slice A n c, .slice XA xn xc]
  have hF := Md.find_is d ok (h.below hba) h3 h4
  have z0 := hat.cell 0 rfl
  have z1 := hat.cell 1 rfl
  have HB := Lib.hid hba
  clear h h2 hX hn hxn hba hat ok
  unfold Md.tv at hF ⊢
  go_enter Try.func21, Try.ntmps21
  go_wp2_with fail
  refine hF.mono ?_
  rintro e w1 ⟨a, rfl, _, hb1⟩
  have HB1 := Lib.hid (HB.out.trans (hb1.mono HB.out.size))
  clear hb1 z0 z1 hF
  unfold Md.rv
  obtain ⟨r, hr⟩ : ∃ r, Md.rowOf T d = r := ⟨_, rfl⟩
  rw [hr]
  have HR := Lib.hid hr
  clear hr
  go_wp2_with fail
  go_ret
  rw [HR.out]
  exact ⟨rfl, HB1.out.alloc HB1.out.size _⟩

/-- A row of runes of the call's own. -/
def Md.RetOwn (l : List Int) (w : World) (e : Ending) (w' : World) : Prop :=
  ∃ A c, e = .returned (.slice A l.length c) ∧ w'.ownsRow w.heap.size 21 1 (.slice A l.length c) l.length (l.map (Value.int .i32)) ∧ Below w.heap.size w w'

set_option maxRecDepth 100000 in
set_option maxHeartbeats 1000000 in
theorem Md.map_any (v : Value) (T : List Rw.Row) (S : List Int) (d : Int) (w : World) (ok : Md.Ok T) (h : Md.Is w v T S) (h3 : -2147483648 ≤ d) (h4 : d ≤ 2147483647) :
    Calls Try.prog 24 #[v, .int .i32 d] w (Md.RetOwn (Md.mp T d) w) := by
  have hv := h
  obtain ⟨A, c, XA, xc, rfl, h2, hX⟩ := hv
  obtain ⟨xn, hxn⟩ : ∃ k, S.length = k := ⟨_, rfl⟩
  obtain ⟨n, hn⟩ : ∃ k, T.length = k := ⟨_, rfl⟩
  rw [hn, hxn] at h ⊢
  have hba : Below w.heap.size w (w.alloc (.cells #[.slice A n c, .slice XA xn xc] 51)) := (Below.refl _ _).alloc (Nat.le_refl _) _
  have hat : Rw.At (w.alloc (.cells #[.slice A n c, .slice XA xn xc] 51)) w.heap.size 51 [.slice A n c, .slice XA xn xc] := Rw.At.new w 51 [.slice A n c, .slice XA xn xc]
  have hF := Md.find_is d ok (h.below hba) h3 h4
  have z0 := hat.cell 0 rfl
  have z1 := hat.cell 1 rfl
  have HB := Lib.hid hba
  have hmb := Md.mp_bd ok.2.2.1 d
  have hlen : (Md.rowOf T d).2.2.length ≤ 1000000 := by
    unfold Md.rowOf
    cases hf : Md.find T d with
    | none => exact Nat.zero_le _
    | some r => exact ok.2.2.2 r (Md.find_some hf).1
  have HP := Lib.hid (Hg.pair_any d (w.alloc (.cells #[.slice A n c, .slice XA xn xc] 51)) h3 h4)
  obtain ⟨m, hm⟩ : ∃ m, Md.mp T d = m := ⟨_, rfl⟩
  rw [hm] at hmb ⊢
  have HM := Lib.hid hm
  rcases hpk : Hg.pairK d with ⟨x, y, is⟩
  have hp := HP.out
  rw [hpk] at hp
  have HPK := Lib.hid hpk
  clear h h2 hX hn hxn hba hat ok hm hpk HP
  unfold Md.tv at hF ⊢
  cases is
  · have hm2 : m = (Md.rowOf T d).2.2 := by
      rw [← HM.out, ← Md.rmp_of]
      unfold Md.mp
      rw [HPK.out, if_neg (by simp)]
    obtain ⟨r, hr⟩ : ∃ r, Md.rowOf T d = r := ⟨_, rfl⟩
    unfold Md.RetFind at hF
    rw [hr] at hm2 hlen hF
    subst hm2
    clear hr HM HPK hmb
    go_enter Try.func24, Try.ntmps24
    go_wp2_with fail
    refine hp.mono ?_
    rintro e w0 ⟨rfl, rfl⟩
    go_wp2_with fail
    refine hF.mono ?_
    rintro e w1 ⟨a, rfl, hsl, hb1⟩
    have HB1 := Lib.hid (HB.out.trans (hb1.mono HB.out.size))
    have hbn : Below w1.heap.size w1 (w1.alloc (.cells #[.int .i32 r.1, .int .i64 r.2.1, .slice a.1 r.2.2.length a.2] 84)) := (Below.refl _ _).alloc (Nat.le_refl _) _
    have hC := R.clone_any a.1 r.2.2.length a.2 _ r.2.2 _ rfl hlen (Nat.le_refl _) (hsl.below hbn hbn.size)
    have HB2 := Lib.hid (HB1.out.trans (hbn.mono HB1.out.size))
    clear hb1 z0 z1 hF hsl hbn hp
    unfold Md.rv
    go_wp2_with fail
    refine hC.mono ?_
    rintro e w2 ⟨A', c', rfl, hown, hb2⟩
    have HO := Lib.hid (own_base hown HB2.out.size)
    have HB3 := Lib.hid (HB2.out.trans (hb2.mono HB2.out.size))
    clear hown hb2 hC
    go_wp2_with fail
    go_ret
    exact ⟨A', c', rfl, HO.out, HB3.out⟩
  · have hm2 : m = [x, y] := by
      rw [← HM.out]
      unfold Md.mp
      rw [HPK.out, if_pos rfl]
    subst hm2
    clear HM HPK hF hlen
    go_enter Try.func24, Try.ntmps24
    go_wp2_with fail
    refine hp.mono ?_
    rintro e w0 ⟨rfl, rfl⟩
    go_wp2_with fail
    go_ret
    have hnew := heap_alloc_new (w.alloc (.cells #[.slice A n c, .slice XA xn xc] 51)) (.cells #[.int .i32 x, .int .i32 y] 21)
    rw [World.size_alloc] at hnew
    exact ⟨_, _, rfl, ⟨rfl, .inr ⟨_, _, #[.int .i32 x, .int .i32 y], rfl, Nat.le_succ _, hnew, Nat.le_refl _, by decide, rfl, rfl⟩⟩, HB.out.alloc HB.out.size _⟩
end Go.Proofs.Ytamcpdggpdaioaa
