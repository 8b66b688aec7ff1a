/- Small laws of the layer rows: a block whose cells are known. -/
import Derived.Test.YtkmfegamblmpeaaGreatDoorMdFind
import Derived.RangeFuncRecord
import Derived.Deep.DeepCutAuto
import Derived.Deep.RegionWith
import Derived.BigRegion
import Derived.Test.YtkmfegamblmpeaaGreatDoorMdTab
import Derived.Test.YtkmfegamblmpeaaGreatDoorUdPlain
import Derived.BigQuiet
import Derived.Deep.QuietTactic
import Derived.WalkSpells
namespace Go.Proofs.YtkmfegamblmpeaaGreatDoor
open Go.RowKit
set_option linter.unusedSimpArgs false
set_option linter.unusedVariables false

/-- What stands at block b: cells of the type t. -/
def Rw.At (w : World) (b : Nat) (t : TypeId) (cs : List Value) : Prop := w.heap[b]? = some (.cells cs.toArray t (0, 0))
theorem Rw.At.lt {w : World} {b : Nat} {t : TypeId} {cs : List Value} (h : Rw.At w b t cs) : b < w.heap.size := heap_lt h
theorem Rw.At.cell {w : World} {b : Nat} {t : TypeId} {cs : List Value} (h : Rw.At w b t cs) (i : Nat) {v : Value} (hv : cs[i]? = some v) : w.cell? ⟨b, i, none⟩ = some v := by
  unfold Rw.At at h
  simp [World.cell?, h, hv]
theorem Rw.At.frozen {w : World} {b : Nat} {t : TypeId} {cs : List Value} (h : Rw.At w b t cs) (i : Nat) : w.frozen? ⟨b, i, none⟩ = false := by
  unfold Rw.At at h
  simp [World.frozen?, h]
theorem Rw.At.set {w : World} {b : Nat} {t : TypeId} {cs : List Value} (h : Rw.At w b t cs) (i : Nat) (v : Value) : Rw.At (w.setCell ⟨b, i, none⟩ v) b t (cs.set i v) := by
  obtain ⟨hlt, hk⟩ := Array.getElem?_eq_some_iff.1 h
  show (w.heap.modify b _)[b]? = _
  rw [Array.getElem?_eq_getElem (by rw [Array.size_modify]; exact hlt), Array.getElem_modify_self, hk]
  simp
theorem Rw.At.grown {w w' : World} {b : Nat} {t : TypeId} {cs : List Value} {row : Option Nat} (h : Rw.At w b t cs) (hg : w.grownBy w' row) (hr : row ≠ some b) : Rw.At w' b t cs :=
  (hg.block b h.lt fun e => hr e.symm).trans h
theorem Rw.At.below {w w' : World} {b : Nat} {t : TypeId} {cs : List Value} (h : Rw.At w b t cs) (hb : Below w.heap.size w w') : Rw.At w' b t cs := (hb.block b h.lt).trans h
theorem Rw.At.new (w : World) (t : TypeId) (cs : List Value) : Rw.At (w.alloc (.cells cs.toArray t)) w.heap.size t cs := World.alloc_heap_new w _
theorem Rw.grown_below {w w' : World} (h : Below w.heap.size w w') : w.grownBy w' none := ⟨h.os, h.tape, h.output, h.size, fun k hk _ => h.block k hk⟩
theorem Rw.At.three {w : World} {b : Nat} {t : TypeId} {u v x : Value} (h : Rw.At w b t [u, v, x]) :
    w.cell? ⟨b, 0, none⟩ = some u ∧ w.cell? ⟨b, 1, none⟩ = some v ∧ w.cell? ⟨b, 2, none⟩ = some x ∧ w.frozen? ⟨b, 0, none⟩ = false ∧ w.frozen? ⟨b, 1, none⟩ = false ∧ w.frozen? ⟨b, 2, none⟩ = false :=
  ⟨h.cell 0 rfl, h.cell 1 rfl, h.cell 2 rfl, h.frozen 0, h.frozen 1, h.frozen 2⟩
theorem Rw.At.below' {w w' : World} {b B : Nat} {t : TypeId} {cs : List Value} (h : Rw.At w b t cs) (hb : Below B w w') (hB : b < B) : Rw.At w' b t cs := (hb.block b hB).trans h
theorem Rw.At.other {w : World} {b b' i : Nat} {t : TypeId} {cs : List Value} (h : Rw.At w b t cs) (hne : b ≠ b') (v : Value) : Rw.At (w.setCell ⟨b', i, none⟩ v) b t cs :=
  (Below.heap_setCell _ _ _ b hne).trans h
theorem Rw.At.alloc {w : World} {b : Nat} {t : TypeId} {cs : List Value} (h : Rw.At w b t cs) (o : Obj) : Rw.At (w.alloc o) b t cs := (Below.heap_alloc _ _ _ h.lt).trans h
theorem Slt.setAt {w : World} {t t' : TypeId} {A : Option Addr} {xs cs : List Value} {b : Nat} (h : Slt w t A xs) (k : Rw.At w b t' cs) (hne : t' ≠ t) (i : Nat) (v : Value) : Slt (w.setCell ⟨b, i, none⟩ v) t A xs := by
  intro hx
  obtain ⟨g, o, cs', hA, hb, hc⟩ := h hx
  refine ⟨g, o, cs', hA, (Below.heap_setCell _ _ _ g fun e => ?_).trans hb, hc⟩
  have e : g = b := e
  subst e
  have := k.symm.trans hb
  simp only [Option.some.injEq, Obj.cells.injEq] at this
  exact hne this.2.1
theorem Rw.results2 {P : Program} {fn : Func} {p u : Tmp} {ty : TypeId} (h : fn.results = #[.cell p ty, .tmp u]) (tmps : Array Value) (w : World) (g : Nat) (t : TypeId) (cs : Array Value) (fr : Nat × Nat) (d : TypeDesc)
    (hp : tmps.getD p undef = .pointer (some ⟨g, 0, none⟩)) (hg : w.heap[g]? = some (.cells cs t fr))
    (hu : P.underlying ty = some d) (hd : (match d with | .struct _ | .array _ _ => true | _ => false) = true) (hi : (P.info? ty).map (·.size) = some cs.size) :
    (results fn tmps).run P w = .ok (.tuple #[.agg cs, tmps.getD u undef]) w := by
  have hp' : tmps[p]?.getD undef = .pointer (some ⟨g, 0, none⟩) := by simpa using hp
  simp [results, h, hp', asAddr, run_loadVar_row w g t ty cs fr d hg hu hd hi]
theorem Rw.grown_set {w : World} (b i : Nat) (v : Value) : w.grownBy (w.setCell ⟨b, i, none⟩ v) (some b) :=
  ⟨rfl, rfl, rfl, (by show w.heap.size ≤ (w.heap.modify b _).size; rw [Array.size_modify]; exact Nat.le_refl _), fun k _ hk => Below.heap_setCell _ _ _ k (fun e => hk (by rw [show k = b from e]))⟩
theorem Rw.grown_trans {w w' w'' : World} {row : Option Nat} (h : w.grownBy w' row) (h' : w'.grownBy w'' row) : w.grownBy w'' row :=
  ⟨h'.os.trans h.os, h'.tape.trans h.tape, h'.output.trans h.output, Nat.le_trans h.size h'.size, fun k hk hne => (h'.block k (Nat.lt_of_lt_of_le hk h.size) hne).trans (h.block k hk hne)⟩
theorem Rw.grown_bel {w w' : World} {row : Option Nat} (h : Below w.heap.size w w') : w.grownBy w' row := ⟨h.os, h.tape, h.output, h.size, fun k hk _ => h.block k hk⟩
theorem Rw.grown_row {w w' : World} {row : Option Nat} (h : w.grownBy w' none) : w.grownBy w' row := ⟨h.os, h.tape, h.output, h.size, fun k hk _ => h.block k hk (by simp)⟩
theorem Rw.At.not {w : World} {b : Nat} {t t' : TypeId} {cs : List Value} (h : Rw.At w b t cs) (hne : t ≠ t') : ∀ cs' z, w.heap[b]? ≠ some (.cells cs' t' z) := fun cs' z e => by
  have := h.symm.trans e
  simp only [Option.some.injEq, Obj.cells.injEq] at this
  exact hne this.2.1
end Go.Proofs.YtkmfegamblmpeaaGreatDoor

/- The layer model: what is looked up in a table, by walking its text. -/
namespace Go.Proofs.YtkmfegamblmpeaaGreatDoor
open Go.RowKit
set_option linter.unusedSimpArgs false
set_option linter.unusedVariables false

/-- A table's value: rows, and the set of those that aren't composed. -/
def Md.tv (A : Option Addr) (n c : Nat) (XA : Option Addr) (xn xc : Nat) : Value := .agg #[.slice A n c, .slice XA xn xc]
/-- A row's value. -/
def Md.rv (r : Rw.Row) (a : Option Addr × Nat) : Value := .agg #[.int .i32 r.1, .int .i64 r.2.1, .slice a.1 r.2.2.length a.2]
/-- A character's row; an empty one. -/
def Md.rowOf (T : List Rw.Row) (d : Int) : Rw.Row := (Md.find T d).getD (0, 0, [])
theorem Md.cls_of (T : List Rw.Row) (d : Int) : Md.cls T d = (Md.rowOf T d).2.1 := by
  unfold Md.cls Md.rowOf
  cases Md.find T d <;> rfl
theorem Md.rmp_of (T : List Rw.Row) (d : Int) : Md.rmp T d = (Md.rowOf T d).2.2 := by
  unfold Md.rmp Md.rowOf
  cases Md.find T d <;> rfl
def Md.RetFind (T : List Rw.Row) (d : Int) (w : World) (e : Ending) (w' : World) : Prop :=
  ∃ a : Option Addr × Nat, e = .returned (.tuple #[Md.rv (Md.rowOf T d) a, .bool (Md.find T d).isSome]) ∧ Sl w' w'.heap.size a.1 ((Md.rowOf T d).2.2.map (Value.int .i32)) ∧ Below w.heap.size w w'

set_option maxRecDepth 100000 in
set_option maxHeartbeats 2000000 in
theorem Md.find_any (A : Option Addr) (n c : Nat) (XA : Option Addr) (xn xc : Nat) (T : List Rw.Row) (d : Int) (w : World) (hn : T.length = n) (hn' : n ≤ 1000000) (hr : Md.rises T) (hbd : Md.bd T) (h3 : -2147483648 ≤ d) (h4 : d ≤ 2147483647) (hA : Rw.Sees w A T) :
    Calls Tryz.prog 83 #[Md.tv A n c XA xn xc, .int .i32 d] w (Md.RetFind T d w) := by
  obtain ⟨wa, hwa⟩ : ∃ wa, (w.alloc (.cells #[.slice A n c, .slice XA xn xc] 50)).alloc (.cells #[.int .i32 0, .int .i64 0, .slice none 0 0] 99) = wa := ⟨_, rfl⟩
  have hbA : Below w.heap.size w wa := by rw [← hwa]; exact ((Below.refl _ _).alloc (Nat.le_refl _) _).alloc (by simp) _
  have hat0 : Rw.At wa w.heap.size 50 [.slice A n c, .slice XA xn xc] := by rw [← hwa]; exact (Rw.At.new w 50 [.slice A n c, .slice XA xn xc]).alloc _
  have hat1 : Rw.At wa (w.heap.size + 1) 99 [.int .i32 0, .int .i64 0, .slice none 0 0] := by
    have h := Rw.At.new (w.alloc (.cells #[.slice A n c, .slice XA xn xc] 50)) 99 [.int .i32 0, .int .i64 0, .slice none 0 0]
    rw [World.size_alloc] at h
    rw [← hwa]
    exact h
  have hz1 : w.heap.size + 1 < wa.heap.size := hat1.lt
  have hS := Md.search_any A n c T d wa hn hn' hr hbd h3 h4 (hA.below hbA)
  have HWA := Lib.hid hwa
  have HN := Lib.hid hn
  have HA := Lib.hid hA
  have HBA := Lib.hid hbA
  have z0 := hat0.cell 0 rfl
  clear hwa hbA hA hr hbd hn
  unfold Md.tv
  go_enter Tryz.func83, Tryz.ntmps83
  go_upto_region 1 with (fail)
  rw [HWA.out]
  go_wp2_with fail
  refine hS.mono ?_
  rintro e w1 ⟨i, is, rfl, hhit, hb1⟩
  have hat2 := hat0.below hb1
  have hat3 := hat1.below hb1
  have z2 := hat2.cell 0 rfl
  obtain ⟨m1, m2, m3, m4, m5, m6⟩ := hat3.three
  have hz3 : w.heap.size + 1 < w1.heap.size := hat3.lt
  have HB1 := Lib.hid (HBA.out.trans (hb1.mono HBA.out.size))
  have HHIT := Lib.hid hhit
  clear hb1 hhit hS z0 hat0 hat1 hz1
  have HAT3 := Lib.hid hat3
  clear hat3
  cases is
  · have hf := HHIT.out.2 rfl
    have hro : Md.rowOf T d = (0, 0, []) := by unfold Md.rowOf; rw [hf]; rfl
    have HF := Lib.hid hf
    have HRO := Lib.hid hro
    clear hf hro
    go_wp2_with fail
    have hat4 := ((HAT3.out.set 0 (.int .i32 0)).set 1 (.int .i64 0)).set 2 (.slice none 0 0)
    refine bodyPost_ret (Rw.results2 rfl _ _ (w.heap.size + 1) _ _ _ _ rfl hat4 Tryz.underlying99 rfl (by kernel_rfl)) rfl ⟨(none, 0), ?_, ?_, ?_⟩
    · rw [HRO.out, HF.out]; rfl
    · rw [HRO.out]; exact Sl.nil _ _ _
    · exact ((HB1.out.setCell (p := ⟨w.heap.size + 1, 0, none⟩) (by simp) _).setCell (p := ⟨w.heap.size + 1, 1, none⟩) (by simp) _).setCell (p := ⟨w.heap.size + 1, 2, none⟩) (by simp) _
  · obtain ⟨r, hr, hf⟩ := HHIT.out.1 rfl
    obtain ⟨b, o, a, hA1, hb, c0', c1', c2', hmap⟩ := HA.out.row hr
    have c0 := ((bcell HB1.out).1 b (o + i * 3) hb).trans c0'
    have c1 := ((bcell HB1.out).1 b (o + i * 3 + 1) hb).trans c1'
    have c2 := ((bcell HB1.out).1 b (o + i * 3 + 2) hb).trans c2'
    have hbw : b < w1.heap.size := Nat.lt_of_lt_of_le hb HB1.out.size
    have m0 : (0 : Int) ≤ (i : Int) := by omega
    have m7 : (i : Int) < n := by have := (List.getElem?_eq_some_iff.1 hr).1; have := HN.out; omega
    have hro : Md.rowOf T d = r := by unfold Md.rowOf; rw [hf]; rfl
    have HF := Lib.hid hf
    have HRO := Lib.hid hro
    have HM := Lib.hid hmap
    subst hA1
    clear hr hf hro hmap c0' c1' c2'
    go_wp2_with fail
    have hat4 := ((HAT3.out.set 0 (.int .i32 r.1)).set 1 (.int .i64 r.2.1)).set 2 (.slice a.1 r.2.2.length a.2)
    refine bodyPost_ret (Rw.results2 rfl _ _ (w.heap.size + 1) _ _ _ _ rfl hat4 Tryz.underlying99 rfl (by kernel_rfl)) rfl ⟨a, ?_, ?_, ?_⟩
    · rw [HRO.out, HF.out]; rfl
    · rw [HRO.out]
      exact HM.out.below (((HB1.out.setCell (p := ⟨w.heap.size + 1, 0, none⟩) (by simp) _).setCell (p := ⟨w.heap.size + 1, 1, none⟩) (by simp) _).setCell (p := ⟨w.heap.size + 1, 2, none⟩) (by simp) _) (by simpa using HB1.out.size)
    · exact ((HB1.out.setCell (p := ⟨w.heap.size + 1, 0, none⟩) (by simp) _).setCell (p := ⟨w.heap.size + 1, 1, none⟩) (by simp) _).setCell (p := ⟨w.heap.size + 1, 2, none⟩) (by simp) _
end Go.Proofs.YtkmfegamblmpeaaGreatDoor

/- The layer cpset: what its walks share. -/
namespace Go.Proofs.YtkmfegamblmpeaaGreatDoor
open Go.RowKit
set_option linter.unusedSimpArgs false
set_option linter.unusedVariables false

/-- A new set is handed back: its places. -/
def RetSet (l : List Int) (w : World) (e : Ending) (w' : World) : Prop :=
  ∃ A c, e = .returned (.agg #[.slice A l.length c]) ∧ w'.ownsRow w.heap.size 21 1 (.slice A l.length c) l.length (l.map (Value.int .i32)) ∧ Below w.heap.size w w'

theorem blk_cell {w : World} {g : Nat} {cs : Array Value} {t : TypeId} (h : w.heap[g]? = some (.cells cs t (0, 0))) (i : Nat) : w.cell? ⟨g, i, none⟩ = cs[i]? ∧ w.frozen? ⟨g, i, none⟩ = false := by
  constructor
  · simp [World.cell?, h]
  · simp [World.frozen?, h]
theorem own_base {w : World} {base base' : Nat} {e : TypeId} {size n : Nat} {v : Value} {xs : List Value} (h : w.ownsRow base e size v n xs) (hb : base' ≤ base) : w.ownsRow base' e size v n xs := by
  obtain ⟨h1, h2⟩ := h
  refine ⟨h1, ?_⟩
  rcases h2 with h2 | ⟨g, cap, cur, hv, hg, r⟩
  · exact .inl h2
  · exact .inr ⟨g, cap, cur, hv, by omega, r⟩
theorem set_cell {w : World} {g : Nat} {u v : Value} {t : TypeId} (h : w.heap[g]? = some (.cells #[u] t (0, 0))) : (w.setCell ⟨g, 0, none⟩ v).heap[g]? = some (.cells #[v] t (0, 0)) := by
  simp [World.setCell, Array.getElem?_modify, h]

def C.par (i : Nat) : Bool := ((i : Int) % 2 == 1)
/-- 'i&1'. -/
theorem C.and_one (i : Nat) (hi : i < 9223372036854775808) : bits BinOp.and IntKind.i64 (i : Int) 1 = ((i % 2 : Nat) : Int) := by
  have two63 : (2 : Int) ^ 63 = 9223372036854775808 := by decide
  have h := bits_mask .i64 63 (by decide) (fun n h0 h1 => by rw [two63] at h1; rw [IntKind.wrap_i64]; omega) 1 (by decide) (i : Int) (by omega) (by rw [two63]; omega)
  have e : ((2 : Int) ^ 1 - 1) = 1 := by decide
  rw [e] at h
  rw [h]
  omega
theorem Sl.ints {w : World} {B : Nat} {A : Option Addr} {k : IntKind} {l : List Int} (h : Sl w B A (l.map (Value.int k))) {i : Nat} {x : Int} (hx : l[i]? = some x) : ∃ b o, A = some ⟨b, o, none⟩ ∧ b < B ∧ w.cell? ⟨b, o + i, none⟩ = some (.int k x) ∧ ∀ j y, l[j]? = some y → w.cell? ⟨b, o + j, none⟩ = some (.int k y) := by
  have hi : i < l.length := (List.getElem?_eq_some_iff.1 hx).1
  obtain ⟨b, o, hA, hb, hc⟩ := h (by rw [List.length_map]; omega)
  have hj : ∀ j y, l[j]? = some y → w.cell? ⟨b, o + j, none⟩ = some (.int k y) := by
    intro j y hy
    have hj : j < l.length := (List.getElem?_eq_some_iff.1 hy).1
    rw [hc j (by rw [List.length_map]; omega), List.getElem?_map, hy]; rfl
  exact ⟨b, o, hA, hb, hj i x hx, hj⟩

/-- A call of a function with a body: it is entered. -/
theorem C.enter {P : Program} {f : FuncId} {fn : Func} {c : Code} (hf : P.funcs[f]? = some fn) (hname : (fn.name == "runtime.NumGoroutine") = false) (hb : fn.body = some c) (args : Array Value) (w : World) :
    (callFunc f args).run P w = .ok (.enter f args) w := by
  have h1 : fn.name ≠ "runtime.NumGoroutine" := by simpa using hname
  simp [callFunc, hf, h1, hb]
end Go.Proofs.YtkmfegamblmpeaaGreatDoor

/- slices.Clone of runes, by walking its text. -/
namespace Go.Proofs.YtkmfegamblmpeaaGreatDoor
open Go.RowKit
set_option linter.unusedSimpArgs false
set_option linter.unusedVariables false

set_option maxRecDepth 100000 in
set_option maxHeartbeats 1000000 in
/-- slices.Clone of runes that are read: a row of the call's own. -/
theorem R.clone_any (A : Option Addr) (n c B : Nat) (l : List Int) (w : World) (hn : l.length = n) (hn' : n ≤ 1000000) (hB : B ≤ w.heap.size) (hA : Sl w B A (l.map (Value.int .i32))) :
    Calls Tryz.prog 40 #[.slice A n c] w fun r w' => ∃ A' c', r = .returned (.slice A' n c') ∧ w'.ownsRow w.heap.size 21 1 (.slice A' n c') n (l.map (Value.int .i32)) ∧ Go.RowKit.Below w.heap.size w w' := by
  obtain ⟨j0, hj0, hy0, hy1, hy2⟩ := info_parts infoRune
  have HN := Lib.hid hn
  clear hn
  rcases A with _ | ad
  · have hl : l = [] := by
      rcases l with _ | ⟨x, t⟩
      · rfl
      · obtain ⟨b, o, h, _⟩ := hA (by simp)
        cases h
    subst hl
    obtain rfl : 0 = n := HN.out
    have heq : ∀ w, (binOp .eql 36 (.slice none 0 c) (.slice none 0 0)).run Tryz.prog w = .ok (.bool true) w := fun w => by kernel_rfl
    go_enter Tryz.func40, Tryz.ntmps40
    go_wp2
    go_ret
    exact ⟨none, 0, rfl, World.ownsRow_nil _ _ _ _, Go.RowKit.Below.refl _ _⟩
  · have hal : Go.RowKit.Below w.heap.size w (w.alloc (.cells #[] 21)) := (Go.RowKit.Below.refl _ _).alloc (Nat.le_refl _) _
    have hS := Lib.hid (hA.belowN hal hB (Nat.le_refl _))
    have heq : ∀ w, (binOp .eql 36 (.slice (some ad) n c) (.slice none 0 0)).run Tryz.prog w = .ok (.bool false) w := fun w => by first | exact Lib.run_eql_slice_nil w _ _ _ _ _ Tryz.underlying36 | kernel_rfl | simp [binOp, Op.equal, Op.maxDepth, Op.equalIn, run_underlying Tryz.underlying36]
    have hown0 : (w.alloc (.cells #[] 21)).ownsRow w.heap.size 21 1 (.slice (some ⟨w.heap.size, 0, none⟩) 0 0) 0 [] := ⟨rfl, .inr ⟨w.heap.size, 0, #[], rfl, Nat.le_refl _, heap_alloc_new w _, Nat.le_refl _, by decide, rfl, rfl⟩⟩
    go_enter Tryz.func40, Tryz.ntmps40
    go_wp2_with (at_builtin; refine wpList_appendSl _ rfl _ _ _ rfl w.heap.size 21 j0 _ 1 4 Tryz.underlying36 hj0 hy0 hy1 hy2 rfl (by omega) _ 0 _ rfl hown0 _ (some ad) n c (l.map (Value.int .i32)) rfl (by rw [List.length_map, HN.out]; omega) hS.out (oneCells _ _) (by simp only [maxLen]; omega) (by omega) (by simp) ?_; intro v1 w2 hown2 hb2 _)
    obtain ⟨A5, c5, rfl⟩ := own_form hown2
    go_wp2
    go_ret
    rw [Nat.zero_add] at hown2
    exact ⟨A5, c5, by simp, by simpa using hown2, hal.trans hb2⟩
end Go.Proofs.YtkmfegamblmpeaaGreatDoor
