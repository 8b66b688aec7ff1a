/- Small laws of the layer rows: a block whose cells are known. -/
import Derived.Test.YthcdecncnppjaaaDoorSlt
import Derived.RangeFuncRecord
namespace Go.Proofs.YthcdecncnppjaaaDoor
open Go.RowKit
set_option linter.unusedSimpArgs false
set_option linter.unusedVariables false

/-- What stands at block b: cells of the type t. -/
def Rw.At (w : World) (b : Nat) (t : TypeId) (cs : List Value) : Prop := w.heap[b]? = some (.cells cs.toArray t (0, 0))
theorem Rw.At.lt {w : World} {b : Nat} {t : TypeId} {cs : List Value} (h : Rw.At w b t cs) : b < w.heap.size := heap_lt h
theorem Rw.At.cell {w : World} {b : Nat} {t : TypeId} {cs : List Value} (h : Rw.At w b t cs) (i : Nat) {v : Value} (hv : cs[i]? = some v) : w.cell? ⟨b, i, none⟩ = some v := by
  unfold Rw.At at h
  simp [World.cell?, h, hv]
theorem Rw.At.frozen {w : World} {b : Nat} {t : TypeId} {cs : List Value} (h : Rw.At w b t cs) (i : Nat) : w.frozen? ⟨b, i, none⟩ = false := by
  unfold Rw.At at h
  simp [World.frozen?, h]
theorem Rw.At.set {w : World} {b : Nat} {t : TypeId} {cs : List Value} (h : Rw.At w b t cs) (i : Nat) (v : Value) : Rw.At (w.setCell ⟨b, i, none⟩ v) b t (cs.set i v) := by
  obtain ⟨hlt, hk⟩ := Array.getElem?_eq_some_iff.1 h
  show (w.heap.modify b _)[b]? = _
  rw [Array.getElem?_eq_getElem (by rw [Array.size_modify]; exact hlt), Array.getElem_modify_self, hk]
  simp
theorem Rw.At.grown {w w' : World} {b : Nat} {t : TypeId} {cs : List Value} {row : Option Nat} (h : Rw.At w b t cs) (hg : w.grownBy w' row) (hr : row ≠ some b) : Rw.At w' b t cs :=
  (hg.block b h.lt fun e => hr e.symm).trans h
theorem Rw.At.below {w w' : World} {b : Nat} {t : TypeId} {cs : List Value} (h : Rw.At w b t cs) (hb : Below w.heap.size w w') : Rw.At w' b t cs := (hb.block b h.lt).trans h
theorem Rw.At.new (w : World) (t : TypeId) (cs : List Value) : Rw.At (w.alloc (.cells cs.toArray t)) w.heap.size t cs := World.alloc_heap_new w _
theorem Rw.grown_below {w w' : World} (h : Below w.heap.size w w') : w.grownBy w' none := ⟨h.os, h.tape, h.output, h.size, fun k hk _ => h.block k hk⟩
theorem Rw.At.three {w : World} {b : Nat} {t : TypeId} {u v x : Value} (h : Rw.At w b t [u, v, x]) :
    w.cell? ⟨b, 0, none⟩ = some u ∧ w.cell? ⟨b, 1, none⟩ = some v ∧ w.cell? ⟨b, 2, none⟩ = some x ∧ w.frozen? ⟨b, 0, none⟩ = false ∧ w.frozen? ⟨b, 1, none⟩ = false ∧ w.frozen? ⟨b, 2, none⟩ = false :=
  ⟨h.cell 0 rfl, h.cell 1 rfl, h.cell 2 rfl, h.frozen 0, h.frozen 1, h.frozen 2⟩
theorem Rw.At.below' {w w' : World} {b B : Nat} {t : TypeId} {cs : List Value} (h : Rw.At w b t cs) (hb : Below B w w') (hB : b < B) : Rw.At w' b t cs := (hb.block b hB).trans h
theorem Rw.At.other {w : World} {b b' i : Nat} {t : TypeId} {cs : List Value} (h : Rw.At w b t cs) (hne : b ≠ b') (v : Value) : Rw.At (w.setCell ⟨b', i, none⟩ v) b t cs :=
  (Below.heap_setCell _ _ _ b hne).trans h
theorem Rw.At.alloc {w : World} {b : Nat} {t : TypeId} {cs : List Value} (h : Rw.At w b t cs) (o : Obj) : Rw.At (w.alloc o) b t cs := (Below.heap_alloc _ _ _ h.lt).trans h
theorem Slt.setAt {w : World} {t t' : TypeId} {A : Option Addr} {xs cs : List Value} {b : Nat} (h : Slt w t A xs) (k : Rw.At w b t' cs) (hne : t' ≠ t) (i : Nat) (v : Value) : Slt (w.setCell ⟨b, i, none⟩ v) t A xs := by
  intro hx
  obtain ⟨g, o, cs', hA, hb, hc⟩ := h hx
  refine ⟨g, o, cs', hA, (Below.heap_setCell _ _ _ g fun e => ?_).trans hb, hc⟩
  have e : g = b := e
  subst e
  have := k.symm.trans hb
  simp only [Option.some.injEq, Obj.cells.injEq] at this
  exact hne this.2.1
theorem Rw.results2 {P : Program} {fn : Func} {p u : Tmp} {ty : TypeId} (h : fn.results = #[.cell p ty, .tmp u]) (tmps : Array Value) (w : World) (g : Nat) (t : TypeId) (cs : Array Value) (fr : Nat × Nat) (d : TypeDesc)
    (hp : tmps.getD p undef = .pointer (some ⟨g, 0, none⟩)) (hg : w.heap[g]? = some (.cells cs t fr))
    (hu : P.underlying ty = some d) (hd : (match d with | .struct _ | .array _ _ => true | _ => false) = true) (hi : (P.info? ty).map (·.size) = some cs.size) :
    (results fn tmps).run P w = .ok (.tuple #[.agg cs, tmps.getD u undef]) w := by
  have hp' : tmps[p]?.getD undef = .pointer (some ⟨g, 0, none⟩) := by simpa using hp
  simp [results, h, hp', asAddr, run_loadVar_row w g t ty cs fr d hg hu hd hi]
theorem Rw.grown_set {w : World} (b i : Nat) (v : Value) : w.grownBy (w.setCell ⟨b, i, none⟩ v) (some b) :=
  ⟨rfl, rfl, rfl, (by show w.heap.size ≤ (w.heap.modify b _).size; rw [Array.size_modify]; exact Nat.le_refl _), fun k _ hk => Below.heap_setCell _ _ _ k (fun e => hk (by rw [show k = b from e]))⟩
theorem Rw.grown_trans {w w' w'' : World} {row : Option Nat} (h : w.grownBy w' row) (h' : w'.grownBy w'' row) : w.grownBy w'' row :=
  ⟨h'.os.trans h.os, h'.tape.trans h.tape, h'.output.trans h.output, Nat.le_trans h.size h'.size, fun k hk hne => (h'.block k (Nat.lt_of_lt_of_le hk h.size) hne).trans (h.block k hk hne)⟩
theorem Rw.grown_bel {w w' : World} {row : Option Nat} (h : Below w.heap.size w w') : w.grownBy w' row := ⟨h.os, h.tape, h.output, h.size, fun k hk _ => h.block k hk⟩
theorem Rw.grown_row {w w' : World} {row : Option Nat} (h : w.grownBy w' none) : w.grownBy w' row := ⟨h.os, h.tape, h.output, h.size, fun k hk _ => h.block k hk (by simp)⟩
theorem Rw.At.not {w : World} {b : Nat} {t t' : TypeId} {cs : List Value} (h : Rw.At w b t cs) (hne : t ≠ t') : ∀ cs' z, w.heap[b]? ≠ some (.cells cs' t' z) := fun cs' z e => by
  have := h.symm.trans e
  simp only [Option.some.injEq, Obj.cells.injEq] at this
  exact hne this.2.1
end Go.Proofs.YthcdecncnppjaaaDoor
