/- The layer cpset: what its walks share. -/
import Derived.Test.YthcdecncnppjaaaDoorCpPlainB
import Derived.Test.YthcdecncnppjaaaDoorLib4
import Derived.BigQuiet
import Derived.Deep.QuietTactic
namespace Go.Proofs.YthcdecncnppjaaaDoor
open Go.RowKit
set_option linter.unusedSimpArgs false
set_option linter.unusedVariables false

/-- A new set is handed back: its places. -/
def RetSet (l : List Int) (w : World) (e : Ending) (w' : World) : Prop :=
  ∃ A c, e = .returned (.agg #[.slice A l.length c]) ∧ w'.ownsRow w.heap.size 21 1 (.slice A l.length c) l.length (l.map (Value.int .i32)) ∧ Below w.heap.size w w'

/-- A call that lays its result's variable first: that variable's block, and what was there before. -/
theorem ret_blk {w wr : World} {cs : Array Value} {t : TypeId} (h : Below (w.heap.size + 1) (w.alloc (.cells cs t)) wr) : wr.heap[w.heap.size]? = some (.cells cs t (0, 0)) ∧ Below w.heap.size w wr := by
  refine ⟨(h.block w.heap.size (by omega)).trans (heap_alloc_new _ _), ?_⟩
  exact ((Below.refl _ _).alloc (Nat.le_refl _) _).trans (h.mono (by omega))
theorem blk_cell {w : World} {g : Nat} {cs : Array Value} {t : TypeId} (h : w.heap[g]? = some (.cells cs t (0, 0))) (i : Nat) : w.cell? ⟨g, i, none⟩ = cs[i]? ∧ w.frozen? ⟨g, i, none⟩ = false := by
  constructor
  · simp [World.cell?, h]
  · simp [World.frozen?, h]
theorem own_base {w : World} {base base' : Nat} {e : TypeId} {size n : Nat} {v : Value} {xs : List Value} (h : w.ownsRow base e size v n xs) (hb : base' ≤ base) : w.ownsRow base' e size v n xs := by
  obtain ⟨h1, h2⟩ := h
  refine ⟨h1, ?_⟩
  rcases h2 with h2 | ⟨g, cap, cur, hv, hg, r⟩
  · exact .inl h2
  · exact .inr ⟨g, cap, cur, hv, by omega, r⟩
theorem set_cell {w : World} {g : Nat} {u v : Value} {t : TypeId} (h : w.heap[g]? = some (.cells #[u] t (0, 0))) : (w.setCell ⟨g, 0, none⟩ v).heap[g]? = some (.cells #[v] t (0, 0)) := by
  simp [World.setCell, Array.getElem?_modify, h]

def C.par (i : Nat) : Bool := ((i : Int) % 2 == 1)
theorem C.par_succ (i : Nat) : C.par (i + 1) = !C.par i := by
  unfold C.par
  rw [Bool.eq_iff_iff]
  simp
  omega
theorem C.par_succ' (i : Nat) : (((i : Int) + 1) % 2 == 1) = !C.par i := by rw [← C.par_succ]; rfl
/-- 'i&1'. -/
theorem C.and_one (i : Nat) (hi : i < 9223372036854775808) : bits BinOp.and IntKind.i64 (i : Int) 1 = ((i % 2 : Nat) : Int) := by
  have two63 : (2 : Int) ^ 63 = 9223372036854775808 := by decide
  have h := bits_mask .i64 63 (by decide) (fun n h0 h1 => by rw [two63] at h1; rw [IntKind.wrap_i64]; omega) 1 (by decide) (i : Int) (by omega) (by rw [two63]; omega)
  have e : ((2 : Int) ^ 1 - 1) = 1 := by decide
  rw [e] at h
  rw [h]
  omega
theorem C.par_bits (i : Nat) (hi : i < 9223372036854775808) : (bits BinOp.and IntKind.i64 (i : Int) 1 == 1) = C.par i := by
  rw [C.and_one i hi]
  unfold C.par
  rw [Bool.eq_iff_iff]
  simp
theorem C.par_bits1 (i : Nat) (hi : i < 9223372036854775807) : (bits BinOp.and IntKind.i64 ((i : Int) + 1) 1 == 1) = !C.par i := by
  rw [← C.par_succ, ← C.par_bits (i + 1) (by omega)]
  rfl
theorem C.drop_get {l : List Int} {i : Nat} {x : Int} {t : List Int} (h : l.drop i = x :: t) : i < l.length ∧ l[i]? = some x ∧ l.drop (i + 1) = t := by
  have hi : i < l.length := by
    rcases Nat.lt_or_ge i l.length with h' | h'
    · exact h'
    · rw [List.drop_of_length_le h'] at h; cases h
  rw [List.drop_eq_getElem_cons hi] at h
  simp only [List.cons.injEq] at h
  exact ⟨hi, by rw [List.getElem?_eq_getElem hi, h.1], h.2⟩
theorem C.drop_nil {l : List Int} {i : Nat} (h : l.drop i = []) (hi : i ≤ l.length) : i = l.length := by
  have := List.drop_eq_nil_iff.1 h; omega
theorem C.srt_drop {l : List Int} (h : C.srt l) (i : Nat) : C.srt (l.drop i) := List.Pairwise.sublist (List.drop_sublist i l) h

theorem Sl.ints {w : World} {B : Nat} {A : Option Addr} {k : IntKind} {l : List Int} (h : Sl w B A (l.map (Value.int k))) {i : Nat} {x : Int} (hx : l[i]? = some x) : ∃ b o, A = some ⟨b, o, none⟩ ∧ b < B ∧ w.cell? ⟨b, o + i, none⟩ = some (.int k x) ∧ ∀ j y, l[j]? = some y → w.cell? ⟨b, o + j, none⟩ = some (.int k y) := by
  have hi : i < l.length := (List.getElem?_eq_some_iff.1 hx).1
  obtain ⟨b, o, hA, hb, hc⟩ := h (by rw [List.length_map]; omega)
  have hj : ∀ j y, l[j]? = some y → w.cell? ⟨b, o + j, none⟩ = some (.int k y) := by
    intro j y hy
    have hj : j < l.length := (List.getElem?_eq_some_iff.1 hy).1
    rw [hc j (by rw [List.length_map]; omega), List.getElem?_map, hy]; rfl
  exact ⟨b, o, hA, hb, hj i x hx, hj⟩

/-- A call of a function with a body: it is entered. -/
theorem C.enter {P : Program} {f : FuncId} {fn : Func} {c : Code} (hf : P.funcs[f]? = some fn) (hname : (fn.name == "runtime.NumGoroutine") = false) (hb : fn.body = some c) (args : Array Value) (w : World) :
    (callFunc f args).run P w = .ok (.enter f args) w := by
  have h1 : fn.name ≠ "runtime.NumGoroutine" := by simpa using hname
  simp [callFunc, hf, h1, hb]
end Go.Proofs.YthcdecncnppjaaaDoor
