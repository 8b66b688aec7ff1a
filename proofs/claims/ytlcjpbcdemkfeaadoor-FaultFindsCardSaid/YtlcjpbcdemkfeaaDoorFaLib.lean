/- The layer fault: errors that are a chain of faults; At, Of, Code, Wrap, Unwrap. -/
import Derived.Test.YtlcjpbcdemkfeaaDoorFaAs
import Derived.Test.YtlcjpbcdemkfeaaDoorCpLib
import Derived.Test.YtlcjpbcdemkfeaaDoorLib4
import Derived.Lib.AppendIntMem
namespace Go.Proofs.YtlcjpbcdemkfeaaDoor
open Go.RowKit Go.Stop
set_option linter.unusedSimpArgs false
set_option linter.unusedVariables false

/-- What start-up code has laid: errors' type 'error', strconv's table. -/
def F.Laid (w : World) : Prop := w.cell? ⟨0, 0, none⟩ = some (.iface 99 (.agg #[.pointer (some ⟨5, 27, none⟩)])) ∧ Lib.TabIs Tryd.prog w "internal/strconv.uint64pow10" .u64 Lib.pow10Tab
theorem F.Laid.next {w w' : World} (h : F.Laid w) (hb : Below w.heap.size w w') : F.Laid w' := by
  refine ⟨?_, Lib.tabBelow_of_tabIs h.2 w' hb⟩
  have hlt : 0 < w.heap.size := by
    rcases Nat.lt_or_ge 0 w.heap.size with h' | h'
    · exact h'
    · have := h.1; simp [World.cell?, Array.getElem?_eq_none h'] at this
  rw [(bcell hb).1 _ _ hlt]; exact h.1

/-- An error that is a chain of faults: the blocks, and what each bears: its number, its line, its note. -/
def F.Ch (w : World) (B : Nat) : List (Nat × Int × Int × ByteArray) → Value → Prop
  | [], v => v = .nilIface
  | (b, c, n, s) :: t, v => v = .iface 42 (.pointer (some ⟨b, 0, none⟩)) ∧ b < B ∧ ∃ e, w.heap[b]? = some (.cells #[.int .i64 c, .int .i64 n, .string s, e] 44 (0, 0)) ∧ F.Ch w B t e
theorem F.Ch.below {w w' : World} {B B0 B' : Nat} (hb : Below B0 w w') (h0 : B ≤ B0) (h1 : B ≤ B') : ∀ {q : List (Nat × Int × Int × ByteArray)} {v : Value}, F.Ch w B q v → F.Ch w' B' q v
  | [], v, h => h
  | (b, c, n, s) :: t, v, h => by
    obtain ⟨h2, h3, e, h4, h5⟩ := h
    exact ⟨h2, by omega, e, (hb.block b (by omega)).trans h4, F.Ch.below hb h0 h1 h5⟩
/-- What a chain's links bear. -/
def F.lk (q : List (Nat × Int × Int × ByteArray)) : List (Int × Int × ByteArray) := q.map (·.2)
theorem F.Ch.get {w : World} {B : Nat} : ∀ {q : List (Nat × Int × Int × ByteArray)} {v : Value}, F.Ch w B q v → ∀ {i b : Nat} {c n : Int} {s : ByteArray}, q[i]? = some (b, c, n, s) →
    b < B ∧ ∃ e, w.heap[b]? = some (.cells #[.int .i64 c, .int .i64 n, .string s, e] 44 (0, 0))
  | [], v, h, i, b, c, n, s, hq => by simp at hq
  | (b', c', n', s') :: t, v, h, 0, b, c, n, s, hq => by
    obtain ⟨h2, h3, e, h4, h5⟩ := h
    simp at hq
    obtain ⟨rfl, rfl, rfl, rfl⟩ := hq
    exact ⟨h3, e, h4⟩
  | (b', c', n', s') :: t, v, h, i + 1, b, c, n, s, hq => by
    obtain ⟨h2, h3, e, h4, h5⟩ := h
    exact F.Ch.get h5 (by simpa using hq)

def F.RetCh (l : List (Int × Int × ByteArray)) (w : World) (e : Ending) (w' : World) : Prop :=
  ∃ q v, e = .returned v ∧ F.lk q = l ∧ F.Ch w' w'.heap.size q v ∧ Below w.heap.size w w'

set_option maxRecDepth 100000 in
set_option maxHeartbeats 1000000 in
theorem F.at_any (c n : Int) (s : ByteArray) (w : World) :
    Calls Tryd.prog 23 #[.int .i64 c, .int .i64 n, .string s] w (F.RetCh (if c = 0 then [] else [(c, n, s)]) w) := by
  by_cases hc : c = 0
  · rw [if_pos hc]
    subst hc
    go_enter Tryd.func23, Tryd.ntmps23
    go_wp2
    go_ret
    exact ⟨[], .nilIface, rfl, rfl, rfl, Below.refl _ _⟩
  · rw [if_neg hc]
    go_enter Tryd.func23, Tryd.ntmps23
    go_wp2
    go_ret
    have hn := heap_alloc_new w (.cells #[.int .i64 c, .int .i64 n, .string s, .nilIface] 44)
    have hs : w.heap.size < (w.alloc (.cells #[.int .i64 c, .int .i64 n, .string s, .nilIface] 44)).heap.size := by simp
    have hal : Below w.heap.size w (w.alloc (.cells #[.int .i64 c, .int .i64 n, .string s, .nilIface] 44)) := (Below.refl _ _).alloc (Nat.le_refl _) _
    exact ⟨[(w.heap.size, c, n, s)], _, rfl, rfl, ⟨rfl, hs, .nilIface, hn, rfl⟩, hal⟩
theorem F.of_any (c : Int) (w : World) :
    Calls Tryd.prog 24 #[.int .i64 c] w (F.RetCh (if c = 0 then [] else [(c, 0, ⟨#[]⟩)]) w) := by
  have HA := Lib.hid (F.at_any c 0 ⟨#[]⟩ w)
  obtain ⟨l, hl0⟩ : ∃ l, (if c = 0 then [] else [(c, (0 : Int), (⟨#[]⟩ : ByteArray))]) = l := ⟨_, rfl⟩
  rw [hl0] at HA ⊢
  clear hl0
  go_enter Tryd.func24, Tryd.ntmps24
  go_wp2_with fail
  refine HA.out.mono ?_
  rintro e w1 ⟨q, v, rfl, hl, hq, hb⟩
  go_wp2
  go_ret
  exact ⟨q, v, rfl, hl, hq, hb⟩

def F.code : List (Int × Int × ByteArray) → Int
  | [] => 0
  | x :: _ => x.1

/-- errors.As at a fault: it is found; the target's variable holds it. -/
theorem F.as_hit' (e t : Addr) (old : Value) (w : World) (hL : F.Laid w) (ht0 : w.cell? t = some old) (hf0 : w.frozen? t = false) :
    Calls Tryd.prog 25 #[.iface 42 (.pointer (some e)), .iface 51 (.pointer (some t))] w fun ev w' => ev = .returned (.bool true) ∧ w'.cell? t = some (.pointer (some e)) ∧ Below t.block w w' := by
  have htl : t.block < w.heap.size := by
    rcases Nat.lt_or_ge t.block w.heap.size with h | h
    · exact h
    · simp [World.cell?, Array.getElem?_eq_none h] at ht0
  refine (F.as_hit e t old w hL.1 ht0 hf0).mono ?_
  rintro ev w' ⟨rfl, rfl⟩
  refine ⟨rfl, ?_, ?_⟩
  · refine World.cell?_setCell_same _ _ _ (u := old) ?_
    rw [World.cell?_alloc_lt _ _ t (by simp; omega), World.cell?_alloc_lt _ _ t (by simp; omega), World.cell?_alloc_lt _ _ t (by simp; omega), World.cell?_alloc_lt _ _ t htl]; exact ht0
  · exact ((((((Below.refl _ _).alloc (by omega) _).alloc (by simp; omega) _).alloc (by simp; omega) _).alloc (by simp; omega) _)).setCell (Nat.le_refl _) _

set_option maxRecDepth 100000 in
set_option maxHeartbeats 1000000 in
theorem F.code_any (B : Nat) (q : List (Nat × Int × Int × ByteArray)) (v : Value) (w : World) (hL : F.Laid w) (hB : B ≤ w.heap.size) (hq : F.Ch w B q v) :
    Calls Tryd.prog 15 #[v] w fun e w' => e = .returned (.int .i64 (F.code (F.lk q))) ∧ Below w.heap.size w w' := by
  rcases q with _ | ⟨⟨b, c, n, s⟩, t⟩
  · obtain rfl : v = .nilIface := hq
    go_enter Tryd.func15, Tryd.ntmps15
    go_wp2
    go_ret
    exact ⟨rfl, (Below.refl _ _).alloc (Nat.le_refl _) _⟩
  · obtain ⟨rfl, hb, e, hbl, hch⟩ := hq
    have hal : Below w.heap.size w (w.alloc (.cells #[.pointer none] 42)) := (Below.refl _ _).alloc (Nat.le_refl _) _
    have hn := heap_alloc_new w (.cells #[.pointer none] 42)
    obtain ⟨hc0, hf0⟩ := blk_cell hn 0
    simp only [List.getElem?_toArray, List.getElem?_cons_zero] at hc0
    have hL1 := hL.next hal
    go_enter Tryd.func15, Tryd.ntmps15
    go_wp2_with fail
    refine (F.as_hit' ⟨b, 0, none⟩ ⟨w.heap.size, 0, none⟩ (.pointer none) _ hL1 hc0 hf0).mono ?_
    rintro ev w1 ⟨rfl, h1, h2⟩
    have hb1 := hal.trans h2
    have hbl1 := (hb1.block b (by omega)).trans hbl
    obtain ⟨d0, _⟩ := blk_cell hbl1 0
    simp only [List.getElem?_toArray, List.getElem?_cons_zero] at d0
    go_wp2
    go_ret
    exact ⟨rfl, hb1⟩

set_option maxRecDepth 100000 in
set_option maxHeartbeats 1000000 in
theorem F.wrap_any (B : Nat) (q : List (Nat × Int × Int × ByteArray)) (v : Value) (s : ByteArray) (w : World) (hL : F.Laid w) (hB : B ≤ w.heap.size) (hq : F.Ch w B q v) :
    Calls Tryd.prog 11 #[v, .string s] w (F.RetCh (if F.lk q = [] then [] else (F.code (F.lk q), 0, s) :: F.lk q) w) := by
  rcases q with _ | ⟨⟨b, c, n, s'⟩, t⟩
  · obtain rfl : v = .nilIface := hq
    go_enter Tryd.func11, Tryd.ntmps11
    go_wp2
    go_ret
    exact ⟨[], .nilIface, rfl, rfl, rfl, Below.refl _ _⟩
  · have hq' := hq
    have HC := Lib.hid (F.code_any B _ v w hL hB hq)
    obtain ⟨rfl, hb, e, hbl, hch⟩ := hq
    rw [if_neg (by simp [F.lk])]
    go_enter Tryd.func11, Tryd.ntmps11
    go_wp2_with fail
    refine HC.out.mono ?_
    rintro e1 w1 ⟨rfl, hb1⟩
    go_wp2
    go_ret
    have hal := hb1.alloc hb1.size (.cells #[.int .i64 (F.code (F.lk ((b, c, n, s') :: t))), .int .i64 0, .string s, .iface 42 (.pointer (some ⟨b, 0, none⟩))] 44)
    have hs1 := hb1.size
    exact ⟨(w1.heap.size, F.code (F.lk ((b, c, n, s') :: t)), 0, s) :: (b, c, n, s') :: t, _, rfl, rfl, ⟨rfl, by simp, _, heap_alloc_new w1 _, hq'.below hal (by omega) (by simp; omega)⟩, hal⟩
end Go.Proofs.YtlcjpbcdemkfeaaDoor
