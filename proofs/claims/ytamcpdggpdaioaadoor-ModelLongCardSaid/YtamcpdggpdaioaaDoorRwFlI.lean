/- The layer fault: errors that are a chain of faults; At, Of, Code, Wrap, Unwrap. -/
import Derived.Test.YtamcpdggpdaioaaDoorFaAs
import Derived.Test.YtamcpdggpdaioaaDoorMdLook
import Derived.Test.YtamcpdggpdaioaaDoorFaCh
import Derived.Test.YtamcpdggpdaioaaDoorSlt
import Derived.Lib.AppendIntMem
import Derived.Lib.LaidTab
import Derived.Test.YtamcpdggpdaioaaDoorRwFl
import Derived.Test.YtamcpdggpdaioaaDoorMdTable
namespace Go.Proofs.YtamcpdggpdaioaaDoor
open Go.RowKit Go.Stop
set_option linter.unusedSimpArgs false
set_option linter.unusedVariables false

/-- What start-up code has laid: errors' type 'error'. -/
def F.LaidE (w : World) : Prop := w.cell? ⟨0, 0, none⟩ = some (.iface 112 (.agg #[.pointer (some ⟨1, 37, none⟩)]))
theorem F.LaidE.next {w w' : World} (h : F.LaidE w) (hb : Below w.heap.size w w') : F.LaidE w' := by
  have hlt : 0 < w.heap.size := by
    rcases Nat.lt_or_ge 0 w.heap.size with h' | h'
    · exact h'
    · have := h; simp [F.LaidE, World.cell?, Array.getElem?_eq_none h'] at this
  unfold F.LaidE
  rw [(bcell hb).1 _ _ hlt]; exact h
/-- What start-up code has laid: errors' type 'error', strconv's table. -/
def F.Laid (w : World) : Prop := F.LaidE w ∧ Lib.TabIs Tryd.prog w "internal/strconv.uint64pow10" .u64 Lib.pow10Tab
theorem F.Laid.next {w w' : World} (h : F.Laid w) (hb : Below w.heap.size w w') : F.Laid w' := ⟨h.1.next hb, Lib.tabBelow_of_tabIs h.2 w' hb⟩

/-- errors.As at a fault: it is found; the target's variable holds it. -/
theorem F.as_hitE (e t : Addr) (old : Value) (w : World) (hL : F.LaidE w) (ht0 : w.cell? t = some old) (hf0 : w.frozen? t = false) :
    Calls Tryd.prog 21 #[.iface 63 (.pointer (some e)), .iface 65 (.pointer (some t))] w fun ev w' => ev = .returned (.bool true) ∧ w'.cell? t = some (.pointer (some e)) ∧ Below t.block w w' := by
  have htl : t.block < w.heap.size := by
    rcases Nat.lt_or_ge t.block w.heap.size with h | h
    · exact h
    · simp [World.cell?, Array.getElem?_eq_none h] at ht0
  refine (F.as_hit e t old w hL ht0 hf0).mono ?_
  rintro ev w' ⟨rfl, rfl⟩
  refine ⟨rfl, ?_, ?_⟩
  · refine World.cell?_setCell_same _ _ _ (u := old) ?_
    rw [World.cell?_alloc_lt _ _ t (by simp; omega), World.cell?_alloc_lt _ _ t (by simp; omega), World.cell?_alloc_lt _ _ t (by simp; omega), World.cell?_alloc_lt _ _ t htl]; exact ht0
  · exact ((((((Below.refl _ _).alloc (by omega) _).alloc (by simp; omega) _).alloc (by simp; omega) _).alloc (by simp; omega) _)).setCell (Nat.le_refl _) _

set_option maxRecDepth 100000 in
set_option maxHeartbeats 1000000 in
theorem F.codeE_any (B : Nat) (q : List (Nat × Int × Int × ByteArray)) (v : Value) (w : World) (hL : F.LaidE w) (hB : B ≤ w.heap.size) (hq : F.Ch w B q v) :
    Calls Tryd.prog 8 #[v] w fun e w' => e = .returned (.int .i64 (F.code (F.lk q))) ∧ Below w.heap.size w w' := by
  rcases q with _ | ⟨⟨b, c, n, s⟩, t⟩
  · obtain rfl : v = .nilIface := hq
    go_enter Tryd.func8, Tryd.ntmps8
    go_wp2
    go_ret
    exact ⟨rfl, (Below.refl _ _).alloc (Nat.le_refl _) _⟩
  · obtain ⟨rfl, hb, e, hbl, hch⟩ := hq
    have hal : Below w.heap.size w (w.alloc (.cells #[.pointer none] 63)) := (Below.refl _ _).alloc (Nat.le_refl _) _
    have hn := heap_alloc_new w (.cells #[.pointer none] 63)
    obtain ⟨hc0, hf0⟩ := blk_cell hn 0
    simp only [List.getElem?_toArray, List.getElem?_cons_zero] at hc0
    have hL1 := hL.next hal
    go_enter Tryd.func8, Tryd.ntmps8
    go_wp2_with fail
    refine (F.as_hitE ⟨b, 0, none⟩ ⟨w.heap.size, 0, none⟩ (.pointer none) _ hL1 hc0 hf0).mono ?_
    rintro ev w1 ⟨rfl, h1, h2⟩
    have hb1 := hal.trans h2
    have hbl1 := (hb1.block b (by omega)).trans hbl
    obtain ⟨d0, _⟩ := blk_cell hbl1 0
    simp only [List.getElem?_toArray, List.getElem?_cons_zero] at d0
    go_wp2
    go_ret
    exact ⟨rfl, hb1⟩

theorem F.as_hit' (e t : Addr) (old : Value) (w : World) (hL : F.Laid w) (ht0 : w.cell? t = some old) (hf0 : w.frozen? t = false) :
    Calls Tryd.prog 21 #[.iface 63 (.pointer (some e)), .iface 65 (.pointer (some t))] w fun ev w' => ev = .returned (.bool true) ∧ w'.cell? t = some (.pointer (some e)) ∧ Below t.block w w' := F.as_hitE e t old w hL.1 ht0 hf0
theorem F.code_any (B : Nat) (q : List (Nat × Int × Int × ByteArray)) (v : Value) (w : World) (hL : F.Laid w) (hB : B ≤ w.heap.size) (hq : F.Ch w B q v) :
    Calls Tryd.prog 8 #[v] w fun e w' => e = .returned (.int .i64 (F.code (F.lk q))) ∧ Below w.heap.size w w' := F.codeE_any B q v w hL.1 hB hq
end Go.Proofs.YtamcpdggpdaioaaDoor

/- The document's rows that a call makes. -/
namespace Go.Proofs.YtamcpdggpdaioaaDoor
open Go.RowKit
set_option linter.unusedSimpArgs false
set_option linter.unusedVariables false

theorem Rw.flI_app : ∀ (rs : List Rw.Row) (ads : List (Option Addr × Nat)) (r : Rw.Row) (a : Option Addr × Nat), ads.length = rs.length →
    Rw.flI (rs ++ [r]) (ads ++ [a]) = Rw.flI rs ads ++ [.int .i64 r.1, .int .i64 r.2.1, .slice a.1 r.2.2.length a.2]
  | [], [], r, a, _ => rfl
  | [], _ :: _, _, _, h => by simp at h
  | q :: rs, [], r, a, h => by simp at h
  | q :: rs, b :: ads, r, a, h => by
    simp only [List.cons_append, Rw.flI]
    rw [Rw.flI_app rs ads r a (by simpa using h)]
/-- The mappings of rows, each at its address. -/
def Rw.MapsI (w : World) (rs : List Rw.Row) (ads : List (Option Addr × Nat)) : Prop := ∀ (i : Nat) (r : Rw.Row) (a : Option Addr × Nat), rs[i]? = some r → ads[i]? = some a → Slt w 3 a.1 (r.2.2.map (Value.int .i64))
theorem Rw.MapsI.app {w : World} {rs : List Rw.Row} {ads : List (Option Addr × Nat)} (h : Rw.MapsI w rs ads) (hl : ads.length = rs.length) {r : Rw.Row} {a : Option Addr × Nat} (hr : Slt w 3 a.1 (r.2.2.map (Value.int .i64))) : Rw.MapsI w (rs ++ [r]) (ads ++ [a]) := by
  intro i q x hq hx
  rcases Nat.lt_or_ge i rs.length with hi | hi
  · rw [List.getElem?_append_left hi] at hq
    rw [List.getElem?_append_left (by omega)] at hx
    exact h i q x hq hx
  · rw [List.getElem?_append_right hi] at hq
    rw [List.getElem?_append_right (by omega)] at hx
    obtain ⟨j, hj⟩ : ∃ j, i - rs.length = j := ⟨_, rfl⟩
    rw [hl, hj] at hx
    rw [hj] at hq
    rcases j with _ | j
    · simp at hq hx
      subst hq hx
      exact hr
    · simp at hq
theorem Rw.MapsI.below {w w' : World} {rs : List Rw.Row} {ads : List (Option Addr × Nat)} (h : Rw.MapsI w rs ads) (hb : Below w.heap.size w w') : Rw.MapsI w' rs ads := fun i r a h1 h2 => (h i r a h1 h2).below hb
theorem Rw.MapsI.grown {w w' : World} {rs : List Rw.Row} {ads : List (Option Addr × Nat)} {row : Option Nat} (h : Rw.MapsI w rs ads) (hg : w.grownBy w' row) (hr : ∀ k, row = some k → ∀ cs z, w.heap[k]? ≠ some (.cells cs 3 z)) : Rw.MapsI w' rs ads :=
  fun i r a h1 h2 => (h i r a h1 h2).grown hg hr
theorem Rw.seesI_mk {w : World} {A : Option Addr} {rs : List Rw.Row} {ads : List (Option Addr × Nat)} (hl : ads.length = rs.length) (hs : Slt w 28 A (Rw.flI rs ads)) (hm : Rw.MapsI w rs ads) : Rw.SeesI w A rs :=
  ⟨ads, hl, hs.sl, fun i r a h1 h2 => (hm i r a h1 h2).sl⟩
theorem Rw.At.slt {w : World} {b : Nat} {t : TypeId} {cs : List Value} (h : Rw.At w b t cs) : Slt w t (some ⟨b, 0, none⟩) cs :=
  fun _ => ⟨b, 0, cs.toArray, (0, 0), rfl, h, fun i _ => by simp⟩
theorem infoRowI : (Tryd.prog.info? 28).map (fun i => (i.zero, i.size, i.bytes)) = some (some (.agg #[.int .i64 0, .int .i64 0, .slice none 0 0]), 3, 40) := by kernel_rfl
end Go.Proofs.YtamcpdggpdaioaaDoor
