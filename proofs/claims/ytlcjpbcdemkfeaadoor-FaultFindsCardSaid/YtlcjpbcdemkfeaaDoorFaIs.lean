/- The layer fault: (*Fault).Is; errors.Is at a fault, by walking their texts. -/
import Derived.Test.YtlcjpbcdemkfeaaDoorFaTells
import Derived.Deep.LoopGhost
import Derived.BigQuiet
import Derived.Deep.QuietTactic
import Derived.LaidEql
import Derived.Deep.RegionHeld3
import Derived.Deep.RegionWith
namespace Go.Proofs.YtlcjpbcdemkfeaaDoor
open Go.RowKit Go.Stop Go.Extern.Stop Go.Extern
set_option linter.unusedSimpArgs false
set_option linter.unusedVariables false

theorem F.methodComparable (v : Value) (w : World) : (Go.method 259 99 v "Comparable").run Tryd.prog w = .ok (92, v) w := by kernel_rfl
theorem F.isComp : (Tryd.prog.info? 42).map (·.comparable) = some true := by kernel_rfl
theorem F.isSize : (Tryd.prog.info? 44).map (·.size) = some 4 := by kernel_rfl
theorem F.hasIs (v : Value) (xT : TypeId) (w : World) : (Instr.typeAssert (.iface 42 v) xT 110 true).run Tryd.prog w = .ok (.tuple #[.iface 42 v, .bool true]) w :=
  run_typeAssert_hasB Tryd.underlying110 (by kernel_rfl) v xT w
theorem F.methodIs (a : Addr) (w : World) : (Go.method 259 42 (.pointer (some a)) "Is").run Tryd.prog w = .ok (30, .pointer (some a)) w := by kernel_rfl

theorem F.quiet (w : World) (k : Nat) : Below w.heap.size w (w.drewN k) := ⟨rfl, rfl, rfl, Nat.le_refl _, fun _ _ => rfl⟩
theorem F.bare_yes (b : Nat) (c : Int) (w : World) (hb : w.heap[b]? = some (.cells #[.int .i64 c, .int .i64 0, .string ⟨#[]⟩, .nilIface] 44 (0, 0))) :
    Calls Tryd.prog 43 #[.pointer (some ⟨b, 0, none⟩)] w fun e w' => e = .returned (.bool true) ∧ w = w' := by
  obtain ⟨d1, _⟩ := blk_cell hb 1
  obtain ⟨d2, _⟩ := blk_cell hb 2
  obtain ⟨d3, _⟩ := blk_cell hb 3
  simp only [List.getElem?_toArray, List.getElem?_cons_zero, List.getElem?_cons_succ] at d1 d2 d3
  go_enter Tryd.func43, Tryd.ntmps43
  go_wp2
  go_ret
  exact ⟨rfl, rfl⟩
theorem F.bare_no (b : Nat) (c n : Int) (s : ByteArray) (v : Value) (w : World) (hn : n ≠ 0) (hb : w.heap[b]? = some (.cells #[.int .i64 c, .int .i64 n, .string s, v] 44 (0, 0))) :
    Calls Tryd.prog 43 #[.pointer (some ⟨b, 0, none⟩)] w fun e w' => e = .returned (.bool false) ∧ w = w' := by
  obtain ⟨d1, _⟩ := blk_cell hb 1
  simp only [List.getElem?_toArray, List.getElem?_cons_zero, List.getElem?_cons_succ] at d1
  have hn0 : (n == 0) = false := by simpa using hn
  go_enter Tryd.func43, Tryd.ntmps43
  go_wp2
  go_ret
  exact ⟨rfl, rfl⟩

set_option maxRecDepth 100000 in
set_option maxHeartbeats 2000000 in
theorem F.fis_bare (b bt : Nat) (c ct n : Int) (s : ByteArray) (v : Value) (w : World) (hb : w.heap[b]? = some (.cells #[.int .i64 c, .int .i64 n, .string s, v] 44 (0, 0))) (ht : w.heap[bt]? = some (.cells #[.int .i64 ct, .int .i64 0, .string ⟨#[]⟩, .nilIface] 44 (0, 0))) :
    Calls Tryd.prog 30 #[.pointer (some ⟨b, 0, none⟩), .iface 42 (.pointer (some ⟨bt, 0, none⟩))] w fun e w' => e = .returned (.bool (c == ct)) ∧ Below w.heap.size w w' := by
  obtain ⟨d0, _⟩ := blk_cell hb 0
  obtain ⟨e0, _⟩ := blk_cell ht 0
  simp only [List.getElem?_toArray, List.getElem?_cons_zero, List.getElem?_cons_succ] at d0 e0
  have hI := F.isFault
  have HT := Lib.hid ht
  clear hb ht
  go_enter Tryd.func30, Tryd.ntmps30
  have hxx : Below w.heap.size w w := Below.refl _ _
  obtain ⟨r, hr⟩ : ∃ r, (c == ct) = r := ⟨_, rfl⟩
  have hr2 : (ct == c) = r := by rw [← hr]; exact Bool.eq_iff_iff.2 (by simp; omega)
  rw [hr]
  have HR2 := Lib.hid hr2
  clear hr hr2
  go_wp2_with fail
  go_region_held3 (fun w' => w'.cell? ⟨b, 0, none⟩ = some (.int .i64 c) ∧ w'.cell? ⟨bt, 0, none⟩ = some (.int .i64 ct) ∧ w'.heap[bt]? = some (.cells #[.int .i64 ct, .int .i64 0, .string ⟨#[]⟩, .nilIface] 44 (0, 0)) ∧ Below w.heap.size w w')
    (first
      | exact ⟨d0, e0, HT.out, hxx⟩
      | exact ⟨d0, e0, HT.out, hxx.drew⟩
      | fail)
    (first
      | (go_at_call 43; refine (F.bare_yes bt ct _ (And.left (And.right (And.right (by assumption))))).mono ?_; rintro e w' ⟨rfl, rfl⟩)
      | fail)
  all_goals
    go_wp2_with fail
    go_ret
    exact ⟨by rw [← HR2.out]; rfl, hxx.drew⟩

set_option maxRecDepth 100000 in
set_option maxHeartbeats 2000000 in
theorem F.fis_not (b bt : Nat) (c ct n nt : Int) (s st : ByteArray) (v vt : Value) (w : World) (hn : nt ≠ 0) (hb : w.heap[b]? = some (.cells #[.int .i64 c, .int .i64 n, .string s, v] 44 (0, 0))) (ht : w.heap[bt]? = some (.cells #[.int .i64 ct, .int .i64 nt, .string st, vt] 44 (0, 0))) :
    Calls Tryd.prog 30 #[.pointer (some ⟨b, 0, none⟩), .iface 42 (.pointer (some ⟨bt, 0, none⟩))] w fun e w' => e = .returned (.bool false) ∧ Below w.heap.size w w' := by
  have hI := F.isFault
  have HT := Lib.hid ht
  have HNT := Lib.hid hn
  clear hb ht hn
  go_enter Tryd.func30, Tryd.ntmps30
  have hxx : Below w.heap.size w w := Below.refl _ _
  go_wp2_with fail
  go_quiet ((go_at_call 43; refine Calls.quiet_of_same ((F.bare_no bt ct nt st vt _ HNT.out ?_).mono fun _ _ h => ⟨h.1, h.2.symm⟩); exact HT.out))
  all_goals
    go_wp2_with fail
    go_ret
    exact ⟨rfl, F.quiet _ _⟩

theorem F.notFault (v : Value) (xT : TypeId) (w : World) : (Instr.typeAssert (.iface 84 v) xT 42 true).run Tryd.prog w = .ok (.tuple #[.pointer none, .bool false]) w := by kernel_rfl
set_option maxRecDepth 100000 in
set_option maxHeartbeats 2000000 in
theorem F.fis_new (b : Nat) (v : Value) (w : World) :
    Calls Tryd.prog 30 #[.pointer (some ⟨b, 0, none⟩), .iface 84 v] w fun e w' => e = .returned (.bool false) ∧ Below w.heap.size w w' := by
  have hI := F.notFault
  go_enter Tryd.func30, Tryd.ntmps30
  have hxx : Below w.heap.size w w := Below.refl _ _
  go_wp2_with fail
  go_quiet (fail)
  all_goals
    go_wp2_with fail
    go_ret
    exact ⟨rfl, F.quiet _ _⟩
end Go.Proofs.YtlcjpbcdemkfeaaDoor
