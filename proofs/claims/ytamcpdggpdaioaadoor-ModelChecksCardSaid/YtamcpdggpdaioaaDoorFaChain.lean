/- The layer fault: errors that are a chain of faults; At, Of, Code, Wrap, Unwrap. -/
import Derived.Test.YtamcpdggpdaioaaDoorFaAs
import Derived.Test.YtamcpdggpdaioaaDoorMdLook
import Derived.Test.YtamcpdggpdaioaaDoorFaCh
import Derived.Test.YtamcpdggpdaioaaDoorSlt
import Derived.Lib.AppendIntMem
import Derived.Lib.LaidTab
namespace Go.Proofs.YtamcpdggpdaioaaDoor
open Go.RowKit Go.Stop
set_option linter.unusedSimpArgs false
set_option linter.unusedVariables false

/-- What start-up code has laid: errors' type 'error'. -/
def F.LaidE (w : World) : Prop := w.cell? ⟨0, 0, none⟩ = some (.iface 112 (.agg #[.pointer (some ⟨1, 37, none⟩)]))
theorem F.LaidE.next {w w' : World} (h : F.LaidE w) (hb : Below w.heap.size w w') : F.LaidE w' := by
  have hlt : 0 < w.heap.size := by
    rcases Nat.lt_or_ge 0 w.heap.size with h' | h'
    · exact h'
    · have := h; simp [F.LaidE, World.cell?, Array.getElem?_eq_none h'] at this
  unfold F.LaidE
  rw [(bcell hb).1 _ _ hlt]; exact h
/-- What start-up code has laid: errors' type 'error', strconv's table. -/
def F.Laid (w : World) : Prop := F.LaidE w ∧ Lib.TabIs Tryd.prog w "internal/strconv.uint64pow10" .u64 Lib.pow10Tab
theorem F.Laid.next {w w' : World} (h : F.Laid w) (hb : Below w.heap.size w w') : F.Laid w' := ⟨h.1.next hb, Lib.tabBelow_of_tabIs h.2 w' hb⟩

/-- errors.As at a fault: it is found; the target's variable holds it. -/
theorem F.as_hitE (e t : Addr) (old : Value) (w : World) (hL : F.LaidE w) (ht0 : w.cell? t = some old) (hf0 : w.frozen? t = false) :
    Calls Tryd.prog 21 #[.iface 63 (.pointer (some e)), .iface 65 (.pointer (some t))] w fun ev w' => ev = .returned (.bool true) ∧ w'.cell? t = some (.pointer (some e)) ∧ Below t.block w w' := by
  have htl : t.block < w.heap.size := by
    rcases Nat.lt_or_ge t.block w.heap.size with h | h
    · exact h
    · simp [World.cell?, Array.getElem?_eq_none h] at ht0
  refine (F.as_hit e t old w hL ht0 hf0).mono ?_
  rintro ev w' ⟨rfl, rfl⟩
  refine ⟨rfl, ?_, ?_⟩
  · refine World.cell?_setCell_same _ _ _ (u := old) ?_
    rw [World.cell?_alloc_lt _ _ t (by simp; omega), World.cell?_alloc_lt _ _ t (by simp; omega), World.cell?_alloc_lt _ _ t (by simp; omega), World.cell?_alloc_lt _ _ t htl]; exact ht0
  · exact ((((((Below.refl _ _).alloc (by omega) _).alloc (by simp; omega) _).alloc (by simp; omega) _).alloc (by simp; omega) _)).setCell (Nat.le_refl _) _

set_option maxRecDepth 100000 in
set_option maxHeartbeats 1000000 in
theorem F.codeE_any (B : Nat) (q : List (Nat × Int × Int × ByteArray)) (v : Value) (w : World) (hL : F.LaidE w) (hB : B ≤ w.heap.size) (hq : F.Ch w B q v) :
    Calls Tryd.prog 8 #[v] w fun e w' => e = .returned (.int .i64 (F.code (F.lk q))) ∧ Below w.heap.size w w' := by
  rcases q with _ | ⟨⟨b, c, n, s⟩, t⟩
  · obtain rfl : v = .nilIface := hq
    go_enter Tryd.func8, Tryd.ntmps8
    go_wp2
    go_ret
    exact ⟨rfl, (Below.refl _ _).alloc (Nat.le_refl _) _⟩
  · obtain ⟨rfl, hb, e, hbl, hch⟩ := hq
    have hal : Below w.heap.size w (w.alloc (.cells #[.pointer none] 63)) := (Below.refl _ _).alloc (Nat.le_refl _) _
    have hn := heap_alloc_new w (.cells #[.pointer none] 63)
    obtain ⟨hc0, hf0⟩ := blk_cell hn 0
    simp only [List.getElem?_toArray, List.getElem?_cons_zero] at hc0
    have hL1 := hL.next hal
    go_enter Tryd.func8, Tryd.ntmps8
    go_wp2_with fail
    refine (F.as_hitE ⟨b, 0, none⟩ ⟨w.heap.size, 0, none⟩ (.pointer none) _ hL1 hc0 hf0).mono ?_
    rintro ev w1 ⟨rfl, h1, h2⟩
    have hb1 := hal.trans h2
    have hbl1 := (hb1.block b (by omega)).trans hbl
    obtain ⟨d0, _⟩ := blk_cell hbl1 0
    simp only [List.getElem?_toArray, List.getElem?_cons_zero] at d0
    go_wp2
    go_ret
    exact ⟨rfl, hb1⟩

theorem F.as_hit' (e t : Addr) (old : Value) (w : World) (hL : F.Laid w) (ht0 : w.cell? t = some old) (hf0 : w.frozen? t = false) :
    Calls Tryd.prog 21 #[.iface 63 (.pointer (some e)), .iface 65 (.pointer (some t))] w fun ev w' => ev = .returned (.bool true) ∧ w'.cell? t = some (.pointer (some e)) ∧ Below t.block w w' := F.as_hitE e t old w hL.1 ht0 hf0
theorem F.code_any (B : Nat) (q : List (Nat × Int × Int × ByteArray)) (v : Value) (w : World) (hL : F.Laid w) (hB : B ≤ w.heap.size) (hq : F.Ch w B q v) :
    Calls Tryd.prog 8 #[v] w fun e w' => e = .returned (.int .i64 (F.code (F.lk q))) ∧ Below w.heap.size w w' := F.codeE_any B q v w hL.1 hB hq
end Go.Proofs.YtamcpdggpdaioaaDoor

/- The layer fault: errors.Unwrap, chain, Line, Notes, by walking their texts. -/
namespace Go.Proofs.YtamcpdggpdaioaaDoor
open Go.RowKit Go.Stop
set_option linter.unusedSimpArgs false
set_option linter.unusedVariables false

theorem infoFault : (Tryd.prog.info? 63).map (fun i => (i.zero, i.size, i.bytes)) = some (some (.pointer none), 1, 8) := by kernel_rfl
theorem infoStr : (Tryd.prog.info? 9).map (fun i => (i.zero, i.size, i.bytes)) = some (some (.string ⟨#[]⟩), 1, 16) := by kernel_rfl
theorem F.hasUnwrap (v : Value) (xT : TypeId) (w : World) : (Instr.typeAssert (.iface 63 v) xT 120 true).run Tryd.prog w = .ok (.tuple #[.iface 63 v, .bool true]) w :=
  run_typeAssert_hasB Tryd.underlying120 (by kernel_rfl) v xT w
theorem F.methodUnwrap (a : Addr) (w : World) : (Go.method 276 63 (.pointer (some a)) "Unwrap").run Tryd.prog w = .ok (98, .pointer (some a)) w := by kernel_rfl

theorem F.isFault (a : Addr) (xT : TypeId) (w : World) : (Instr.typeAssert (.iface 63 (.pointer (some a))) xT 63 true).run Tryd.prog w = .ok (.tuple #[.pointer (some a), .bool true]) w := by kernel_rfl

set_option maxRecDepth 100000 in
set_option maxHeartbeats 1000000 in
theorem F.unwrap_any (b : Nat) (c n : Int) (s : ByteArray) (e : Value) (w : World) (hbl : w.heap[b]? = some (.cells #[.int .i64 c, .int .i64 n, .string s, e] 67 (0, 0))) :
    Calls Tryd.prog 48 #[.iface 63 (.pointer (some ⟨b, 0, none⟩))] w fun r w' => r = .returned e ∧ w = w' := by
  have hU := F.hasUnwrap
  have hM := F.methodUnwrap
  obtain ⟨d3, _⟩ := blk_cell hbl 3
  simp only [List.getElem?_toArray, List.getElem?_cons_zero, List.getElem?_cons_succ] at d3
  go_enter Tryd.func48, Tryd.ntmps48
  go_wp2
  go_ret
  exact ⟨rfl, rfl⟩

def F.ptr (x : Nat × Int × Int × ByteArray) : Value := .pointer (some ⟨x.1, 0, none⟩)
def F.RetPtrs (q : List (Nat × Int × Int × ByteArray)) (w : World) (e : Ending) (w' : World) : Prop :=
  ∃ A c, e = .returned (.slice A q.length c) ∧ w'.ownsRow w.heap.size 63 1 (.slice A q.length c) q.length (q.map F.ptr) ∧ Below w.heap.size w w'
def F.lenOf : Value → Nat
  | .slice _ n _ => n
  | _ => 0

set_option maxRecDepth 100000 in
set_option maxHeartbeats 2000000 in
theorem F.chain_any (B : Nat) (q : List (Nat × Int × Int × ByteArray)) (v : Value) (w : World) (hB : B ≤ w.heap.size) (hq : F.Ch w B q v) (hlen : q.length ≤ 1000000) :
    Calls Tryd.prog 27 #[v] w (F.RetPtrs q w) := by
  obtain ⟨j0, hj0, hy0, hy1, hy2⟩ := info_parts infoFault
  obtain ⟨N, hN⟩ : ∃ N, q.length = N := ⟨_, rfl⟩
  rw [hN] at hlen
  have HN := Lib.hid hN
  have HQ := Lib.hid hq
  clear hN hq
  have hI := F.isFault
  go_enter Tryd.func27, Tryd.ntmps27
  go_wp2
  go_loopw [0, 3] (fun ve vo wr => ∃ (p r : List (Nat × Int × Int × ByteArray)) (m : Nat), q = p ++ r ∧ p.length = m ∧ F.Ch w B r ve ∧ wr.ownsRow w.heap.size 63 1 vo m (p.map F.ptr) ∧ Below w.heap.size w wr) (fun _ vo _ => N - F.lenOf vo)
  case atStart => exact ⟨[], q, 0, rfl, rfl, HQ.out, World.ownsRow_nil _ _ _ _, Below.refl _ _⟩
  case round =>
    obtain ⟨p, r, m, hpr, hm, hch, hown, hbr⟩ := hrel
    obtain ⟨w1, rfl⟩ : ∃ w1 : World, w1 = wr := ⟨_, rfl⟩
    obtain ⟨A1, c1, rfl⟩ := own_form hown
    have hs1 := hbr.size
    have hN := HN.out
    rw [hpr, List.length_append, hm] at hN
    have HM := Lib.hid hm
    have HPR := Lib.hid hpr
    clear hm hpr
    rcases r with _ | ⟨⟨b, c, n, s⟩, t⟩
    · obtain rfl := hch
      obtain rfl : p = q := by rw [HPR.out, List.append_nil]
      simp only [List.length_nil, Nat.add_zero] at hN
      go_wp2
      go_ret
      exact ⟨A1, c1, by rw [HM.out]; rfl, by rw [HM.out]; exact hown, hbr⟩
    · obtain ⟨rfl, hb, e, hbl, hch'⟩ := hch
      have hbl1 := (hbr.block b (by omega)).trans hbl
      have HBL := Lib.hid hbl1
      have HCH := Lib.hid hch'
      rw [List.length_cons] at hN
      have hZ := Lib.hid (Sl.lit (w := w1.alloc (.cells #[.pointer (some ⟨b, 0, none⟩)] 63)) (A := some ⟨w1.heap.size, 0, none⟩) (xs := [.pointer (some ⟨b, 0, none⟩)]) rfl 63 (0, 0) (heap_alloc_new w1 _))
      have hba : Below w1.heap.size w1 (w1.alloc (.cells #[.pointer (some ⟨b, 0, none⟩)] 63)) := (Below.refl _ _).alloc (Nat.le_refl _) _
      have hown2 := Lib.hid (own_below hown hba (Nat.le_refl _))
      have hs2 : w.heap.size ≤ (w1.alloc (.cells #[.pointer (some ⟨b, 0, none⟩)] 63)).heap.size := by simp; omega
      have HBA : Hid (Below w.heap.size w (w1.alloc (.cells #[.pointer (some ⟨b, 0, none⟩)] 63))) := Lib.hid (hbr.trans (hba.mono hs1))
      clear hbl hbl1 hch' hown hba hbr
      go_wp2_with (first
        | (at_builtin; refine wpList_appendSl _ rfl _ _ _ rfl w.heap.size 63 j0 _ 1 8 Tryd.underlying74 hj0 hy0 hy1 hy2 rfl (by omega) _ m _ rfl hown2.out _ (some ⟨w1.heap.size, 0, none⟩) 1 1 [.pointer (some ⟨b, 0, none⟩)] rfl rfl hZ.out (by simp [Value.oneCell']) (by simp only [maxLen]; omega) (by omega) hs2 ?_; intro v1 w5 hown3 hb2 _; have hbz := HBA.out.trans hb2; have HO3 := Lib.hid hown3; have hbl5 : w5.heap[b]? = some (.cells #[.int .i64 c, .int .i64 n, .string s, e] 67 (0, 0)) := (hb2.block b (by omega)).trans (((Below.refl w1.heap.size w1).alloc (Nat.le_refl _) _ |>.block b (by omega)).trans HBL.out); have HB5 := Lib.hid hbl5; clear hbl5 hown3)
        | (go_at_call 48; refine (F.unwrap_any b c n s e _ HB5.out).mono ?_; rintro r w' ⟨rfl, rfl⟩))
      refine ⟨⟨p ++ [(b, c, n, s)], t, m + 1, by rw [HPR.out, List.append_assoc]; rfl, by rw [List.length_append, HM.out]; rfl, HCH.out, by rw [List.map_append]; exact HO3.out, hbz⟩, ?_⟩
      have hv := own_form HO3.out
      obtain ⟨A3, c3, rfl⟩ := hv
      simp [F.lenOf]
      omega
end Go.Proofs.YtamcpdggpdaioaaDoor
