/- The layer fault: errors.Unwrap, chain, Line, Notes, by walking their texts. -/
import Derived.Test.YtlcjpbcdemkfeaaDoorFaLib
namespace Go.Proofs.YtlcjpbcdemkfeaaDoor
open Go.RowKit Go.Stop
set_option linter.unusedSimpArgs false
set_option linter.unusedVariables false

theorem infoFault : (Tryd.prog.info? 42).map (fun i => (i.zero, i.size, i.bytes)) = some (some (.pointer none), 1, 8) := by kernel_rfl
theorem infoStr : (Tryd.prog.info? 9).map (fun i => (i.zero, i.size, i.bytes)) = some (some (.string ⟨#[]⟩), 1, 16) := by kernel_rfl
theorem F.hasUnwrap (v : Value) (xT : TypeId) (w : World) : (Instr.typeAssert (.iface 42 v) xT 106 true).run Tryd.prog w = .ok (.tuple #[.iface 42 v, .bool true]) w :=
  run_typeAssert_hasB Tryd.underlying106 (by kernel_rfl) v xT w
theorem F.methodUnwrap (a : Addr) (w : World) : (Go.method 259 42 (.pointer (some a)) "Unwrap").run Tryd.prog w = .ok (22, .pointer (some a)) w := by kernel_rfl

theorem F.isFault (a : Addr) (xT : TypeId) (w : World) : (Instr.typeAssert (.iface 42 (.pointer (some a))) xT 42 true).run Tryd.prog w = .ok (.tuple #[.pointer (some a), .bool true]) w := by kernel_rfl

set_option maxRecDepth 100000 in
set_option maxHeartbeats 1000000 in
theorem F.unwrap_any (b : Nat) (c n : Int) (s : ByteArray) (e : Value) (w : World) (hbl : w.heap[b]? = some (.cells #[.int .i64 c, .int .i64 n, .string s, e] 44 (0, 0))) :
    Calls Tryd.prog 49 #[.iface 42 (.pointer (some ⟨b, 0, none⟩))] w fun r w' => r = .returned e ∧ w = w' := by
  have hU := F.hasUnwrap
  have hM := F.methodUnwrap
  obtain ⟨d3, _⟩ := blk_cell hbl 3
  simp only [List.getElem?_toArray, List.getElem?_cons_zero, List.getElem?_cons_succ] at d3
  go_enter Tryd.func49, Tryd.ntmps49
  go_wp2
  go_ret
  exact ⟨rfl, rfl⟩

def F.ptr (x : Nat × Int × Int × ByteArray) : Value := .pointer (some ⟨x.1, 0, none⟩)
def F.RetPtrs (q : List (Nat × Int × Int × ByteArray)) (w : World) (e : Ending) (w' : World) : Prop :=
  ∃ A c, e = .returned (.slice A q.length c) ∧ w'.ownsRow w.heap.size 42 1 (.slice A q.length c) q.length (q.map F.ptr) ∧ Below w.heap.size w w'
def F.lenOf : Value → Nat
  | .slice _ n _ => n
  | _ => 0

set_option maxRecDepth 100000 in
set_option maxHeartbeats 2000000 in
theorem F.chain_any (B : Nat) (q : List (Nat × Int × Int × ByteArray)) (v : Value) (w : World) (hB : B ≤ w.heap.size) (hq : F.Ch w B q v) (hlen : q.length ≤ 1000000) :
    Calls Tryd.prog 34 #[v] w (F.RetPtrs q w) := by
  obtain ⟨j0, hj0, hy0, hy1, hy2⟩ := info_parts infoFault
  obtain ⟨N, hN⟩ : ∃ N, q.length = N := ⟨_, rfl⟩
  rw [hN] at hlen
  have HN := Lib.hid hN
  have HQ := Lib.hid hq
  clear hN hq
  have hI := F.isFault
  go_enter Tryd.func34, Tryd.ntmps34
  go_wp2
  go_loopw [0, 3] (fun ve vo wr => ∃ (p r : List (Nat × Int × Int × ByteArray)) (m : Nat), q = p ++ r ∧ p.length = m ∧ F.Ch w B r ve ∧ wr.ownsRow w.heap.size 42 1 vo m (p.map F.ptr) ∧ Below w.heap.size w wr) (fun _ vo _ => N - F.lenOf vo)
  case atStart => exact ⟨[], q, 0, rfl, rfl, HQ.out, World.ownsRow_nil _ _ _ _, Below.refl _ _⟩
  case round =>
    obtain ⟨p, r, m, hpr, hm, hch, hown, hbr⟩ := hrel
    obtain ⟨w1, rfl⟩ : ∃ w1 : World, w1 = wr := ⟨_, rfl⟩
    obtain ⟨A1, c1, rfl⟩ := own_form hown
    have hs1 := hbr.size
    have hN := HN.out
    rw [hpr, List.length_append, hm] at hN
    have HM := Lib.hid hm
    have HPR := Lib.hid hpr
    clear hm hpr
    rcases r with _ | ⟨⟨b, c, n, s⟩, t⟩
    · obtain rfl := hch
      obtain rfl : p = q := by rw [HPR.out, List.append_nil]
      simp only [List.length_nil, Nat.add_zero] at hN
      go_wp2
      go_ret
      exact ⟨A1, c1, by rw [HM.out]; rfl, by rw [HM.out]; exact hown, hbr⟩
    · obtain ⟨rfl, hb, e, hbl, hch'⟩ := hch
      have hbl1 := (hbr.block b (by omega)).trans hbl
      have HBL := Lib.hid hbl1
      have HCH := Lib.hid hch'
      rw [List.length_cons] at hN
      have hZ := Lib.hid (Sl.lit (w := w1.alloc (.cells #[.pointer (some ⟨b, 0, none⟩)] 42)) (A := some ⟨w1.heap.size, 0, none⟩) (xs := [.pointer (some ⟨b, 0, none⟩)]) rfl 42 (0, 0) (heap_alloc_new w1 _))
      have hba : Below w1.heap.size w1 (w1.alloc (.cells #[.pointer (some ⟨b, 0, none⟩)] 42)) := (Below.refl _ _).alloc (Nat.le_refl _) _
      have hown2 := Lib.hid (own_below hown hba (Nat.le_refl _))
      have hs2 : w.heap.size ≤ (w1.alloc (.cells #[.pointer (some ⟨b, 0, none⟩)] 42)).heap.size := by simp; omega
      have HBA : Hid (Below w.heap.size w (w1.alloc (.cells #[.pointer (some ⟨b, 0, none⟩)] 42))) := Lib.hid (hbr.trans (hba.mono hs1))
      clear hbl hbl1 hch' hown hba hbr
      go_wp2_with (first
        | (at_builtin; refine wpList_appendSl _ rfl _ _ _ rfl w.heap.size 42 j0 _ 1 8 Tryd.underlying65 hj0 hy0 hy1 hy2 rfl (by omega) _ m _ rfl hown2.out _ (some ⟨w1.heap.size, 0, none⟩) 1 1 [.pointer (some ⟨b, 0, none⟩)] rfl rfl hZ.out (by simp [Value.oneCell']) (by simp only [maxLen]; omega) (by omega) hs2 ?_; intro v1 w5 hown3 hb2 _; have hbz := HBA.out.trans hb2; have HO3 := Lib.hid hown3; have hbl5 : w5.heap[b]? = some (.cells #[.int .i64 c, .int .i64 n, .string s, e] 44 (0, 0)) := (hb2.block b (by omega)).trans (((Below.refl w1.heap.size w1).alloc (Nat.le_refl _) _ |>.block b (by omega)).trans HBL.out); have HB5 := Lib.hid hbl5; clear hbl5 hown3)
        | (go_at_call 49; refine (F.unwrap_any b c n s e _ HB5.out).mono ?_; rintro r w' ⟨rfl, rfl⟩))
      refine ⟨⟨p ++ [(b, c, n, s)], t, m + 1, by rw [HPR.out, List.append_assoc]; rfl, by rw [List.length_append, HM.out]; rfl, HCH.out, by rw [List.map_append]; exact HO3.out, hbz⟩, ?_⟩
      have hv := own_form HO3.out
      obtain ⟨A3, c3, rfl⟩ := hv
      simp [F.lenOf]
      omega
end Go.Proofs.YtlcjpbcdemkfeaaDoor
