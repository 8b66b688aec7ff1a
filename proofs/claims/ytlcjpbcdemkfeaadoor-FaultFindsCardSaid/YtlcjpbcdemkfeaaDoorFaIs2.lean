/- The layer fault: errors.Is at a fault, by walking its text. -/
import Derived.Test.YtlcjpbcdemkfeaaDoorFaIs
namespace Go.Proofs.YtlcjpbcdemkfeaaDoor
open Go.RowKit Go.Stop Go.Extern.Stop Go.Extern
set_option linter.unusedSimpArgs false
set_option linter.unusedVariables false

theorem F.callComparable (w : World) : (callFunc 92 #[.agg #[.pointer (some ⟨5, 42, none⟩)]]).run Tryd.prog w = .ok (.value (.bool true)) w := by kernel_rfl
theorem F.nilIs (v : Value) (w : World) : (binOp .eql 27 .nilIface (.iface 42 v)).run Tryd.prog w = .ok (.bool false) w := run_eql_iface_nil_left (P := Tryd.prog) w 42 v Tryd.underlying27

set_option maxRecDepth 100000 in
set_option maxHeartbeats 8000000 in
/-- errors.is at a chain, the target a fault that lies behind it: 'g' tells what the target's own Is answers at a number. -/
theorem F.is_any (g : Int → Bool) (B bt : Nat) (ct nt : Int) (st : ByteArray) (vt : Value) (q : List (Nat × Int × Int × ByteArray)) (v : Value) (w : World) (hB : B ≤ bt) (hq : F.Ch w B q v) (hne : q ≠ [])
    (ht : w.heap[bt]? = some (.cells #[.int .i64 ct, .int .i64 nt, .string st, vt] 44 (0, 0)))
    (hg : ∀ (b : Nat) (c n : Int) (s : ByteArray) (v' : Value) (w' : World), w'.heap[b]? = some (.cells #[.int .i64 c, .int .i64 n, .string s, v'] 44 (0, 0)) → w'.heap[bt]? = some (.cells #[.int .i64 ct, .int .i64 nt, .string st, vt] 44 (0, 0)) →
      Calls Tryd.prog 30 #[.pointer (some ⟨b, 0, none⟩), .iface 42 (.pointer (some ⟨bt, 0, none⟩))] w' fun e w'' => e = .returned (.bool (g c)) ∧ Below w'.heap.size w' w'') :
    Calls Tryd.prog 42 #[v, .iface 42 (.pointer (some ⟨bt, 0, none⟩)), .bool true] w fun e w' => e = .returned (.bool (q.any fun x => g x.2.1)) ∧ Below w.heap.size w w' := by
  obtain ⟨i0, hi0, hcmp⟩ := Option.map_eq_some_iff.1 F.isComp
  obtain ⟨k0, hk0, hks⟩ := Option.map_eq_some_iff.1 F.isSize
  have HG := Lib.hid hg
  have HQ := Lib.hid hq
  have HT := Lib.hid ht
  have hbt : bt < w.heap.size := (Array.getElem?_eq_some_iff.1 ht).1
  have hIs := F.hasIs
  have hMI := F.methodIs
  have hU := F.hasUnwrap
  have hMU := F.methodUnwrap
  obtain ⟨R, hR⟩ : ∃ R, (q.any fun x => g x.2.1) = R := ⟨_, rfl⟩
  rw [hR]
  have HR := Lib.hid hR
  have HNE := Lib.hid hne
  have HC := Lib.hid hcmp
  have HK := Lib.hid hks
  have HI0 := Lib.hid hi0
  have HK0 := Lib.hid hk0
  clear hg hq ht hR hne hcmp hks hi0 hk0
  go_enter Tryd.func42, Tryd.ntmps42
  go_wp2
  go_loopg [0] q.length (fun k ve wr => ∃ (r : List (Nat × Int × Int × ByteArray)), r ≠ [] ∧ r.length ≤ k ∧ F.Ch w B r ve ∧ (r.any fun x => g x.2.1) = R ∧ Below w.heap.size w wr)
  case atStart => exact ⟨q, HNE.out, Nat.le_refl _, HQ.out, HR.out, Below.refl _ _⟩
  case round =>
    obtain ⟨r, hr0, hrl, hch, hrR, hbr⟩ := hrel
    obtain ⟨w1, rfl⟩ : ∃ w1 : World, w1 = wr := ⟨_, rfl⟩
    rcases r with _ | ⟨⟨b, c, n, s⟩, t⟩
    · exact absurd rfl hr0
    · obtain ⟨rfl, hb, e, hbl, hch'⟩ := hch
      have hbl1 := (hbr.block b (by omega)).trans hbl
      have ht1 := (hbr.block bt hbt).trans HT.out
      have hs1 := hbr.size
      have hneA : (⟨b, 0, none⟩ : Addr) ≠ ⟨bt, 0, none⟩ := by intro h; have h' : b = bt := congrArg Addr.block h; omega
      have heq := run_eql_iface_ptr_other (P := Tryd.prog) w1 Tryd.underlying27 Tryd.underlying42 HI0.out HC.out HK0.out (by rw [HK.out]; decide) hneA hbl1 ht1
      have hgc := HG.out b c n s e w1 hbl1 ht1
      have HBL := Lib.hid hbl1
      have HBR := Lib.hid hbr
      have HCH := Lib.hid hch'
      have hany : (((b, c, n, s) :: t).any fun x => g x.2.1) = (g c || t.any fun x => g x.2.1) := rfl
      rw [hany] at hrR
      have HRR := Lib.hid hrR
      simp only [List.length_cons] at hrl
      clear hr0 hbl ht1 hbl1 hbr hch' hany hrR
      rcases hgv : g c with _ | _
      · rw [hgv] at hgc
        have hrr := HRR.out
        rw [hgv, Bool.false_or] at hrr
        have HRT := Lib.hid hrr
        have HGC := Lib.hid hgc
        clear hgc hrr hgv HRR
        rcases t with _ | ⟨⟨b', c', n', s'⟩, t'⟩
        · obtain rfl : e = .nilIface := HCH.out
          have hR0 : R = false := HRT.out.symm
          subst hR0
          go_wp2_with (first
            | (go_at_call 30; refine HGC.out.mono ?_; rintro e2 w2 ⟨rfl, hb2⟩; have HB2 := Lib.hid hb2; have hbl2 := (hb2.block b (by omega)).trans HBL.out; have HBL2 := Lib.hid hbl2; clear hb2 hbl2)
            | (go_at_call 22; refine (F.unwrapM_any b c n s _ _ HBL2.out).mono ?_; rintro e2 w' ⟨rfl, rfl⟩))
          go_ret
          exact ⟨rfl, HBR.out.trans (HB2.out.mono hs1)⟩
        · have HCH2 := Lib.hid HCH.out
          obtain ⟨rfl, hb', e', hbl', hch2⟩ := HCH.out
          clear hbl' hch2
          go_wp2_with (first
            | (go_at_call 30; refine HGC.out.mono ?_; rintro e2 w2 ⟨rfl, hb2⟩; have HB2 := Lib.hid hb2; have hbl2 := (hb2.block b (by omega)).trans HBL.out; have HBL2 := Lib.hid hbl2; clear hb2 hbl2)
            | (go_at_call 22; refine (F.unwrapM_any b c n s _ _ HBL2.out).mono ?_; rintro e2 w' ⟨rfl, rfl⟩))
          go_roundg (t'.length + 1)
          case measure =>
            simp only [List.length_cons] at hrl
            omega
          case rel => exact ⟨(b', c', n', s') :: t', by simp, by simp, HCH2.out, HRT.out, HBR.out.trans (HB2.out.mono hs1)⟩
      · rw [hgv] at hgc
        have hR1 : R = true := by have := HRR.out; rw [hgv] at this; exact this.symm
        subst hR1
        have HGC := Lib.hid hgc
        clear hgc hgv HRR
        go_wp2_with (go_at_call 30; refine HGC.out.mono ?_; rintro e2 w2 ⟨rfl, hb2⟩; have HB2 := Lib.hid hb2; clear hb2)
        go_ret
        exact ⟨rfl, HBR.out.trans (HB2.out.mono hs1)⟩

set_option maxRecDepth 100000 in
set_option maxHeartbeats 2000000 in
theorem F.Is_any (g : Int → Bool) (B bt : Nat) (ct nt : Int) (st : ByteArray) (vt : Value) (q : List (Nat × Int × Int × ByteArray)) (v : Value) (w : World) (hB : B ≤ bt) (hq : F.Ch w B q v)
    (ht : w.heap[bt]? = some (.cells #[.int .i64 ct, .int .i64 nt, .string st, vt] 44 (0, 0)))
    (hg : ∀ (b : Nat) (c n : Int) (s : ByteArray) (v' : Value) (w' : World), w'.heap[b]? = some (.cells #[.int .i64 c, .int .i64 n, .string s, v'] 44 (0, 0)) → w'.heap[bt]? = some (.cells #[.int .i64 ct, .int .i64 nt, .string st, vt] 44 (0, 0)) →
      Calls Tryd.prog 30 #[.pointer (some ⟨b, 0, none⟩), .iface 42 (.pointer (some ⟨bt, 0, none⟩))] w' fun e w'' => e = .returned (.bool (g c)) ∧ Below w'.heap.size w' w'') :
    Calls Tryd.prog 28 #[v, .iface 42 (.pointer (some ⟨bt, 0, none⟩))] w fun e w' => e = .returned (.bool (q.any fun x => g x.2.1)) ∧ Below w.heap.size w w' := by
  rcases hq0 : q with _ | ⟨⟨b, c, n, s⟩, t⟩
  · subst hq0
    obtain rfl : v = .nilIface := hq
    have hn := F.nilIs (.pointer (some ⟨bt, 0, none⟩))
    go_enter Tryd.func28, Tryd.ntmps28
    go_wp2
    go_ret
    exact ⟨rfl, Below.refl _ _⟩
  · rw [← hq0]
    have HI := Lib.hid (F.is_any g B bt ct nt st vt q v w hB hq (by rw [hq0]; simp) ht hg)
    rw [hq0] at hq
    obtain ⟨rfl, _⟩ := hq
    have h8 := @run_callFunc_extern Tryd.prog 41 _ Extern.ReflectliteType.typeOf Tryd.func41 (by kernel_rfl) (by kernel_rfl) (by kernel_rfl) (by kernel_rfl)
    have tT := F.typeOf25
    have cT := F.callComparable
    have mR := F.methodComparable
    clear ht hg hq0
    go_enter Tryd.func28, Tryd.ntmps28
    go_wp2_with (go_at_call 42; refine HI.out.mono ?_; rintro e w1 ⟨rfl, hb⟩)
    go_ret
    exact ⟨rfl, hb⟩
end Go.Proofs.YtlcjpbcdemkfeaaDoor
