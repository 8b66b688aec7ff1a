/- The law CpsetAlgebra, by walking its text. -/
import Derived.Test.YtfobmgfmepoamaaCpAlgFn2
import Derived.Test.YtfobmgfmepoamaaCpAlgPlain
import Derived.Test.YtfobmgfmepoamaaSlR
import Derived.Test.YtfobmgfmepoamaaPairs
import Derived.Deep.RegionHeld3
import Derived.Deep.RegionWith
import Derived.Deep.DeepCutAuto
import Derived.Laws.EntriesVeiled
namespace Go.Proofs.Ytfobmgfmepoamaa
open Go.RowKit
set_option linter.unusedSimpArgs false
set_option linter.unusedVariables false

theorem C.set_other {w : World} {g : Nat} {ob : Option Obj} {p : Addr} (h : w.heap[g]? = ob) (hp : p.block ≠ g) (v : Value) : (w.setCell p v).heap[g]? = ob := by
  rw [← h]; exact Below.heap_setCell w p v g (fun e => hp e.symm)
/-- The arguments stand at their two blocks. -/
def C.AlgArgs (w wx : World) (R1 R2 : List (Int × Int)) : Prop :=
  ∃ (Aa Ab : Option Addr) (ca cb : Nat), wx.heap[w.heap.size]? = some (.cells #[.slice Aa R1.length ca] 22 (0, 0)) ∧ wx.heap[w.heap.size + 1]? = some (.cells #[.slice Ab R2.length cb] 22 (0, 0)) ∧
    w.heap.size + 1 < wx.heap.size ∧ SlR wx (w.heap.size + 2) wx.heap.size Aa (C.fl .i64 R1) ∧ SlR wx (w.heap.size + 2) wx.heap.size Ab (C.fl .i64 R2) ∧ Below w.heap.size w wx

theorem C.four (w : World) (o1 o2 o3 o4 : Obj) : ((((w.alloc o1).alloc o2).alloc o3).alloc o4).heap[w.heap.size]? = some o1 ∧ ((((w.alloc o1).alloc o2).alloc o3).alloc o4).heap[w.heap.size + 1]? = some o2 ∧ ((((w.alloc o1).alloc o2).alloc o3).alloc o4).heap[w.heap.size + 2]? = some o3 ∧ ((((w.alloc o1).alloc o2).alloc o3).alloc o4).heap[w.heap.size + 3]? = some o4 ∧
    ((((w.alloc o1).alloc o2).alloc o3).alloc o4).heap.size = w.heap.size + 4 ∧ Below w.heap.size w ((((w.alloc o1).alloc o2).alloc o3).alloc o4) := by
  have e1 : (w.alloc o1).heap.size = w.heap.size + 1 := by simp
  have e2 : ((w.alloc o1).alloc o2).heap.size = w.heap.size + 2 := by simp
  have e3 : (((w.alloc o1).alloc o2).alloc o3).heap.size = w.heap.size + 3 := by simp
  have a1 := heap_alloc_new w o1
  have a2 := heap_alloc_new (w.alloc o1) o2
  have a3 := heap_alloc_new ((w.alloc o1).alloc o2) o3
  have a4 := heap_alloc_new (((w.alloc o1).alloc o2).alloc o3) o4
  rw [e1] at a2
  rw [e2] at a3
  rw [e3] at a4
  refine ⟨?_, ?_, ?_, a4, by simp, (((((Below.refl _ _).alloc (Nat.le_refl _) _).alloc (by simp) _).alloc (by simp <;> omega) _).alloc (by simp <;> omega) _)⟩
  · rw [Below.heap_alloc _ _ _ (by omega), Below.heap_alloc _ _ _ (by omega), Below.heap_alloc _ _ _ (by omega)]; exact a1
  · rw [Below.heap_alloc _ _ _ (by omega), Below.heap_alloc _ _ _ (by omega)]; exact a2
  · rw [Below.heap_alloc _ _ _ (by omega)]; exact a3
theorem Sl.blk {w : World} {b : Nat} {xs : List Value} {t : TypeId} {z : Nat × Nat} (hb : w.heap[b]? = some (.cells xs.toArray t z)) : Sl w w.heap.size (some ⟨b, 0, none⟩) xs := Sl.lit rfl t z hb
theorem C.blind_eqv {M : List Int} {r r' : Int → Bool} (e : ∀ d, r d = r' d) (h : C.blind M r') : C.blind M r := by
  have : r = r' := funext e
  rw [this]; exact h
theorem C.op_isC0 {p q : Int → Bool} (hp : ∀ c, p c = true → C.isC c = true) (hq : ∀ c, q c = true → C.isC c = true) (c : Int) (h : (p c || q c) = true) : C.isC c = true := by
  rcases Bool.or_eq_true_iff.1 h with h | h
  · exact hp c h
  · exact hq c h
theorem C.op_isC1 {p q : Int → Bool} (hp : ∀ c, p c = true → C.isC c = true) (hq : ∀ c, q c = true → C.isC c = true) (c : Int) (h : (p c && q c) = true) : C.isC c = true := hp c (by simp at h; exact h.1)
theorem C.op_isC2 {p q : Int → Bool} (hp : ∀ c, p c = true → C.isC c = true) (hq : ∀ c, q c = true → C.isC c = true) (c : Int) (h : (p c && !q c) = true) : C.isC c = true := hp c (by simp at h; exact h.1)
theorem C.op_isC3 {p q : Int → Bool} (hp : ∀ c, p c = true → C.isC c = true) (hq : ∀ c, q c = true → C.isC c = true) (c : Int) (h : (p c != q c) = true) : C.isC c = true := by
  cases h1 : p c
  · cases h2 : q c
    · rw [h1, h2] at h; cases h
    · exact hq c h2
  · exact hp c h1
/-- The two sets stand at their two blocks. -/
def C.AlgSets (wx : World) (s5 s6 : Value) (wy : World) (S1 S2 : List Int) : Prop :=
  ∃ (g5 g6 : Nat) (Ac Ad : Option Addr) (cc cd : Nat), s5 = .pointer (some ⟨g5, 0, none⟩) ∧ s6 = .pointer (some ⟨g6, 0, none⟩) ∧ wy.cell? ⟨g5, 0, none⟩ = some (.slice Ac S1.length cc) ∧ wy.cell? ⟨g6, 0, none⟩ = some (.slice Ad S2.length cd) ∧
    g5 < wy.heap.size ∧ g6 < wy.heap.size ∧ Sl wy wy.heap.size Ac (S1.map (Value.int .i32)) ∧ Sl wy wy.heap.size Ad (S2.map (Value.int .i32)) ∧ Below wx.heap.size wx wy
theorem C.own_empty (w : World) (e : TypeId) (size : Nat) : (w.alloc (.cells #[] e)).ownsRow w.heap.size e size (.slice (some ⟨w.heap.size, 0, none⟩) 0 0) 0 [] :=
  ⟨by simp, .inr ⟨w.heap.size, 0, #[], rfl, Nat.le_refl _, heap_alloc_new w _, Nat.le_refl _, by simp, by simp, by simp⟩⟩
theorem C.below_le {a w : World} (h : Below a.heap.size a w) : a.heap.size ≤ w.heap.size := h.size
theorem C.bset {a w : World} {p : Addr} (h : Below a.heap.size a w) (hp : a.heap.size ≤ p.block) (v : Value) : Below a.heap.size a (w.setCell p v) := h.setCell hp v
theorem C.bal {a w : World} (h : Below a.heap.size a w) (o : Obj) : Below a.heap.size a (w.alloc o) := h.alloc h.size o
theorem C.bdrew {a w : World} (h : Below a.heap.size a w) : Below a.heap.size a w.drew := h.drew

set_option maxRecDepth 100000 in
set_option maxHeartbeats 40000000 in
theorem C.alg_law (A A' : Option Addr) (len cap len' cap' B : Nat) (rs rs' : List (Int × Int)) (w : World) (hl : rs.length = len) (hc : len ≤ cap) (hcap : cap ≤ maxLen) (hl' : rs'.length = len') (hc' : len' ≤ cap') (hcap' : cap' ≤ maxLen) (hB : B ≤ w.heap.size) (hA : Sl w B A (C.fl .i64 rs)) (hA' : Sl w B A' (C.fl .i64 rs')) :
    Calls Try.prog 5 #[.slice A len cap, .slice A' len' cap'] w fun e w' => e = .returned (.bool true) ∧ Below w.heap.size w w' := by
  have HL := Lib.hid hl
  have HL' := Lib.hid hl'
  have hbx : Below w.heap.size w ((w.alloc (.cells #[.slice A len cap] 22)).alloc (.cells #[.slice A' len' cap'] 22)) := ((Below.refl _ _).alloc (Nat.le_refl _) _).alloc (by simp) _
  have hblk2 : ((w.alloc (.cells #[.slice A len cap] 22)).alloc (.cells #[.slice A' len' cap'] 22)).heap[w.heap.size]? = some (.cells #[.slice A len cap] 22 (0, 0)) := by
    have h := Below.refl (w.heap.size + 1) (w.alloc (.cells #[.slice A len cap] 22))
    exact (ret_blk (h.alloc (by simp) _)).1
  have hblk3 : ((w.alloc (.cells #[.slice A len cap] 22)).alloc (.cells #[.slice A' len' cap'] 22)).heap[w.heap.size + 1]? = some (.cells #[.slice A' len' cap'] 22 (0, 0)) := by
    have h := heap_alloc_new (w.alloc (.cells #[.slice A len cap] 22)) (.cells #[.slice A' len' cap'] 22)
    rwa [show (w.alloc (.cells #[.slice A len cap] 22)).heap.size = w.heap.size + 1 by simp] at h
  obtain ⟨W0, hW0⟩ : ∃ W0, (w.alloc (.cells #[.slice A len cap] 22)).alloc (.cells #[.slice A' len' cap'] 22) = W0 := ⟨_, rfl⟩
  have hs0 : W0.heap.size = w.heap.size + 2 := by rw [← hW0]; simp
  rw [hW0] at hbx hblk2 hblk3
  have HW0 := Lib.hid hW0
  have hsz0 : w.heap.size + 1 < W0.heap.size := by omega
  have hA0 := Lib.hid (hA.belowN hbx hB (Nat.le_refl _))
  have hA0' := Lib.hid (hA'.belowN hbx hB (Nat.le_refl _))
  have HB2 := Lib.hid hblk2
  have HB3 := Lib.hid hblk3
  have HG1 := Lib.hid (C.right_good rs)
  have HG2 := Lib.hid (C.right_good rs')
  have hr1 : (C.right rs).length ≤ 12 := by unfold C.right; rw [List.length_map, List.length_take]; omega
  have hr2 : (C.right rs').length ≤ 12 := by unfold C.right; rw [List.length_map, List.length_take]; omega
  obtain ⟨R1, hR1⟩ : ∃ R1, C.right rs = R1 := ⟨_, rfl⟩
  obtain ⟨R2, hR2⟩ : ∃ R2, C.right rs' = R2 := ⟨_, rfl⟩
  rw [hR1] at HG1 hr1
  rw [hR2] at HG2 hr2
  have HR1 := Lib.hid hR1
  have HR2 := Lib.hid hR2
  clear hl hl' hW0 hblk2 hblk3 hA hA' hs0 hR1 hR2
  go_enter Try.func5, Try.ntmps5
  go_wp2_with fail
  rw [HW0.out]
  refine (C.awake_any _).mono ?_
  rintro e w1 ⟨rfl, hb1⟩
  have hsz1 : w.heap.size + 1 < w1.heap.size := by have := hb1.size; omega
  have hsz1' : w.heap.size < w1.heap.size := by omega
  have HB2a := Lib.hid ((hb1.block w.heap.size (by omega)).trans HB2.out)
  have HB3a := Lib.hid ((hb1.block (w.heap.size + 1) (by omega)).trans HB3.out)
  have c2 := (blk_cell HB2a.out 0).1
  have c3 := (blk_cell HB3a.out 0).1
  simp only [List.getElem?_toArray, List.getElem?_cons_zero] at c2 c3
  have f2 := (blk_cell HB2a.out 0).2
  have f3 := (blk_cell HB3a.out 0).2
  have hbw1 := hbx.trans (hb1.mono (by omega))
  have hA1 := Lib.hid (hA0.out.belowN hb1 (by omega) (Nat.le_refl _))
  have hA1' := Lib.hid (hA0'.out.belowN hb1 (by omega) (Nat.le_refl _))
  have hB1 : B ≤ w1.heap.size := by omega
  have hA1d : Hid (Sl w1.drew B A (C.fl .i64 rs)) := Lib.hid (hA1.out.belowN (Below.refl w1.heap.size w1).drew hB1 (Nat.le_refl _))
  go_upto_region 3 with (fail)
  go_cut [4] (fun s4 wx => s4 = .bool false ∧ C.AlgArgs w wx R1 R2)
  case first =>
    go_region_with (first
      | (go_at_call 10; have hAz' := hAa'.out; refine (C.right_any A' len' cap' B rs' _ HL'.out hc' hcap' (by first | omega | (simp; omega)) hAz').mono ?_; clear hAz'; rw [HR2.out]; rintro e wb ⟨Ab, cb, rfl, hownb, hbb⟩; have hzb : wa.heap.size ≤ wb.heap.size := hbb.size; have hzb1 : w.heap.size < wb.heap.size := (by omega); have hzb2 : w.heap.size + 1 < wb.heap.size := (by omega); have hbb1 : Below wa.heap.size wa wb := (by first | exact hbb | exact (Below.refl wa.heap.size wa).drew.trans hbb); obtain ⟨hqb1, hqb2⟩ := bcell hbb1; have hRb := Lib.hid (SlR.own hownb (show w.heap.size + 2 ≤ wa.heap.size by omega)); have hRa2 := Lib.hid (hRa.out.below hbb1 (Nat.le_refl _)); clear hownb)
      | (go_at_call 10; refine (C.right_any A len cap B rs w1.drew HL.out hc hcap hB1 hA1d.out).mono ?_; rw [HR1.out]; rintro e wa ⟨Aa, ca, rfl, howna, hba⟩; have hza : w1.heap.size ≤ wa.heap.size := hba.size; have hza1 : w.heap.size < wa.heap.size := (by omega); have hza2 : w.heap.size + 1 < wa.heap.size := (by omega); have hba1 : Below w1.heap.size w1 wa := (by first | exact hba | exact (Below.refl w1.heap.size w1).drew.trans hba); obtain ⟨hqa1, hqa2⟩ := bcell hba1; have hAa' := Lib.hid (hA1'.out.belowN hba1 hB1 (Nat.le_refl _)); have hRa := Lib.hid (SlR.own howna (show w.heap.size + 2 ≤ w1.heap.size from hsz1)); clear howna)
      | fail)
    all_goals
      have hbwb := (hbw1.trans (hba1.mono (Nat.le_of_lt hsz1'))).trans (hbb1.mono (Nat.le_of_lt hza1))
      have k2 := (hbb1.block w.heap.size hza1).trans ((hba1.block w.heap.size hsz1').trans HB2a.out)
      have k3 := (hbb1.block (w.heap.size + 1) hza2).trans ((hba1.block (w.heap.size + 1) hsz1).trans HB3a.out)
      have K2 := Lib.hid (C.set_other (p := ⟨w.heap.size + 1, 0, none⟩) (set_cell (v := .slice Aa R1.length ca) k2) (by simp) (.slice Ab R2.length cb))
      have K3 := Lib.hid (set_cell (v := .slice Ab R2.length cb) (C.set_other (p := ⟨w.heap.size, 0, none⟩) k3 (by simp) (.slice Aa R1.length ca)))
      have KB := Lib.hid ((hbwb.setCell (p := ⟨w.heap.size, 0, none⟩) (Nat.le_refl _) (.slice Aa R1.length ca)).setCell (p := ⟨w.heap.size + 1, 0, none⟩) (Nat.le_succ _) (.slice Ab R2.length cb))
      have KA := Lib.hid (SlR.set (SlR.set hRa2.out (p := ⟨w.heap.size, 0, none⟩) (.inl (by simp)) (.slice Aa R1.length ca)) (p := ⟨w.heap.size + 1, 0, none⟩) (.inl (by simp)) (.slice Ab R2.length cb))
      have KC := Lib.hid (SlR.set (SlR.set hRb.out (p := ⟨w.heap.size, 0, none⟩) (.inl (by simp)) (.slice Aa R1.length ca)) (p := ⟨w.heap.size + 1, 0, none⟩) (.inl (by simp)) (.slice Ab R2.length cb))
      have KZ := Lib.hid (show ((wb.setCell ⟨w.heap.size, 0, none⟩ (.slice Aa R1.length ca)).setCell ⟨w.heap.size + 1, 0, none⟩ (.slice Ab R2.length cb)).heap.size = wb.heap.size by simp [World.setCell])
      clear k2 k3
      go_wp2_with fail
      go_meet
      exact ⟨rfl, Aa, Ab, ca, cb, K2.out, K3.out, by rw [KZ.out]; exact hzb2, KA.out.more (by rw [KZ.out]; exact hzb), KC.out.more (by rw [KZ.out]; exact Nat.le_refl _), KB.out⟩
  case rest =>
    obtain ⟨rfl, Aa, Ab, ca, cb, hk2, hk3, hszx, hSa0, hSb0, hbwx⟩ := hcut
    obtain ⟨wx, rfl⟩ : ∃ wx : World, wx = wc := ⟨_, rfl⟩
    obtain ⟨m1, hm1⟩ : ∃ m1, R1.length = m1 := ⟨_, rfl⟩
    obtain ⟨m2, hm2⟩ : ∃ m2, R2.length = m2 := ⟨_, rfl⟩
    rw [hm1] at hk2 hr1
    rw [hm2] at hk3 hr2
    have HM1 := Lib.hid hm1
    have HM2 := Lib.hid hm2
    have HSA := Lib.hid (hSa0.sl (Nat.le_refl _))
    have HSB := Lib.hid (hSb0.sl (Nat.le_refl _))
    have q2 := (blk_cell hk2 0).1
    have q3 := (blk_cell hk3 0).1
    simp only [List.getElem?_toArray, List.getElem?_cons_zero] at q2 q3
    have l2 : w.heap.size < wx.heap.size := by omega
    obtain ⟨S1, hS1⟩ : ∃ S1, C.ofS R1 = S1 := ⟨_, rfl⟩
    obtain ⟨S2, hS2⟩ : ∃ S2, C.ofS R2 = S2 := ⟨_, rfl⟩
    have hok1 := C.ofS_ok HG1.out
    have hok2 := C.ofS_ok HG2.out
    rw [hS1, hm1] at hok1
    rw [hS2, hm2] at hok2
    obtain ⟨n1, hn1⟩ : ∃ n1, S1.length = n1 := ⟨_, rfl⟩
    obtain ⟨n2, hn2⟩ : ∃ n2, S2.length = n2 := ⟨_, rfl⟩
    obtain ⟨hok1, hsl1⟩ := hok1
    obtain ⟨hok2, hsl2⟩ := hok2
    rw [hn1] at hsl1
    rw [hn2] at hsl2
    have HOK1 := Lib.hid hok1
    have HOK2 := Lib.hid hok2
    have HS1 := Lib.hid hS1
    have HS2 := Lib.hid hS2
    have HN1 := Lib.hid hn1
    have HN2 := Lib.hid hn2
    have hmm1 : m1 ≤ 400000 := by omega
    have hmm2 : m2 ≤ 400000 := by omega
    clear hok1 hok2 hS1 hS2 hn1 hn2 hm1 hm2 hSa0 hSb0 hk2 hk3 hbw1 hA1 hA1' hA1d c2 c3 f2 f3 HB2a HB3a hb1
    have hxx : Below wx.heap.size wx wx := Below.refl _ _
    go_upto_region 4 with (fail)
    go_cut [5, 6] (fun s5 s6 wy => C.AlgSets wx s5 s6 wy S1 S2)
    case first =>
      go_region_held3 (fun w' => w'.cell? ⟨w.heap.size, 0, none⟩ = some (.slice Aa m1 ca) ∧ w'.cell? ⟨w.heap.size + 1, 0, none⟩ = some (.slice Ab m2 cb) ∧ Below wx.heap.size wx w')
        (first
          | exact ⟨q2, q3, hxx⟩
          | (refine C.keepQ q2 q3 l2 hszx ?_; repeat' (first | with_reducible exact hxx | with_reducible exact hba7 | with_reducible exact hbb7 | with_reducible refine C.bset ?_ (by first | omega | (simp; done) | (simp; omega)) _ | with_reducible refine C.bal ?_ _ | with_reducible refine C.bdrew ?_ | fail))
          | fail)
        (first
          | (go_at_call 9; have hraT := hra.out; clear hraT; refine (C.set_any Ab cb m2 wx.heap.size R2 _ HM2.out hmm2 HG2.out (C.thirdQ (by assumption)).size (HSB.out.belowN (C.thirdQ (by assumption)) (Nat.le_refl _) (Nat.le_refl _))).mono ?_; rw [HS2.out]; rintro e wb ⟨Ad, cd, rfl, hownb, hbc⟩; have hbb7 := (C.thirdQ (W := wx) (by assumption)).trans (hbc.mono (C.thirdQ (W := wx) (by assumption)).size); have hrb := Lib.hid (SlR.of_own hownb); (try have hra2 := Lib.hid (SlR.below (by first | exact hra.out | exact SlR.alloc hra.out _ | exact SlR.alloc (SlR.alloc hra.out _) _) hbc (by first | (simp; done) | (simp; omega) | omega))); clear hownb; obtain ⟨hqb1, hqb2⟩ := bcell hbc; have hzb0 := hbb7.size; (try have hzba0 : wx.heap.size < wb.heap.size := by have h := hbc.size; (try simp at h); omega); (try have hzba1 : wx.heap.size + 1 < wb.heap.size := by have h := hbc.size; (try simp at h); omega); (try have hzba2 : wa.heap.size < wb.heap.size := by have h := hbc.size; (try simp at h); omega); (try have hzba3 : wa.heap.size + 1 < wb.heap.size := by have h := hbc.size; (try simp at h); omega); (try have hzba4 : wa.heap.size ≤ wb.heap.size := by have h := hbc.size; (try simp at h); omega); skip)
          | (go_at_call 9; refine (C.set_any Aa ca m1 wx.heap.size R1 _ HM1.out hmm1 HG1.out (C.thirdQ (by assumption)).size (HSA.out.belowN (C.thirdQ (by assumption)) (Nat.le_refl _) (Nat.le_refl _))).mono ?_; rw [HS1.out]; rintro e wa ⟨Ac, cc, rfl, howna, hbc⟩; have hba7 := (C.thirdQ (W := wx) (by assumption)).trans (hbc.mono (C.thirdQ (W := wx) (by assumption)).size); have hra := Lib.hid (SlR.of_own howna); clear howna; obtain ⟨hqa1, hqa2⟩ := bcell hbc; have hza0 := hba7.size; (try have hzab0 : wx.heap.size < wa.heap.size := by have h := hbc.size; (try simp at h); omega); (try have hzab1 : wx.heap.size + 1 < wa.heap.size := by have h := hbc.size; (try simp at h); omega); (try have hzab2 : wb.heap.size < wa.heap.size := by have h := hbc.size; (try simp at h); omega); (try have hzab3 : wb.heap.size + 1 < wa.heap.size := by have h := hbc.size; (try simp at h); omega); (try have hzab4 : wb.heap.size ≤ wa.heap.size := by have h := hbc.size; (try simp at h); omega); skip)
          | fail)
      all_goals
        go_wp2_with fail
        go_meet
        refine ⟨_, _, Ac, Ad, cc, cd, rfl, rfl, ?_, ?_, ?_, ?_, ?_, ?_, ?_⟩
        · first | (go_simp; done) | (go_simp; exact World.cell?_setCell_same _ _ _ (u := .slice none 0 0) (by go_simp)) | fail
        · first | (go_simp; done) | (go_simp; exact World.cell?_setCell_same _ _ _ (u := .slice none 0 0) (by go_simp)) | fail
        · first | (simp; done) | (simp; omega)
        · first | (simp; done) | (simp; omega)
        · first | exact SlR.sl (SlR.alloc (SlR.alloc hra2.out _) _) (by first | omega | (simp; done) | (simp; omega)) | exact SlR.sl (SlR.alloc (SlR.set hra2.out (by first | omega | (simp; done) | (simp; omega)) _) _) (by first | omega | (simp; done) | (simp; omega)) | exact SlR.sl (SlR.set (SlR.set hra2.out (by first | omega | (simp; done) | (simp; omega)) _) (by first | omega | (simp; done) | (simp; omega)) _) (by first | omega | (simp; done) | (simp; omega)) | fail
        · first | exact SlR.sl (SlR.alloc (SlR.alloc hrb.out _) _) (by first | omega | (simp; done) | (simp; omega)) | exact SlR.sl (SlR.alloc (SlR.set hrb.out (by first | omega | (simp; done) | (simp; omega)) _) _) (by first | omega | (simp; done) | (simp; omega)) | exact SlR.sl (SlR.set (SlR.set hrb.out (by first | omega | (simp; done) | (simp; omega)) _) (by first | omega | (simp; done) | (simp; omega)) _) (by first | omega | (simp; done) | (simp; omega)) | fail
        · repeat' (first | with_reducible exact hxx | with_reducible exact hba7 | with_reducible exact hbb7 | with_reducible refine C.bset ?_ (by first | omega | (simp; done) | (simp; omega)) _ | with_reducible refine C.bal ?_ _ | with_reducible refine C.bdrew ?_ | fail)
    case rest =>
      obtain ⟨g5, g6, Ac, Ad, cc, cd, rfl, rfl, q5, q6, l5, l6, hT1, hT2, hbxy⟩ := hcut
      obtain ⟨wy, rfl⟩ : ∃ wy : World, wy = wc := ⟨_, rfl⟩
      rw [HN1.out] at q5
      rw [HN2.out] at q6
      have HT1 := Lib.hid hT1
      have HT2 := Lib.hid hT2
      have y2 := ((bcell hbxy).1 w.heap.size 0 l2).trans q2
      have y3 := ((bcell hbxy).1 (w.heap.size + 1) 0 hszx).trans q3
      have k2 : w.heap.size < wy.heap.size := Nat.lt_of_lt_of_le l2 hbxy.size
      have k3 : w.heap.size + 1 < wy.heap.size := Nat.lt_of_lt_of_le hszx hbxy.size
      have YA := Lib.hid (HSA.out.belowN hbxy (Nat.le_refl _) hbxy.size)
      have YB := Lib.hid (HSB.out.belowN hbxy (Nat.le_refl _) hbxy.size)
      have hbwy := hbwx.trans (hbxy.mono (Nat.le_of_lt l2))
      have hyy : Below wy.heap.size wy wy := Below.refl _ _
      have hown0d := Lib.hid (C.own_empty wy 42 2).drew
      obtain ⟨j0, hj0, hy0, hy1, hy2⟩ := info_parts infoPair
      obtain ⟨M, hMk⟩ : ∃ M, C.marks (R1 ++ R2) = M := ⟨_, rfl⟩
      obtain ⟨mm, hmm⟩ : ∃ mm, M.length = mm := ⟨_, rfl⟩
      have hmlen := C.marks_len (R1 ++ R2)
      rw [hMk, hmm, List.length_append, HM1.out, HM2.out] at hmlen
      have HMK := Lib.hid hMk
      have HMM := Lib.hid hmm
      obtain ⟨mt, hmt⟩ : ∃ mt, 0 + m1 + m2 = mt := ⟨_, rfl⟩
      have hmt24 : mt ≤ 24 := by omega
      have EMT := Lib.hid hmt
      have e12 : (R1 ++ R2).length = mt := by rw [List.length_append, HM1.out, HM2.out]; omega
      have E12 := Lib.hid e12
      have HMW : Hid (∀ r ∈ R1 ++ R2, -9223372036854775808 ≤ r.2 ∧ r.2 < 9223372036854775807) := Lib.hid (fun r hr => by
        obtain ⟨_, hh⟩ := C.good_bd (C.good_app HG1.out HG2.out) r hr
        omega)
      clear hT1 hT2 hMk hmm e12 q2 q3 hxx hmt
      go_wp2_with fail
      go_region_held3 (fun w' => w'.cell? ⟨w.heap.size, 0, none⟩ = some (.slice Aa m1 ca) ∧ w'.cell? ⟨w.heap.size + 1, 0, none⟩ = some (.slice Ab m2 cb) ∧ Below wy.heap.size wy w')
        (first
          | exact ⟨y2, y3, hyy⟩
          | (refine C.keepQ y2 y3 k2 k3 ?_; repeat' (first | with_reducible exact hbz9 | with_reducible exact hyy | with_reducible refine C.bal ?_ _ | with_reducible refine C.bdrew ?_ | fail))
          | fail)
        (first
          | (have hownT := hown1.out; refine step_appendSl _ (by rfl) _ _ _ (by rfl) wy.heap.size 42 j0 _ 2 16 Try.underlying22 hj0 hy0 hy1 hy2 rfl (by omega) _ (0 + m1) _ (by rfl) hownT wy.heap.size Ab m2 cb (C.fl .i64 R2) (by rfl) (by rw [C.fl_len, HM2.out]; omega) (YB.out.belowN (C.thirdQ (by assumption)) (Nat.le_refl _) (Nat.le_refl _)) (C.fl_one _ _) (by simp only [maxLen]; omega) (by omega) (C.thirdQ (W := wy) (by assumption)).size ?_; clear hownT hown1; intro v2 wq hownq hbq _; have hbz9 := (C.thirdQ (W := wy) (by assumption)).trans hbq; rw [EMT.out] at hownq; obtain ⟨A5, c5, rfl⟩ := own_form hownq; have hSq := Lib.hid (Sl.of_own hownq); clear hownq)
          | (go_at_call 23; refine (C.marks_any A5 c5 mt wq.heap.size (R1 ++ R2) _ E12.out (by omega) HMW.out (Nat.le_refl _) (by rw [C.fl_app]; exact hSq.out)).mono ?_; rw [HMK.out]; rintro e wm ⟨AM, cM, rfl, hMm, hbc⟩; rw [HMM.out]; have HAM := Lib.hid hMm; clear hMm; have hbz9 := (C.thirdQ (W := wy) (by assumption)).trans (hbc.mono (C.thirdQ (W := wy) (by assumption)).size))
          | (refine step_appendSl _ (by rfl) _ _ _ (by rfl) wy.heap.size 42 j0 _ 2 16 Try.underlying22 hj0 hy0 hy1 hy2 rfl (by omega) _ 0 [] (by rfl) hown0d.out wy.heap.size Aa m1 ca (C.fl .i64 R1) (by rfl) (by rw [C.fl_len, HM1.out]; omega) (YA.out.belowN (C.thirdQ (by assumption)) (Nat.le_refl _) (Nat.le_refl _)) (C.fl_one _ _) (by simp only [maxLen]; omega) (by omega) (C.thirdQ (W := wy) (by assumption)).size ?_; intro v1 wp hownp hbp _; have hbz9 := (C.thirdQ (W := wy) (by assumption)).trans hbp; have hown1 := Lib.hid hownp; clear hownp)
          | fail)
      clear hown0d hj0 hy0 hy1 hy2
      have hbwm := hbwy.trans (hbz9.mono (Nat.le_of_lt k2))
      have m2' : w.heap.size < wm.heap.size := Nat.lt_of_lt_of_le k2 hbz9.size
      have m3' : w.heap.size + 1 < wm.heap.size := Nat.lt_of_lt_of_le k3 hbz9.size
      have m5' : g5 < wm.heap.size := Nat.lt_of_lt_of_le l5 hbz9.size
      have m6' : g6 < wm.heap.size := Nat.lt_of_lt_of_le l6 hbz9.size
      have hfour := C.four wm (.cells #[.func (.func 26) #[] #[.pointer (some ⟨w.heap.size, 0, none⟩)]] 48) (.cells #[.func (.func 27) #[] #[.pointer (some ⟨w.heap.size + 1, 0, none⟩)]] 48) (.cells #[.int .i64 0, .int .i64 1114111] 42) (.cells #[.slice (some ⟨wm.heap.size + 2, 0, none⟩) 1 1] 22)
      obtain ⟨W9, hW9⟩ : ∃ W9, (((wm.alloc (.cells #[.func (.func 26) #[] #[.pointer (some ⟨w.heap.size, 0, none⟩)]] 48)).alloc (.cells #[.func (.func 27) #[] #[.pointer (some ⟨w.heap.size + 1, 0, none⟩)]] 48)).alloc (.cells #[.int .i64 0, .int .i64 1114111] 42)).alloc (.cells #[.slice (some ⟨wm.heap.size + 2, 0, none⟩) 1 1] 22) = W9 := ⟨_, rfl⟩
      rw [hW9] at hfour
      obtain ⟨o8, o9, o10, o11, hz9, hbm9⟩ := hfour
      have x8 := (blk_cell o8 0).1
      have x9 := (blk_cell o9 0).1
      have x11 := (blk_cell o11 0).1
      simp only [List.getElem?_toArray, List.getElem?_cons_zero] at x8 x9 x11
      have HW9 := Lib.hid hW9
      have hy9 := hbz9.trans (hbm9.mono hbz9.size)
      have x2 := ((bcell hy9).1 w.heap.size 0 k2).trans y2
      have x3 := ((bcell hy9).1 (w.heap.size + 1) 0 k3).trans y3
      have x5 := ((bcell hy9).1 g5 0 l5).trans q5
      have x6 := ((bcell hy9).1 g6 0 l6).trans q6
      have a2 : w.heap.size < W9.heap.size := by omega
      have a3 : w.heap.size + 1 < W9.heap.size := by omega
      have a5 : g5 < W9.heap.size := by omega
      have a6 : g6 < W9.heap.size := by omega
      have a8 : wm.heap.size < W9.heap.size := by omega
      have a9 : wm.heap.size + 1 < W9.heap.size := by omega
      have a11 : wm.heap.size + 3 < W9.heap.size := by omega
      have ZA := Lib.hid (YA.out.belowN hy9 (Nat.le_refl _) hy9.size)
      have ZB := Lib.hid (YB.out.belowN hy9 (Nat.le_refl _) hy9.size)
      have U1 := Lib.hid (HT1.out.belowN hy9 (Nat.le_refl _) hy9.size)
      have U2 := Lib.hid (HT2.out.belowN hy9 (Nat.le_refl _) hy9.size)
      have UM := Lib.hid (HAM.out.belowN hbm9 (Nat.le_refl _) hbm9.size)
      have UP := Lib.hid (Sl.blk (xs := C.fl .i64 [(0, 1114111)]) o10)
      have hbw9 := hbwm.trans (hbm9.mono (Nat.le_of_lt m2'))
      obtain ⟨hms, hmall, hmends⟩ := C.marks_spec (R1 ++ R2)
      have hmb := C.marks_bd (C.good_app HG1.out HG2.out)
      rw [HMK.out] at hms hmall hmends hmb
      have HMS := Lib.hid hms
      have HMALL := Lib.hid hmall
      have HMB := Lib.hid hmb
      obtain ⟨p, hp⟩ : ∃ p : Int → Bool, (fun d => C.inR R1 d && C.isC d) = p := ⟨_, rfl⟩
      obtain ⟨q, hq⟩ : ∃ q : Int → Bool, (fun d => C.inR R2 d && C.isC d) = q := ⟨_, rfl⟩
      have bp : C.blind M p := by rw [← hp]; exact C.blind_op (fun a b => a && b) (C.blind_inR R1 (fun z hz => hmends z (by rw [C.ends_app]; exact List.mem_append_left _ hz))) (C.blind_isC hmall)
      have bq : C.blind M q := by rw [← hq]; exact C.blind_op (fun a b => a && b) (C.blind_inR R2 (fun z hz => hmends z (by rw [C.ends_app]; exact List.mem_append_right _ hz))) (C.blind_isC hmall)
      have pC : ∀ c, p c = true → C.isC c = true := by rw [← hp]; exact C.test_isC R1
      have qC : ∀ c, q c = true → C.isC c = true := by rw [← hq]; exact C.test_isC R2
      have hp1 : ∀ d, C.mem S1 d = p d := by rw [← hp, ← HS1.out]; exact C.ofS_test HG1.out
      have hq1 : ∀ d, C.mem S2 d = q d := by rw [← hq, ← HS2.out]; exact C.ofS_test HG2.out
      have EX : Enters 26 := fun args w => C.enter' Try.func26 (by kernel_rfl) (by kernel_rfl) args w
      have EY : Enters 27 := fun args w => C.enter' Try.func27 (by kernel_rfl) (by kernel_rfl) args w
      have FX : FnIs 26 #[.pointer (some ⟨w.heap.size, 0, none⟩)] p W9 := by
        rw [← hp]
        exact fun d w' hb' => C.alg1_any w.heap.size Aa ca m1 W9.heap.size R1 d w' HM1.out (by omega) (((bcell hb').1 w.heap.size 0 a2).trans x2) hb'.size (ZA.out.belowN hb' (Nat.le_refl _) (Nat.le_refl _))
      have FY : FnIs 27 #[.pointer (some ⟨w.heap.size + 1, 0, none⟩)] q W9 := by
        rw [← hq]
        exact fun d w' hb' => C.alg2_any (w.heap.size + 1) Ab cb m2 W9.heap.size R2 d w' HM2.out (by omega) (((bcell hb').1 (w.heap.size + 1) 0 a3).trans x3) hb'.size (ZB.out.belowN hb' (Nat.le_refl _) (Nat.le_refl _))
      have E3 : Enters 28 := fun args w => C.enter' Try.func28 (by kernel_rfl) (by kernel_rfl) args w
      have F3 := C.alg3_is _ _ _ _ p q wm.heap.size (wm.heap.size + 1) W9 EX EY FX FY x8 x9 a8 a9
      have E4 : Enters 29 := fun args w => C.enter' Try.func29 (by kernel_rfl) (by kernel_rfl) args w
      have F4 := C.alg4_is _ _ _ _ p q wm.heap.size (wm.heap.size + 1) W9 EX EY FX FY x8 x9 a8 a9
      have E5 : Enters 30 := fun args w => C.enter' Try.func30 (by kernel_rfl) (by kernel_rfl) args w
      have F5 := C.alg5_is _ _ _ _ p q wm.heap.size (wm.heap.size + 1) W9 EX EY FX FY x8 x9 a8 a9
      have E6 : Enters 32 := fun args w => C.enter' Try.func32 (by kernel_rfl) (by kernel_rfl) args w
      have F6 := C.alg6_is _ _ _ _ p q wm.heap.size (wm.heap.size + 1) W9 EX EY FX FY x8 x9 a8 a9
      have E7 : Enters 34 := fun args w => C.enter' Try.func34 (by kernel_rfl) (by kernel_rfl) args w
      have F7 := C.alg7_is _ _ p (wm.heap.size + 3) wm.heap.size 1 (some ⟨wm.heap.size + 2, 0, none⟩) 1 W9.heap.size [(0, 1114111)] W9 EX FX rfl (by decide) (Nat.le_refl _) UP.out x11 x8 a11 a8
      have HIS : Hid (∀ (f : FuncId) (cap : Array Value) (r : Int → Bool) (S : List Int) (Aq : Option Addr) (cq n : Nat) (wk : World), Enters f → FnIs f cap r W9 → Below W9.heap.size W9 wk → S.length = n → n ≤ 1000000 → C.ok S → C.blind M r → (∀ c, r c = true → C.isC c = true) → (∀ d, C.mem S d = r d) → Sl wk wk.heap.size Aq (S.map (Value.int .i32)) →
          Calls Try.prog 22 #[.agg #[.slice Aq n cq], .slice AM mm cM, .func (.func f) #[] cap] wk fun e w' => e = .returned (.bool true) ∧ Below wk.heap.size wk w') :=
        Lib.hid (fun f cap r S Aq cq n wk hE hF hB hn hn' hok hbl hC hm hS => C.is_of f cap r Aq AM cq n cM mm wk.heap.size S M wk hE (hF.later hB) hn hn' hok HMM.out (by omega) HMS.out HMALL.out HMB.out hbl hC hm (Nat.le_refl _) hS (UM.out.belowN hB (Nat.le_refl _) hB.size))
      have hn1' : n1 ≤ 1000000 := by omega
      have hn2' : n2 ≤ 1000000 := by omega
      have BP := Lib.hid bp
      have BQ := Lib.hid bq
      have PC := Lib.hid pC
      have QC := Lib.hid qC
      have HP1 := Lib.hid hp1
      have HQ1 := Lib.hid hq1
      have GX := Lib.hid FX
      have GY := Lib.hid FY
      have G3 := Lib.hid F3
      have G4 := Lib.hid F4
      have G5 := Lib.hid F5
      have G6 := Lib.hid F6
      have G7 := Lib.hid F7
      have DX := Lib.hid EX
      have DY := Lib.hid EY
      have D3 := Lib.hid E3
      have D4 := Lib.hid E4
      have D5 := Lib.hid E5
      have D6 := Lib.hid E6
      have D7 := Lib.hid E7
      have B0 : Below W9.heap.size W9 W9 := Below.refl _ _
      clear hW9 o8 o9 o10 o11 hms hmall hmends hmb hp hq bp bq pC qC hp1 hq1 EX EY FX FY F3 F4 F5 F6 F7 E3 E4 E5 E6 E7 x2 x3 x11 q5 q6 y2 y3 hbm9 hbz9 hz9
      go_upto_region 9 with (fail)
      rw [HW9.out]
      go_wp2_with fail
      refine (C.or_any Ac Ad cc cd n1 n2 W9.heap.size S1 S2 _ HN1.out HN2.out hn1' hn2' HOK1.out.1 HOK2.out.1 B0.size (U1.out.belowN B0 (Nat.le_refl _) (Nat.le_refl _)) (U2.out.belowN B0 (Nat.le_refl _) (Nat.le_refl _))).mono ?_
      rintro e va0 ⟨Ao0, co0, rfl, ho, hb⟩
      have C0 := B0.trans (hb.mono B0.size)
      have hSo := Lib.hid (Sl.of_own ho)
      have x5a0 := ((bcell C0).1 g5 0 a5).trans x5
      have x6a0 := ((bcell C0).1 g6 0 a6).trans x6
      clear ho hb
      go_wp2_with fail
      refine (HIS.out _ _ (fun d => p d || q d) _ Ao0 co0 _ va0 D3.out G3.out C0 rfl (by have h := C.mrg_len C.orF S1 S2; rw [HN1.out, HN2.out] at h; omega) (C.mrg_ok C.orF rfl HOK1.out HOK2.out) (C.blind_op (fun a b => a || b) BP.out BQ.out) (fun c h => C.op_isC0 PC.out QC.out c h) (fun d => by rw [C.mrg_mem C.orF rfl HOK1.out.1 HOK2.out.1, HP1.out, HQ1.out]; rfl) hSo.out).mono ?_
      rintro e vb0 ⟨rfl, hb⟩
      have B1 := C0.trans (hb.mono C0.size)
      have x5b0 := ((bcell B1).1 g5 0 a5).trans x5
      have x6b0 := ((bcell B1).1 g6 0 a6).trans x6
      clear hb hSo x5a0 x6a0
      go_wp2_with fail
      refine (C.and_any Ac Ad cc cd n1 n2 W9.heap.size S1 S2 _ HN1.out HN2.out hn1' hn2' HOK1.out.1 HOK2.out.1 B1.size (U1.out.belowN B1 (Nat.le_refl _) (Nat.le_refl _)) (U2.out.belowN B1 (Nat.le_refl _) (Nat.le_refl _))).mono ?_
      rintro e va1 ⟨Ao1, co1, rfl, ho, hb⟩
      have C1 := B1.trans (hb.mono B1.size)
      have hSo := Lib.hid (Sl.of_own ho)
      have x5a1 := ((bcell C1).1 g5 0 a5).trans x5
      have x6a1 := ((bcell C1).1 g6 0 a6).trans x6
      clear ho hb
      go_wp2_with fail
      refine (HIS.out _ _ (fun d => p d && q d) _ Ao1 co1 _ va1 D4.out G4.out C1 rfl (by have h := C.mrg_len C.andF S1 S2; rw [HN1.out, HN2.out] at h; omega) (C.mrg_ok C.andF rfl HOK1.out HOK2.out) (C.blind_op (fun a b => a && b) BP.out BQ.out) (fun c h => C.op_isC1 PC.out QC.out c h) (fun d => by rw [C.mrg_mem C.andF rfl HOK1.out.1 HOK2.out.1, HP1.out, HQ1.out]; rfl) hSo.out).mono ?_
      rintro e vb1 ⟨rfl, hb⟩
      have B2 := C1.trans (hb.mono C1.size)
      have x5b1 := ((bcell B2).1 g5 0 a5).trans x5
      have x6b1 := ((bcell B2).1 g6 0 a6).trans x6
      clear hb hSo x5a1 x6a1
      go_wp2_with fail
      refine (C.less_any Ac Ad cc cd n1 n2 W9.heap.size S1 S2 _ HN1.out HN2.out hn1' hn2' HOK1.out.1 HOK2.out.1 B2.size (U1.out.belowN B2 (Nat.le_refl _) (Nat.le_refl _)) (U2.out.belowN B2 (Nat.le_refl _) (Nat.le_refl _))).mono ?_
      rintro e va2 ⟨Ao2, co2, rfl, ho, hb⟩
      have C2 := B2.trans (hb.mono B2.size)
      have hSo := Lib.hid (Sl.of_own ho)
      have x5a2 := ((bcell C2).1 g5 0 a5).trans x5
      have x6a2 := ((bcell C2).1 g6 0 a6).trans x6
      clear ho hb
      go_wp2_with fail
      refine (HIS.out _ _ (fun d => p d && !q d) _ Ao2 co2 _ va2 D5.out G5.out C2 rfl (by have h := C.mrg_len C.lessF S1 S2; rw [HN1.out, HN2.out] at h; omega) (C.mrg_ok C.lessF rfl HOK1.out HOK2.out) (C.blind_op (fun a b => a && !b) BP.out BQ.out) (fun c h => C.op_isC2 PC.out QC.out c h) (fun d => by rw [C.mrg_mem C.lessF rfl HOK1.out.1 HOK2.out.1, HP1.out, HQ1.out]; rfl) hSo.out).mono ?_
      rintro e vb2 ⟨rfl, hb⟩
      have B3 := C2.trans (hb.mono C2.size)
      have x5b2 := ((bcell B3).1 g5 0 a5).trans x5
      have x6b2 := ((bcell B3).1 g6 0 a6).trans x6
      clear hb hSo x5a2 x6a2
      go_wp2_with fail
      refine (C.xor_any Ac Ad cc cd n1 n2 W9.heap.size S1 S2 _ HN1.out HN2.out hn1' hn2' HOK1.out.1 HOK2.out.1 B3.size (U1.out.belowN B3 (Nat.le_refl _) (Nat.le_refl _)) (U2.out.belowN B3 (Nat.le_refl _) (Nat.le_refl _))).mono ?_
      rintro e va3 ⟨Ao3, co3, rfl, ho, hb⟩
      have C3 := B3.trans (hb.mono B3.size)
      have hSo := Lib.hid (Sl.of_own ho)
      have x5a3 := ((bcell C3).1 g5 0 a5).trans x5
      have x6a3 := ((bcell C3).1 g6 0 a6).trans x6
      clear ho hb
      go_wp2_with fail
      refine (HIS.out _ _ (fun d => p d != q d) _ Ao3 co3 _ va3 D6.out G6.out C3 rfl (by have h := C.mrg_len C.xorF S1 S2; rw [HN1.out, HN2.out] at h; omega) (C.mrg_ok C.xorF rfl HOK1.out HOK2.out) (C.blind_op (fun a b => a != b) BP.out BQ.out) (fun c h => C.op_isC3 PC.out QC.out c h) (fun d => by rw [C.mrg_mem C.xorF rfl HOK1.out.1 HOK2.out.1, HP1.out, HQ1.out]; rfl) hSo.out).mono ?_
      rintro e vb3 ⟨rfl, hb⟩
      have B4 := C3.trans (hb.mono C3.size)
      have x5b3 := ((bcell B4).1 g5 0 a5).trans x5
      have x6b3 := ((bcell B4).1 g6 0 a6).trans x6
      clear hb hSo x5a3 x6a3
      go_wp2_with fail
      refine (C.not_any Ac cc n1 W9.heap.size S1 _ HN1.out hn1' HOK1.out.1 B4.size (U1.out.belowN B4 (Nat.le_refl _) (Nat.le_refl _))).mono ?_
      rintro e va4 ⟨Ao4, co4, rfl, ho, hb⟩
      have C4 := B4.trans (hb.mono B4.size)
      have hSo := Lib.hid (Sl.of_own ho)
      clear ho hb
      go_wp2_with fail
      refine (HIS.out _ _ (fun d => (C.inR [(0, 1114111)] d && C.isC d) && !p d) _ Ao4 co4 _ va4 D7.out G7.out C4 rfl (by have h := C.mrg_len C.lessF C.all S1; rw [HN1.out] at h; have h4 : C.all.length = 4 := rfl; omega) (C.mrg_ok C.lessF rfl C.all_ok HOK1.out) (C.blind_eqv (fun d => by rw [C.inAll]) (C.blind_op (fun a b => a && !b) (C.blind_isC HMALL.out) BP.out)) (fun c h => by rw [C.inAll] at h; simp at h; exact h.1) (fun d => by rw [C.mrg_mem C.lessF rfl C.all_ok.1 HOK1.out.1, C.all_mem, HP1.out, C.inAll]; rfl) hSo.out).mono ?_
      rintro e vb4 ⟨rfl, hb⟩
      have B5 := C4.trans (hb.mono C4.size)
      clear hb hSo
      go_wp2
      have KX : Hid (∀ (d : Int) (w' : World), Below W9.heap.size W9 w' → Calls Try.prog 26 #[.int .i64 d, .pointer (some ⟨w.heap.size, 0, none⟩)] w' fun e w'' => e = .returned (.bool (p d)) ∧ Below w'.heap.size w' w'') := Lib.hid (fun d w' h => GX.out d w' h)
      have KY : Hid (∀ (d : Int) (w' : World), Below W9.heap.size W9 w' → Calls Try.prog 27 #[.int .i64 d, .pointer (some ⟨w.heap.size + 1, 0, none⟩)] w' fun e w'' => e = .returned (.bool (q d)) ∧ Below w'.heap.size w' w'') := Lib.hid (fun d w' h => GY.out d w' h)
      go_loopw [11, 12, 77] (fun vw vs vi wr => ∃ (k : Nat) (bw bs : Bool), k ≤ mm ∧ vi = .int .i64 k ∧ (M.take k).all (fun z => !p z || q z) = bw ∧ vw = .bool bw ∧ (M.take k).all (fun z => p z == q z) = bs ∧ vs = .bool bs ∧ Below W9.heap.size W9 wr) (fun _ _ vi _ => mm - (intOf vi).toNat)
      case atStart => exact ⟨0, true, true, by omega, rfl, rfl, rfl, rfl, rfl, B5⟩
      case round =>
        obtain ⟨k, bw, bs, hk, rfl, hbwe, rfl, hbse, rfl, hbz⟩ := hrel
        obtain ⟨uu, rfl⟩ : ∃ uu : World, uu = wr := ⟨_, rfl⟩
        have HBW := Lib.hid hbwe
        have HBS := Lib.hid hbse
        clear hbwe hbse
        by_cases hlt : k < mm
        · obtain ⟨z, hz⟩ : ∃ z, M[k]? = some z := ⟨_, List.getElem?_eq_getElem (by rw [HMM.out]; omega)⟩
          obtain ⟨bm, om, rfl, hbm, hcz, _⟩ := UM.out.ints hz
          rw [← (bcell hbz).1 _ _ hbm] at hcz
          have HTW := Lib.hid (C.all_take (fun z => !p z || q z) hz)
          have HTS := Lib.hid (C.all_take (fun z => p z == q z) hz)
          have n0 : (0 : Int) ≤ (k : Int) := by omega
          have n1 : (k : Int) < mm := by omega
          have e8 := ((bcell hbz).1 wm.heap.size 0 a8).trans x8
          have e9 := ((bcell hbz).1 (wm.heap.size + 1) 0 a9).trans x9
          clear hz x5b0 x5b1 x5b2 x5b3 x6b0 x6b1 x6b2 x6b3
          rcases hpz : p z with _ | _ <;> rcases hqz : q z with _ | _
          · have PZ := Lib.hid hpz
            have QZ := Lib.hid hqz
            clear hpz hqz
            cases bw
            · go_wp2_with fail
              have t8 := ((bcell hbz).1 wm.heap.size 0 a8).trans x8
              have t9 := ((bcell hbz).1 (wm.heap.size + 1) 0 a9).trans x9
              have r8 : wm.heap.size < uu.heap.size := Nat.lt_of_lt_of_le a8 hbz.size
              have r9 : wm.heap.size + 1 < uu.heap.size := Nat.lt_of_lt_of_le a9 hbz.size
              have huu : Below uu.heap.size uu uu := Below.refl _ _
              cases bs
              · go_quiet (fail)
                go_wp2_with fail
                refine ⟨⟨k + 1, _, _, by omega, by go_num, ?_, rfl, ?_, rfl, (by first | exact below_drewN hbz _ | exact hbz.drew | exact hbz)⟩, by simp [intOf]; omega⟩
                · rw [HTW.out, HBW.out, PZ.out, QZ.out]; rfl
                · rw [HTS.out, HBS.out, PZ.out, QZ.out]; rfl
              · go_region_held3 (fun w' => w'.cell? ⟨wm.heap.size, 0, none⟩ = some (.func (.func 26) #[] #[.pointer (some ⟨w.heap.size, 0, none⟩)]) ∧ w'.cell? ⟨wm.heap.size + 1, 0, none⟩ = some (.func (.func 27) #[] #[.pointer (some ⟨w.heap.size + 1, 0, none⟩)]) ∧ Below uu.heap.size uu w')
                  (first
                    | exact C.keepQ t8 t9 r8 r9 huu
                    | exact C.keepQ t8 t9 r8 r9 huu.drew
                    | exact C.keepQ t8 t9 r8 r9 hbzq
                    | fail)
                  (first
                    | (go_at_call 26; refine (KX.out z _ (hbz.trans ((C.thirdQ (W := uu) (by assumption)).mono hbz.size))).mono ?_; rw [PZ.out]; rintro e W1 ⟨rfl, hbc⟩; have hbzq := (C.thirdQ (W := uu) (by assumption)).trans (hbc.mono (C.thirdQ (W := uu) (by assumption)).size))
                    | (go_at_call 27; refine (KY.out z _ (hbz.trans ((C.thirdQ (W := uu) (by assumption)).mono hbz.size))).mono ?_; rw [QZ.out]; rintro e W1 ⟨rfl, hbc⟩; have hbzq := (C.thirdQ (W := uu) (by assumption)).trans (hbc.mono (C.thirdQ (W := uu) (by assumption)).size))
                    | fail)
                all_goals
                  go_wp2_with fail
                  refine ⟨⟨k + 1, _, _, by omega, by go_num, ?_, rfl, ?_, rfl, (hbz.trans (hbzq.mono hbz.size))⟩, by simp [intOf]; omega⟩
                  · rw [HTW.out, HBW.out, PZ.out, QZ.out]; rfl
                  · rw [HTS.out, HBS.out, PZ.out, QZ.out]; rfl
            · go_wp2_with fail
              refine (KX.out z _ hbz).mono ?_
              rw [PZ.out]
              rintro e u1 ⟨rfl, hb1⟩
              have hbz1 := hbz.trans (hb1.mono hbz.size)
              have f9 := ((bcell hbz1).1 (wm.heap.size + 1) 0 a9).trans x9
              go_wp2_with fail
              have t8 := ((bcell hbz1).1 wm.heap.size 0 a8).trans x8
              have t9 := ((bcell hbz1).1 (wm.heap.size + 1) 0 a9).trans x9
              have r8 : wm.heap.size < u1.heap.size := Nat.lt_of_lt_of_le a8 hbz1.size
              have r9 : wm.heap.size + 1 < u1.heap.size := Nat.lt_of_lt_of_le a9 hbz1.size
              have huu : Below u1.heap.size u1 u1 := Below.refl _ _
              cases bs
              · go_quiet (fail)
                go_wp2_with fail
                refine ⟨⟨k + 1, _, _, by omega, by go_num, ?_, rfl, ?_, rfl, (by first | exact below_drewN hbz1 _ | exact hbz1.drew | exact hbz1)⟩, by simp [intOf]; omega⟩
                · rw [HTW.out, HBW.out, PZ.out, QZ.out]; rfl
                · rw [HTS.out, HBS.out, PZ.out, QZ.out]; rfl
              · go_region_held3 (fun w' => w'.cell? ⟨wm.heap.size, 0, none⟩ = some (.func (.func 26) #[] #[.pointer (some ⟨w.heap.size, 0, none⟩)]) ∧ w'.cell? ⟨wm.heap.size + 1, 0, none⟩ = some (.func (.func 27) #[] #[.pointer (some ⟨w.heap.size + 1, 0, none⟩)]) ∧ Below u1.heap.size u1 w')
                  (first
                    | exact C.keepQ t8 t9 r8 r9 huu
                    | exact C.keepQ t8 t9 r8 r9 huu.drew
                    | exact C.keepQ t8 t9 r8 r9 hbzq
                    | fail)
                  (first
                    | (go_at_call 26; refine (KX.out z _ (hbz1.trans ((C.thirdQ (W := u1) (by assumption)).mono hbz1.size))).mono ?_; rw [PZ.out]; rintro e W1 ⟨rfl, hbc⟩; have hbzq := (C.thirdQ (W := u1) (by assumption)).trans (hbc.mono (C.thirdQ (W := u1) (by assumption)).size))
                    | (go_at_call 27; refine (KY.out z _ (hbz1.trans ((C.thirdQ (W := u1) (by assumption)).mono hbz1.size))).mono ?_; rw [QZ.out]; rintro e W1 ⟨rfl, hbc⟩; have hbzq := (C.thirdQ (W := u1) (by assumption)).trans (hbc.mono (C.thirdQ (W := u1) (by assumption)).size))
                    | fail)
                all_goals
                  go_wp2_with fail
                  refine ⟨⟨k + 1, _, _, by omega, by go_num, ?_, rfl, ?_, rfl, (hbz1.trans (hbzq.mono hbz1.size))⟩, by simp [intOf]; omega⟩
                  · rw [HTW.out, HBW.out, PZ.out, QZ.out]; rfl
                  · rw [HTS.out, HBS.out, PZ.out, QZ.out]; rfl
          · have PZ := Lib.hid hpz
            have QZ := Lib.hid hqz
            clear hpz hqz
            cases bw
            · go_wp2_with fail
              have t8 := ((bcell hbz).1 wm.heap.size 0 a8).trans x8
              have t9 := ((bcell hbz).1 (wm.heap.size + 1) 0 a9).trans x9
              have r8 : wm.heap.size < uu.heap.size := Nat.lt_of_lt_of_le a8 hbz.size
              have r9 : wm.heap.size + 1 < uu.heap.size := Nat.lt_of_lt_of_le a9 hbz.size
              have huu : Below uu.heap.size uu uu := Below.refl _ _
              cases bs
              · go_quiet (fail)
                go_wp2_with fail
                refine ⟨⟨k + 1, _, _, by omega, by go_num, ?_, rfl, ?_, rfl, (by first | exact below_drewN hbz _ | exact hbz.drew | exact hbz)⟩, by simp [intOf]; omega⟩
                · rw [HTW.out, HBW.out, PZ.out, QZ.out]; rfl
                · rw [HTS.out, HBS.out, PZ.out, QZ.out]; rfl
              · go_region_held3 (fun w' => w'.cell? ⟨wm.heap.size, 0, none⟩ = some (.func (.func 26) #[] #[.pointer (some ⟨w.heap.size, 0, none⟩)]) ∧ w'.cell? ⟨wm.heap.size + 1, 0, none⟩ = some (.func (.func 27) #[] #[.pointer (some ⟨w.heap.size + 1, 0, none⟩)]) ∧ Below uu.heap.size uu w')
                  (first
                    | exact C.keepQ t8 t9 r8 r9 huu
                    | exact C.keepQ t8 t9 r8 r9 huu.drew
                    | exact C.keepQ t8 t9 r8 r9 hbzq
                    | fail)
                  (first
                    | (go_at_call 26; refine (KX.out z _ (hbz.trans ((C.thirdQ (W := uu) (by assumption)).mono hbz.size))).mono ?_; rw [PZ.out]; rintro e W1 ⟨rfl, hbc⟩; have hbzq := (C.thirdQ (W := uu) (by assumption)).trans (hbc.mono (C.thirdQ (W := uu) (by assumption)).size))
                    | (go_at_call 27; refine (KY.out z _ (hbz.trans ((C.thirdQ (W := uu) (by assumption)).mono hbz.size))).mono ?_; rw [QZ.out]; rintro e W1 ⟨rfl, hbc⟩; have hbzq := (C.thirdQ (W := uu) (by assumption)).trans (hbc.mono (C.thirdQ (W := uu) (by assumption)).size))
                    | fail)
                all_goals
                  go_wp2_with fail
                  refine ⟨⟨k + 1, _, _, by omega, by go_num, ?_, rfl, ?_, rfl, (hbz.trans (hbzq.mono hbz.size))⟩, by simp [intOf]; omega⟩
                  · rw [HTW.out, HBW.out, PZ.out, QZ.out]; rfl
                  · rw [HTS.out, HBS.out, PZ.out, QZ.out]; rfl
            · go_wp2_with fail
              refine (KX.out z _ hbz).mono ?_
              rw [PZ.out]
              rintro e u1 ⟨rfl, hb1⟩
              have hbz1 := hbz.trans (hb1.mono hbz.size)
              have f9 := ((bcell hbz1).1 (wm.heap.size + 1) 0 a9).trans x9
              go_wp2_with fail
              have t8 := ((bcell hbz1).1 wm.heap.size 0 a8).trans x8
              have t9 := ((bcell hbz1).1 (wm.heap.size + 1) 0 a9).trans x9
              have r8 : wm.heap.size < u1.heap.size := Nat.lt_of_lt_of_le a8 hbz1.size
              have r9 : wm.heap.size + 1 < u1.heap.size := Nat.lt_of_lt_of_le a9 hbz1.size
              have huu : Below u1.heap.size u1 u1 := Below.refl _ _
              cases bs
              · go_quiet (fail)
                go_wp2_with fail
                refine ⟨⟨k + 1, _, _, by omega, by go_num, ?_, rfl, ?_, rfl, (by first | exact below_drewN hbz1 _ | exact hbz1.drew | exact hbz1)⟩, by simp [intOf]; omega⟩
                · rw [HTW.out, HBW.out, PZ.out, QZ.out]; rfl
                · rw [HTS.out, HBS.out, PZ.out, QZ.out]; rfl
              · go_region_held3 (fun w' => w'.cell? ⟨wm.heap.size, 0, none⟩ = some (.func (.func 26) #[] #[.pointer (some ⟨w.heap.size, 0, none⟩)]) ∧ w'.cell? ⟨wm.heap.size + 1, 0, none⟩ = some (.func (.func 27) #[] #[.pointer (some ⟨w.heap.size + 1, 0, none⟩)]) ∧ Below u1.heap.size u1 w')
                  (first
                    | exact C.keepQ t8 t9 r8 r9 huu
                    | exact C.keepQ t8 t9 r8 r9 huu.drew
                    | exact C.keepQ t8 t9 r8 r9 hbzq
                    | fail)
                  (first
                    | (go_at_call 26; refine (KX.out z _ (hbz1.trans ((C.thirdQ (W := u1) (by assumption)).mono hbz1.size))).mono ?_; rw [PZ.out]; rintro e W1 ⟨rfl, hbc⟩; have hbzq := (C.thirdQ (W := u1) (by assumption)).trans (hbc.mono (C.thirdQ (W := u1) (by assumption)).size))
                    | (go_at_call 27; refine (KY.out z _ (hbz1.trans ((C.thirdQ (W := u1) (by assumption)).mono hbz1.size))).mono ?_; rw [QZ.out]; rintro e W1 ⟨rfl, hbc⟩; have hbzq := (C.thirdQ (W := u1) (by assumption)).trans (hbc.mono (C.thirdQ (W := u1) (by assumption)).size))
                    | fail)
                all_goals
                  go_wp2_with fail
                  refine ⟨⟨k + 1, _, _, by omega, by go_num, ?_, rfl, ?_, rfl, (hbz1.trans (hbzq.mono hbz1.size))⟩, by simp [intOf]; omega⟩
                  · rw [HTW.out, HBW.out, PZ.out, QZ.out]; rfl
                  · rw [HTS.out, HBS.out, PZ.out, QZ.out]; rfl
          · have PZ := Lib.hid hpz
            have QZ := Lib.hid hqz
            clear hpz hqz
            cases bw
            · go_wp2_with fail
              have t8 := ((bcell hbz).1 wm.heap.size 0 a8).trans x8
              have t9 := ((bcell hbz).1 (wm.heap.size + 1) 0 a9).trans x9
              have r8 : wm.heap.size < uu.heap.size := Nat.lt_of_lt_of_le a8 hbz.size
              have r9 : wm.heap.size + 1 < uu.heap.size := Nat.lt_of_lt_of_le a9 hbz.size
              have huu : Below uu.heap.size uu uu := Below.refl _ _
              cases bs
              · go_quiet (fail)
                go_wp2_with fail
                refine ⟨⟨k + 1, _, _, by omega, by go_num, ?_, rfl, ?_, rfl, (by first | exact below_drewN hbz _ | exact hbz.drew | exact hbz)⟩, by simp [intOf]; omega⟩
                · rw [HTW.out, HBW.out, PZ.out, QZ.out]; rfl
                · rw [HTS.out, HBS.out, PZ.out, QZ.out]; rfl
              · go_region_held3 (fun w' => w'.cell? ⟨wm.heap.size, 0, none⟩ = some (.func (.func 26) #[] #[.pointer (some ⟨w.heap.size, 0, none⟩)]) ∧ w'.cell? ⟨wm.heap.size + 1, 0, none⟩ = some (.func (.func 27) #[] #[.pointer (some ⟨w.heap.size + 1, 0, none⟩)]) ∧ Below uu.heap.size uu w')
                  (first
                    | exact C.keepQ t8 t9 r8 r9 huu
                    | exact C.keepQ t8 t9 r8 r9 huu.drew
                    | exact C.keepQ t8 t9 r8 r9 hbzq
                    | fail)
                  (first
                    | (go_at_call 26; refine (KX.out z _ (hbz.trans ((C.thirdQ (W := uu) (by assumption)).mono hbz.size))).mono ?_; rw [PZ.out]; rintro e W1 ⟨rfl, hbc⟩; have hbzq := (C.thirdQ (W := uu) (by assumption)).trans (hbc.mono (C.thirdQ (W := uu) (by assumption)).size))
                    | (go_at_call 27; refine (KY.out z _ (hbz.trans ((C.thirdQ (W := uu) (by assumption)).mono hbz.size))).mono ?_; rw [QZ.out]; rintro e W1 ⟨rfl, hbc⟩; have hbzq := (C.thirdQ (W := uu) (by assumption)).trans (hbc.mono (C.thirdQ (W := uu) (by assumption)).size))
                    | fail)
                all_goals
                  go_wp2_with fail
                  refine ⟨⟨k + 1, _, _, by omega, by go_num, ?_, rfl, ?_, rfl, (hbz.trans (hbzq.mono hbz.size))⟩, by simp [intOf]; omega⟩
                  · rw [HTW.out, HBW.out, PZ.out, QZ.out]; rfl
                  · rw [HTS.out, HBS.out, PZ.out, QZ.out]; rfl
            · go_wp2_with fail
              refine (KX.out z _ hbz).mono ?_
              rw [PZ.out]
              rintro e u1 ⟨rfl, hb1⟩
              have hbz1 := hbz.trans (hb1.mono hbz.size)
              have f9 := ((bcell hbz1).1 (wm.heap.size + 1) 0 a9).trans x9
              go_wp2_with fail
              refine (KY.out z _ hbz1).mono ?_
              rw [QZ.out]
              rintro e u2 ⟨rfl, hb2⟩
              have hbz2 := hbz1.trans (hb2.mono hbz1.size)
              go_wp2_with fail
              have t8 := ((bcell hbz2).1 wm.heap.size 0 a8).trans x8
              have t9 := ((bcell hbz2).1 (wm.heap.size + 1) 0 a9).trans x9
              have r8 : wm.heap.size < u2.heap.size := Nat.lt_of_lt_of_le a8 hbz2.size
              have r9 : wm.heap.size + 1 < u2.heap.size := Nat.lt_of_lt_of_le a9 hbz2.size
              have huu : Below u2.heap.size u2 u2 := Below.refl _ _
              cases bs
              · go_quiet (fail)
                go_wp2_with fail
                refine ⟨⟨k + 1, _, _, by omega, by go_num, ?_, rfl, ?_, rfl, (by first | exact below_drewN hbz2 _ | exact hbz2.drew | exact hbz2)⟩, by simp [intOf]; omega⟩
                · rw [HTW.out, HBW.out, PZ.out, QZ.out]; rfl
                · rw [HTS.out, HBS.out, PZ.out, QZ.out]; rfl
              · go_region_held3 (fun w' => w'.cell? ⟨wm.heap.size, 0, none⟩ = some (.func (.func 26) #[] #[.pointer (some ⟨w.heap.size, 0, none⟩)]) ∧ w'.cell? ⟨wm.heap.size + 1, 0, none⟩ = some (.func (.func 27) #[] #[.pointer (some ⟨w.heap.size + 1, 0, none⟩)]) ∧ Below u2.heap.size u2 w')
                  (first
                    | exact C.keepQ t8 t9 r8 r9 huu
                    | exact C.keepQ t8 t9 r8 r9 huu.drew
                    | exact C.keepQ t8 t9 r8 r9 hbzq
                    | fail)
                  (first
                    | (go_at_call 26; refine (KX.out z _ (hbz2.trans ((C.thirdQ (W := u2) (by assumption)).mono hbz2.size))).mono ?_; rw [PZ.out]; rintro e W1 ⟨rfl, hbc⟩; have hbzq := (C.thirdQ (W := u2) (by assumption)).trans (hbc.mono (C.thirdQ (W := u2) (by assumption)).size))
                    | (go_at_call 27; refine (KY.out z _ (hbz2.trans ((C.thirdQ (W := u2) (by assumption)).mono hbz2.size))).mono ?_; rw [QZ.out]; rintro e W1 ⟨rfl, hbc⟩; have hbzq := (C.thirdQ (W := u2) (by assumption)).trans (hbc.mono (C.thirdQ (W := u2) (by assumption)).size))
                    | fail)
                all_goals
                  go_wp2_with fail
                  refine ⟨⟨k + 1, _, _, by omega, by go_num, ?_, rfl, ?_, rfl, (hbz2.trans (hbzq.mono hbz2.size))⟩, by simp [intOf]; omega⟩
                  · rw [HTW.out, HBW.out, PZ.out, QZ.out]; rfl
                  · rw [HTS.out, HBS.out, PZ.out, QZ.out]; rfl
          · have PZ := Lib.hid hpz
            have QZ := Lib.hid hqz
            clear hpz hqz
            cases bw
            · go_wp2_with fail
              have t8 := ((bcell hbz).1 wm.heap.size 0 a8).trans x8
              have t9 := ((bcell hbz).1 (wm.heap.size + 1) 0 a9).trans x9
              have r8 : wm.heap.size < uu.heap.size := Nat.lt_of_lt_of_le a8 hbz.size
              have r9 : wm.heap.size + 1 < uu.heap.size := Nat.lt_of_lt_of_le a9 hbz.size
              have huu : Below uu.heap.size uu uu := Below.refl _ _
              cases bs
              · go_quiet (fail)
                go_wp2_with fail
                refine ⟨⟨k + 1, _, _, by omega, by go_num, ?_, rfl, ?_, rfl, (by first | exact below_drewN hbz _ | exact hbz.drew | exact hbz)⟩, by simp [intOf]; omega⟩
                · rw [HTW.out, HBW.out, PZ.out, QZ.out]; rfl
                · rw [HTS.out, HBS.out, PZ.out, QZ.out]; rfl
              · go_region_held3 (fun w' => w'.cell? ⟨wm.heap.size, 0, none⟩ = some (.func (.func 26) #[] #[.pointer (some ⟨w.heap.size, 0, none⟩)]) ∧ w'.cell? ⟨wm.heap.size + 1, 0, none⟩ = some (.func (.func 27) #[] #[.pointer (some ⟨w.heap.size + 1, 0, none⟩)]) ∧ Below uu.heap.size uu w')
                  (first
                    | exact C.keepQ t8 t9 r8 r9 huu
                    | exact C.keepQ t8 t9 r8 r9 huu.drew
                    | exact C.keepQ t8 t9 r8 r9 hbzq
                    | fail)
                  (first
                    | (go_at_call 26; refine (KX.out z _ (hbz.trans ((C.thirdQ (W := uu) (by assumption)).mono hbz.size))).mono ?_; rw [PZ.out]; rintro e W1 ⟨rfl, hbc⟩; have hbzq := (C.thirdQ (W := uu) (by assumption)).trans (hbc.mono (C.thirdQ (W := uu) (by assumption)).size))
                    | (go_at_call 27; refine (KY.out z _ (hbz.trans ((C.thirdQ (W := uu) (by assumption)).mono hbz.size))).mono ?_; rw [QZ.out]; rintro e W1 ⟨rfl, hbc⟩; have hbzq := (C.thirdQ (W := uu) (by assumption)).trans (hbc.mono (C.thirdQ (W := uu) (by assumption)).size))
                    | fail)
                all_goals
                  go_wp2_with fail
                  refine ⟨⟨k + 1, _, _, by omega, by go_num, ?_, rfl, ?_, rfl, (hbz.trans (hbzq.mono hbz.size))⟩, by simp [intOf]; omega⟩
                  · rw [HTW.out, HBW.out, PZ.out, QZ.out]; rfl
                  · rw [HTS.out, HBS.out, PZ.out, QZ.out]; rfl
            · go_wp2_with fail
              refine (KX.out z _ hbz).mono ?_
              rw [PZ.out]
              rintro e u1 ⟨rfl, hb1⟩
              have hbz1 := hbz.trans (hb1.mono hbz.size)
              have f9 := ((bcell hbz1).1 (wm.heap.size + 1) 0 a9).trans x9
              go_wp2_with fail
              refine (KY.out z _ hbz1).mono ?_
              rw [QZ.out]
              rintro e u2 ⟨rfl, hb2⟩
              have hbz2 := hbz1.trans (hb2.mono hbz1.size)
              go_wp2_with fail
              have t8 := ((bcell hbz2).1 wm.heap.size 0 a8).trans x8
              have t9 := ((bcell hbz2).1 (wm.heap.size + 1) 0 a9).trans x9
              have r8 : wm.heap.size < u2.heap.size := Nat.lt_of_lt_of_le a8 hbz2.size
              have r9 : wm.heap.size + 1 < u2.heap.size := Nat.lt_of_lt_of_le a9 hbz2.size
              have huu : Below u2.heap.size u2 u2 := Below.refl _ _
              cases bs
              · go_quiet (fail)
                go_wp2_with fail
                refine ⟨⟨k + 1, _, _, by omega, by go_num, ?_, rfl, ?_, rfl, (by first | exact below_drewN hbz2 _ | exact hbz2.drew | exact hbz2)⟩, by simp [intOf]; omega⟩
                · rw [HTW.out, HBW.out, PZ.out, QZ.out]; rfl
                · rw [HTS.out, HBS.out, PZ.out, QZ.out]; rfl
              · go_region_held3 (fun w' => w'.cell? ⟨wm.heap.size, 0, none⟩ = some (.func (.func 26) #[] #[.pointer (some ⟨w.heap.size, 0, none⟩)]) ∧ w'.cell? ⟨wm.heap.size + 1, 0, none⟩ = some (.func (.func 27) #[] #[.pointer (some ⟨w.heap.size + 1, 0, none⟩)]) ∧ Below u2.heap.size u2 w')
                  (first
                    | exact C.keepQ t8 t9 r8 r9 huu
                    | exact C.keepQ t8 t9 r8 r9 huu.drew
                    | exact C.keepQ t8 t9 r8 r9 hbzq
                    | fail)
                  (first
                    | (go_at_call 26; refine (KX.out z _ (hbz2.trans ((C.thirdQ (W := u2) (by assumption)).mono hbz2.size))).mono ?_; rw [PZ.out]; rintro e W1 ⟨rfl, hbc⟩; have hbzq := (C.thirdQ (W := u2) (by assumption)).trans (hbc.mono (C.thirdQ (W := u2) (by assumption)).size))
                    | (go_at_call 27; refine (KY.out z _ (hbz2.trans ((C.thirdQ (W := u2) (by assumption)).mono hbz2.size))).mono ?_; rw [QZ.out]; rintro e W1 ⟨rfl, hbc⟩; have hbzq := (C.thirdQ (W := u2) (by assumption)).trans (hbc.mono (C.thirdQ (W := u2) (by assumption)).size))
                    | fail)
                all_goals
                  go_wp2_with fail
                  refine ⟨⟨k + 1, _, _, by omega, by go_num, ?_, rfl, ?_, rfl, (hbz2.trans (hbzq.mono hbz2.size))⟩, by simp [intOf]; omega⟩
                  · rw [HTW.out, HBW.out, PZ.out, QZ.out]; rfl
                  · rw [HTS.out, HBS.out, PZ.out, QZ.out]; rfl
        · obtain rfl : k = mm := by omega
          have hwi := C.alg_within HMALL.out BP.out BQ.out PC.out HOK1.out HOK2.out HP1.out HQ1.out
          have hsa := C.alg_same HMALL.out BP.out BQ.out PC.out QC.out HOK1.out HOK2.out HP1.out HQ1.out
          have hfw := HBW.out
          have hfs := HBS.out
          rw [List.take_of_length_le (by rw [HMM.out]; exact Nat.le_refl _)] at hfw hfs
          rw [hfw] at hwi
          rw [hfs] at hsa
          have HWI := Lib.hid hwi
          have HSM := Lib.hid hsa
          have HAL := Lib.hid (C.alg_all HOK1.out (fun c h => PC.out c (by rw [← HP1.out]; exact h)))
          have v5 := ((bcell hbz).1 g5 0 a5).trans x5
          have v6 := ((bcell hbz).1 g6 0 a6).trans x6
          have r5 : g5 < uu.heap.size := Nat.lt_of_lt_of_le a5 hbz.size
          have r6 : g6 < uu.heap.size := Nat.lt_of_lt_of_le a6 hbz.size
          have V1 := Lib.hid (U1.out.belowN hbz (Nat.le_refl _) hbz.size)
          have V2 := Lib.hid (U2.out.belowN hbz (Nat.le_refl _) hbz.size)
          have huu : Below uu.heap.size uu uu := Below.refl _ _
          have hnl : (C.mrg C.lessF C.all S1).length ≤ 1000000 := by
            have h := C.mrg_len C.lessF C.all S1
            rw [HN1.out] at h
            have h4 : C.all.length = 4 := rfl
            omega
          have hokn := Lib.hid (C.mrg_ok C.lessF rfl C.all_ok HOK1.out)
          have hbwu := hbw9.trans (hbz.mono (Nat.le_of_lt a2))
          have l2u : w.heap.size < uu.heap.size := Nat.lt_of_lt_of_le a2 hbz.size
          clear hwi hsa hfw hfs x5b0 x5b1 x5b2 x5b3 x6b0 x6b1 x6b2 x6b3
          go_wp2_with fail
          go_region_held3 (fun w' => w'.cell? ⟨g5, 0, none⟩ = some (.slice Ac n1 cc) ∧ w'.cell? ⟨g6, 0, none⟩ = some (.slice Ad n2 cd) ∧ Below uu.heap.size uu w')
            (first
              | exact C.keepQ v5 v6 r5 r6 huu
              | exact C.keepQ v5 v6 r5 r6 huu.drew
              | exact C.keepQ v5 v6 r5 r6 hbzq
              | fail)
            (first
              | (go_at_call 35; refine (C.within_any Ac Ad cc cd n1 n2 uu.heap.size S1 S2 _ HN1.out HN2.out hn1' hn2' HOK1.out.1 HOK2.out.1 (C.thirdQ (W := uu) (by assumption)).size (V1.out.belowN (C.thirdQ (W := uu) (by assumption)) (Nat.le_refl _) (Nat.le_refl _)) (V2.out.belowN (C.thirdQ (W := uu) (by assumption)) (Nat.le_refl _) (Nat.le_refl _))).mono ?_; rw [HWI.out]; rintro e W1 ⟨rfl, hbc⟩; have hbzq := (C.thirdQ (W := uu) (by assumption)).trans (hbc.mono (C.thirdQ (W := uu) (by assumption)).size))
              | (go_at_call 36; refine (C.all_any _).mono ?_; rintro e WA ⟨Al, cl, rfl, hol, hbc⟩; have hSl := Lib.hid (Sl.of_own hol); clear hol; have hbzq := (C.thirdQ (W := uu) (by assumption)).trans (hbc.mono (C.thirdQ (W := uu) (by assumption)).size); have hbAll : Below WA.heap.size WA WA := Below.refl _ _)
              | (go_at_call 33; refine (C.not_any Ac cc n1 uu.heap.size S1 _ HN1.out hn1' HOK1.out.1 (C.thirdQ (W := uu) (by assumption)).size (V1.out.belowN (C.thirdQ (W := uu) (by assumption)) (Nat.le_refl _) (Nat.le_refl _))).mono ?_; rintro e WN ⟨An, cn, rfl, hon, hbc⟩; have hSn := Lib.hid (Sl.of_own hon); clear hon; have hbzq := (C.thirdQ (W := uu) (by assumption)).trans (hbc.mono (C.thirdQ (W := uu) (by assumption)).size); have hSlN := Lib.hid (hSl.out.belowN hbc (Nat.le_refl _) hbc.size))
              | (go_at_call 17; refine (C.or_any Ac An cc cn n1 _ WN.heap.size S1 (C.mrg C.lessF C.all S1) _ HN1.out rfl hn1' hnl HOK1.out.1 hokn.out.1 (Nat.le_refl _) ((V1.out.belowN (C.thirdQ (W := uu) (by assumption)) (Nat.le_refl _) (Nat.le_refl _)).more (C.thirdQ (W := uu) (by assumption)).size) hSn.out).mono ?_; rw [HAL.out]; rintro e WO ⟨Ao, co, rfl, hoo, hbc⟩; have hSo := Lib.hid (Sl.of_own hoo); clear hoo; have hbzq := (C.thirdQ (W := uu) (by assumption)).trans (hbc.mono (C.thirdQ (W := uu) (by assumption)).size); have hSlO := Lib.hid (hSlN.out.belowN hbc (Nat.le_refl _) hbc.size))
              | (go_at_call 13; have hT := hSlO.out; refine (C.same_any Al Ao cl co _ _ WO.heap.size C.all C.all _ rfl rfl (by decide) (by decide) (Nat.le_refl _) hT hSo.out).mono ?_; rw [decide_eq_true (show C.all = C.all from rfl)]; clear hT; rintro e W1 ⟨rfl, hbc⟩; have hbzq := (C.thirdQ (W := uu) (by assumption)).trans (hbc.mono (C.thirdQ (W := uu) (by assumption)).size))
              | (go_at_call 13; refine (C.same_any Ac Ad cc cd n1 n2 uu.heap.size S1 S2 _ HN1.out HN2.out hn1' hn2' (C.thirdQ (W := uu) (by assumption)).size (V1.out.belowN (C.thirdQ (W := uu) (by assumption)) (Nat.le_refl _) (Nat.le_refl _)) (V2.out.belowN (C.thirdQ (W := uu) (by assumption)) (Nat.le_refl _) (Nat.le_refl _))).mono ?_; rw [HSM.out]; rintro e W1 ⟨rfl, hbc⟩; have hbzq := (C.thirdQ (W := uu) (by assumption)).trans (hbc.mono (C.thirdQ (W := uu) (by assumption)).size))
              | fail)
          all_goals
            go_wp2_with fail
            go_ret
            exact ⟨rfl, hbwu.trans (hbzq.mono (Nat.le_of_lt l2u))⟩

theorem C.alg_row (w : World) (a : Option Addr) (len cap : Nat) (rs : List (Int × Int)) (h : IsPairs w a len cap rs) (a' : Option Addr) (len' cap' : Nat) (rs' : List (Int × Int)) (h' : IsPairs w a' len' cap' rs') :
    Calls Try.prog 5 #[.slice a len cap, .slice a' len' cap'] w fun e w' => e = .returned (.bool true) ∧ Below w.heap.size w w' :=
  C.alg_law a a' len cap len' cap' w.heap.size rs rs' w h.1 h.2.1 h.2.2.1 h'.1 h'.2.1 h'.2.2.1 (Nat.le_refl _) h.2.2.2.1 h'.2.2.2.1
end Go.Proofs.Ytfobmgfmepoamaa
