/- The document's layer model: Full, by walking its text. -/
import Derived.Test.YtkmfegamblmpeaaGreatDoorMdRef3
import Derived.Test.YtkmfegamblmpeaaGreatDoorCpUtf
import Derived.Deep.RegionWith
import Derived.Deep.RegionHeld3
import Derived.BigQuiet
import Derived.Deep.QuietTactic
namespace Go.Proofs.YtkmfegamblmpeaaGreatDoor
open Go.RowKit
set_option linter.unusedSimpArgs false
set_option linter.unusedVariables false

def Md.RetFull (o : Option (List Int)) (w : World) (e : Ending) (w' : World) : Prop :=
  ∃ A c, e = .returned (.tuple #[.slice A (o.getD []).length c, .bool o.isSome]) ∧ Sl w' w'.heap.size A ((o.getD []).map (Value.int .i64)) ∧ Below w.heap.size w w'
theorem Md.mp_len {T : List Rw.Row} (h : ∀ r ∈ T, r.2.2.length ≤ 1000) (c : Int) : (Md.mp T c).length ≤ 1000 := by
  unfold Md.mp Md.rmp
  split
  · simp
  · cases hf : Md.find T c with
    | none => decide
    | some r => exact h r (Md.find_some hf).1

set_option maxRecDepth 100000 in
set_option maxHeartbeats 2000000 in
theorem Md.rfull_any (v : Value) (T : List Rw.Row) (E : List Int) (d : Int) (w : World) (hTn : T.length ≤ 100000) (h : Md.Doc w v T E) (hbd : Md.bd T) (hml : ∀ r ∈ T, r.2.2.length ≤ 1000) (h3 : -2147483648 ≤ d) (h4 : d ≤ 2147483647) :
    Calls Tryz.prog 8 #[v, .int .i64 d] w (Md.RetFull (Md.full T d) w) := by
  have hmp := Md.mp_len hml
  have hmb := Md.mp_bd hbd
  have hfe : Md.docF (Md.mp T) (T.length + 4) [d] = Md.full T d := Md.full_eq (Md.mp T) (T.length + 3) d
  have HS : Hid (∀ (A : Option Addr) (c : Nat) (L : List Int) (W : World), Below w.heap.size w W → L.length ≤ 32 → (∀ c ∈ L, -2147483648 ≤ c ∧ c ≤ 2147483647) → Sl W W.heap.size A (L.map (Value.int .i64)) →
      Calls Tryz.prog 35 #[v, .slice A L.length c] W (Md.RetStep (Md.step (Md.mp T) L) (!Md.plain (Md.mp T) L) W)) := Lib.hid fun A c L W hW hl hb hs => Md.rstep_any v T E A L.length c L W (by omega) (h.below hW) hmp rfl (by omega) hb hs
  obtain ⟨AT, cT, XA, xc, rfl, h2, hX⟩ := h
  obtain ⟨tn, htn⟩ : ∃ k, T.length = k := ⟨_, rfl⟩
  obtain ⟨xn, hxn⟩ : ∃ k, E.length = k := ⟨_, rfl⟩
  rw [htn] at hTn hfe
  rw [htn, hxn] at HS ⊢
  obtain ⟨o, ho⟩ : ∃ o, Md.full T d = o := ⟨_, rfl⟩
  rw [ho] at hfe ⊢
  obtain ⟨wa, hwa⟩ : ∃ wa, (w.alloc (.cells #[.slice AT tn cT, .slice XA xn xc] 25)).alloc (.cells #[.int .i64 d] 3) = wa := ⟨_, rfl⟩
  have hba : Below w.heap.size w wa := by rw [← hwa]; exact ((Below.refl _ _).alloc (Nat.le_refl _) _).alloc (by simp) _
  have hat : Rw.At wa w.heap.size 25 [.slice AT tn cT, .slice XA xn xc] := by
    rw [← hwa]; exact (Rw.At.new w 25 [.slice AT tn cT, .slice XA xn xc]).alloc _
  have hsl : Sl wa wa.heap.size (some ⟨w.heap.size + 1, 0, none⟩) ([d].map (Value.int .i64)) := by
    have := Md.sl_of_lit (w := w.alloc (.cells #[.slice AT tn cT, .slice XA xn xc] 25)) (e := 3) (xs := [.int .i64 d])
    simp only [World.size_alloc] at this
    rw [← hwa]
    simp only [World.size_alloc]
    exact this
  have HBA := Lib.hid hba
  have HWA := Lib.hid hwa
  have HAT := Lib.hid hat
  have HMB := Lib.hid hmb
  have HFE := Lib.hid hfe
  have HSL := Lib.hid hsl
  clear hmp hmb hfe htn hxn ho hwa hba hat hsl h2 hX hbd hml
  unfold Md.tv at *
  go_enter Tryz.func8, Tryz.ntmps8
  go_upto_region 2 with (fail)
  rw [HWA.out]
  go_wp2_with fail
  go_loopw [6, 7] (fun v6 i wr => ∃ (k : Nat) (A : Option Addr) (c : Nat) (L : List Int), k ≤ tn + 4 ∧ i = .int .i64 k ∧ v6 = .slice A L.length c ∧ Sl wr wr.heap.size A (L.map (Value.int .i64)) ∧ L.length ≤ 32 ∧ (∀ c ∈ L, -2147483648 ≤ c ∧ c ≤ 2147483647) ∧ Md.docF (Md.mp T) (tn + 4 - k) L = o ∧ Below wa.heap.size wa wr) (fun _ i _ => tn + 4 - (intOf i).toNat)
  case atStart => exact ⟨0, some ⟨w.heap.size + 1, 0, none⟩, 1, [d], Nat.zero_le _, rfl, rfl, HSL.out, by simp, by simp; omega, HFE.out, Below.refl _ _⟩
  case round =>
    obtain ⟨k, A, c, L, hk, rfl, rfl, hs, hl, hb, hdoc, hbel⟩ := hrel
    have hatr := HAT.out.below hbel
    have z0 := hatr.cell 0 rfl
    have z1 := hatr.cell 1 rfl
    have HBEL := Lib.hid hbel
    have HDOC := Lib.hid hdoc
    have hS := HS.out A c L wr (HBA.out.trans (hbel.mono HBA.out.size)) hl hb hs
    have HSS := Lib.hid hs
    have HB := Lib.hid hb
    have e1 : IntKind.i64.wrap ((tn : Int) + 3) = (tn : Int) + 3 := by rw [IntKind.wrap_i64]; omega
    by_cases hlt : k < tn + 4
    · obtain ⟨q, hq⟩ : ∃ q, tn + 4 - k = q + 1 := ⟨tn + 4 - k - 1, by omega⟩
      have hd2 := HDOC.out
      rw [hq, Md.docF] at hd2
      have hnx : tn + 4 - (k + 1) = q := by omega
      have hsb := Md.step_bd HMB.out HB.out
      obtain ⟨nx, hnxe⟩ : ∃ nx, Md.step (Md.mp T) L = nx := ⟨_, rfl⟩
      obtain ⟨pl, hpl⟩ : ∃ pl, Md.plain (Md.mp T) L = pl := ⟨_, rfl⟩
      rw [hnxe, hpl] at hd2 hS
      rw [hnxe] at hsb
      have HD2 := Lib.hid hd2
      have HNX := Lib.hid hnx
      have HSB := Lib.hid hsb
      have hkI : (k : Int) ≤ (tn : Int) + 3 := by omega
      have hkd : decide ((k : Int) ≤ (tn : Int) + 3) = true := decide_eq_true hkI
      clear hs hb hdoc hbel hatr hd2 hnx hq hnxe hpl hsb
      go_wp2_with fail
      refine hS.mono ?_
      rintro e w1 ⟨A1, c1, rfl, hs1, hb1⟩
      have HB1 := Lib.hid (HBEL.out.trans (hb1.mono HBEL.out.size))
      have hss1 := HSS.out.below hb1 hb1.size
      have HSS1 := Lib.hid hss1
      have HS1 := Lib.hid hs1
      clear hs1 hb1 hS z0 z1 hss1
      cases pl
      · obtain ⟨nl, hnl⟩ : ∃ nl, nx.length = nl := ⟨_, rfl⟩
        have HNL := Lib.hid hnl
        have hd3 := HD2.out
        rw [if_neg (by decide), hnl] at hd3
        rw [hnl]
        have HD3 := Lib.hid hd3
        clear hnl hd3
        by_cases hbig : 32 < nl
        · have hoo : o = none := by rw [← HD3.out, if_pos hbig]
          have hbI : decide ((32 : Int) < nl) = true := decide_eq_true (by omega)
          have HOO := Lib.hid hoo
          clear hoo
          go_wp2_with fail
          go_ret2
          rw [HOO.out]
          exact ⟨none, 0, rfl, Sl.nil _ _ _, HBA.out.trans (HB1.out.mono HBA.out.size)⟩
        · have hoo : Md.docF (Md.mp T) q nx = o := by rw [← HD3.out, if_neg hbig]
          have hbI : decide ((32 : Int) < nl) = false := decide_eq_false (by omega)
          have HOO := Lib.hid hoo
          clear hoo
          go_wp2_with fail
          exact ⟨⟨k + 1, A1, c1, nx, by omega, by go_num, by rw [HNL.out], HS1.out, by rw [HNL.out]; omega, HSB.out, by rw [HNX.out]; exact HOO.out, HB1.out⟩, by simp [intOf]; omega⟩
      · have hoo : o = some L := by rw [← HD2.out, if_pos rfl]
        have HOO := Lib.hid hoo
        clear hoo
        go_wp2_with fail
        go_ret2
        rw [HOO.out]
        exact ⟨A, c, rfl, HSS1.out, HBA.out.trans (HB1.out.mono HBA.out.size)⟩
    · have hk4 : k = tn + 4 := by omega
      have hoo : o = none := by
        rw [← HDOC.out, hk4, Nat.sub_self]
        rfl
      have HOO := Lib.hid hoo
      have hkd : decide ((k : Int) ≤ (tn : Int) + 3) = false := decide_eq_false (by omega)
      clear hoo hk4 hs hb hdoc hbel hatr hS
      go_wp2_with fail
      go_ret2
      rw [HOO.out]
      exact ⟨none, 0, rfl, Sl.nil _ _ _, HBA.out.trans (HBEL.out.mono HBA.out.size)⟩
end Go.Proofs.YtkmfegamblmpeaaGreatDoor

/- The document's layer model: Primary, by walking its text. -/
namespace Go.Proofs.YtkmfegamblmpeaaGreatDoor
open Go.RowKit
set_option linter.unusedSimpArgs false
set_option linter.unusedVariables false

/-- Is a character one of some? -/
def Md.xs (E : List Int) (d : Int) : Bool := decide (d ∈ E)
/-- The document's. -/
def Md.docP (T : List Rw.Row) (E : List Int) (c : Int) : Bool := decide (0 < (Hg.splitK c).length) || (decide ((Md.mp T c).length = 2) && (decide (Md.cls T c = 0) && (decide (Md.cls T ((Md.mp T c).headD 0) = 0) && !Md.xs E c)))
theorem Md.docP_eq (T : List Rw.Row) (E : List Int) (c : Int) : Md.docP T E c = Md.prim T (Md.xs E) c := by
  unfold Md.docP Md.prim
  by_cases h : (Hg.pairK c).2.2 = true
  · have hs : 0 < (Hg.splitK c).length := by
      unfold Hg.pairK at h
      unfold Hg.splitK
      split at h
      · rename_i h4; rw [if_pos h4]; simp
      · split at h
        · rename_i h4 h5; rw [if_neg h4, if_pos h5]; simp
        · cases h
    rw [h, decide_eq_true hs, Bool.true_or, Bool.true_or]
  · have hp : (Hg.pairK c).2.2 = false := by simpa using h
    have hs : (Hg.splitK c).length = 0 := by
      unfold Hg.pairK at h
      unfold Hg.splitK
      split at h
      · exact absurd rfl h
      · split at h
        · exact absurd rfl h
        · rename_i h4 h5; rw [if_neg h4, if_neg h5]; rfl
    have hm : Md.mp T c = Md.rmp T c := by
      unfold Md.mp
      rw [if_neg h]
    rw [hp, decide_eq_false (by omega), Bool.false_or, Bool.false_or, hm]
    unfold Md.rmp
    cases hf : Md.find T c with
    | none => simp
    | some r =>
      have he := (Md.find_some hf).2
      have hc : Md.cls T c = r.2.1 := by unfold Md.cls; rw [hf]; rfl
      simp only [Option.map_some, Option.getD_some]
      unfold Md.comp
      rw [hc, he]
      cases decide (r.2.1 = 0) <;> cases decide (r.2.2.length = 2) <;> rfl

set_option maxRecDepth 100000 in
set_option maxHeartbeats 4000000 in
theorem Md.rprim_any (v : Value) (T : List Rw.Row) (E : List Int) (d : Int) (w : World) (hTn : T.length ≤ 100000) (hEn : E.length ≤ 1000000) (h : Md.Doc w v T E) (hml : ∀ r ∈ T, r.2.2.length ≤ 1000) (h3 : -2147483648 ≤ d) (h4 : d ≤ 2147483647) :
    Calls Tryz.prog 16 #[v, .int .i64 d] w fun e w' => e = .returned (.bool (Md.prim T (Md.xs E) d)) ∧ Below w.heap.size w w' := by
  rw [← Md.docP_eq]
  have hml2 := Md.mp_len hml d
  have HDOC := Lib.hid h
  obtain ⟨AT, cT, XA, xc, rfl, h2, hX⟩ := h
  obtain ⟨tn, htn⟩ : ∃ k, T.length = k := ⟨_, rfl⟩
  obtain ⟨xn, hxn⟩ : ∃ k, E.length = k := ⟨_, rfl⟩
  have hdp : Md.docP T E d = (decide (0 < (Hg.splitK d).length) || (decide ((Md.mp T d).length = 2) && (decide (Md.cls T d = 0) && (decide (Md.cls T ((Md.mp T d).headD 0) = 0) && !Md.xs E d)))) := rfl
  obtain ⟨o, ho⟩ : ∃ o, Md.docP T E d = o := ⟨_, rfl⟩
  rw [ho] at hdp ⊢
  have hba : Below w.heap.size w (w.alloc (.cells #[.slice AT tn cT, .slice XA xn xc] 25)) := (Below.refl _ _).alloc (Nat.le_refl _) _
  have hat : Rw.At (w.alloc (.cells #[.slice AT tn cT, .slice XA xn xc] 25)) w.heap.size 25 [.slice AT tn cT, .slice XA xn xc] := Rw.At.new w 25 [.slice AT tn cT, .slice XA xn xc]
  have HP := Lib.hid (Hg.parts_any d (w.alloc (.cells #[.slice AT tn cT, .slice XA xn xc] 25)) h3 h4)
  have HMAP : Hid (∀ W, Below w.heap.size w W → Calls Tryz.prog 9 #[.agg #[.slice AT tn cT, .slice XA xn xc], .int .i64 d] W (RetInts .i64 (Md.mp T d) W)) := Lib.hid fun W hW => by
    have := Md.rmap_any _ T E d W (by omega) (HDOC.out.below hW) h3 h4
    rw [htn, hxn] at this
    exact this
  have HCL : Hid (∀ x W, Below w.heap.size w W → Calls Tryz.prog 11 #[.agg #[.slice AT tn cT, .slice XA xn xc], .int .i64 x] W fun e w' => e = .returned (.int .i64 (Md.cls T x)) ∧ Below W.heap.size W w') := Lib.hid fun x W hW => by
    have := Md.rcls_any _ T E x W (by omega) (HDOC.out.below hW)
    rw [htn, hxn] at this
    exact this
  have HIN : Hid (∀ W, Below w.heap.size w W → Calls Tryz.prog 43 #[.slice XA xn xc, .int .i64 d] W fun e w' => e = .returned (.bool (Md.xs E d)) ∧ W = w') := Lib.hid fun W hW =>
    Md.in_any XA xn xc E d W hxn (by omega) (hX.below hW hW.size)
  have HBA := Lib.hid hba
  have HAT := Lib.hid hat
  have HDP := Lib.hid hdp
  rw [htn, hxn]
  obtain ⟨sp, hsp⟩ : ∃ s, Hg.splitK d = s := ⟨_, rfl⟩
  obtain ⟨m, hm⟩ : ∃ m, Md.mp T d = m := ⟨_, rfl⟩
  rw [hsp] at HP HDP
  rw [hm] at HMAP HDP hml2
  clear hba hat hdp ho htn hxn h2 hX hsp hm HDOC hml
  unfold Md.tv
  go_enter Tryz.func16, Tryz.ntmps16
  go_wp2_with fail
  refine HP.out.mono ?_
  rintro e w1 ⟨A1, c1, rfl, _, hb1⟩
  have hat1 := HAT.out.below hb1
  have z0 := hat1.cell 0 rfl
  have z1 := hat1.cell 1 rfl
  have HAT1 := Lib.hid hat1
  have HB1 := Lib.hid (HBA.out.trans (hb1.mono HBA.out.size))
  obtain ⟨sl, hsl⟩ : ∃ k, sp.length = k := ⟨_, rfl⟩
  rw [hsl] at HDP ⊢
  clear hb1 hat1 HP hsl HAT
  by_cases hs0 : 0 < sl
  · have hoo : o = true := by rw [HDP.out, decide_eq_true hs0, Bool.true_or]
    have HOO := Lib.hid hoo
    have hsI : (0 : Int) < sl := by omega
    clear hoo
    go_wp2_with fail
    go_ret
    exact ⟨by rw [HOO.out]; rfl, HB1.out⟩
  · have hdp := HDP.out
    rw [decide_eq_false hs0, Bool.false_or] at hdp
    have HDP2 := Lib.hid hdp
    have hsI : ¬ (0 : Int) < sl := by omega
    clear hdp HDP
    go_wp2_with fail
    refine (HMAP.out w1 HB1.out).mono ?_
    rintro e w2 ⟨A2, c2, rfl, hs2, hb2⟩
    have hat2 := HAT1.out.below hb2
    have y0 := hat2.cell 0 rfl
    have y1 := hat2.cell 1 rfl
    have hl2 := hat2.lt
    have HB2 := Lib.hid (HB1.out.trans (hb2.mono HB1.out.size))
    have HS2 := Lib.hid hs2
    have HAT2 := Lib.hid hat2
    obtain ⟨ml, hml⟩ : ∃ k, m.length = k := ⟨_, rfl⟩
    rw [hml] at HDP2 hml2 ⊢
    have HML := Lib.hid hml
    clear hs2 hb2 hat2 z0 z1 HMAP hml
    rcases hd2 : ((ml : Int) == 2) with _ | _
    · have hne : ¬ ml = 2 := fun e => by rw [e] at hd2; simp at hd2
      have hoo : o = false := by rw [HDP2.out, decide_eq_false hne, Bool.false_and]
      have HOO := Lib.hid hoo
      clear hoo hne
      go_wp2_with fail
      go_quiet (fail)
      go_wp2_with fail
      go_ret
      exact ⟨by rw [HOO.out]; rfl, below_drewN HB2.out _⟩
    · have hm2 : ml = 2 := by have := beq_iff_eq.1 hd2; omega
      obtain ⟨x, y, rfl⟩ : ∃ x y, m = [x, y] := by
        have h2 : m.length = 2 := by rw [HML.out, hm2]
        match m, h2 with
        | [x, y], _ => exact ⟨x, y, rfl⟩
      obtain ⟨ab, ao, hA, hab, hac⟩ := HS2.out (by simp)
      have hc0 : w2.cell? ⟨ab, ao, none⟩ = some (.int .i64 x) := by simpa using hac 0 (by simp)
      subst hA
      have hml0 : 0 < ml := by omega
      have hml1 : (0 : Int) < ml := by omega
      have hdp := HDP2.out
      rw [decide_eq_true hm2, Bool.true_and, List.headD_cons] at hdp
      have HCL1 := Ext.call fun W hW => HCL.out d W (HB2.out.trans (hW.mono HB2.out.size))
      have HCL2 := Ext.call fun W hW => HCL.out x W (HB2.out.trans (hW.mono HB2.out.size))
      have HIN1 := Ext.same fun W hW => HIN.out W (HB2.out.trans (hW.mono HB2.out.size))
      have e0 := Ext.cells y0 hl2
      have e1 := Ext.cells y1 hl2
      have e2 := Ext.cells hc0 hab
      obtain ⟨q1, hq1⟩ : ∃ q, Md.cls T d = q := ⟨_, rfl⟩
      obtain ⟨q2, hq2⟩ : ∃ q, Md.cls T x = q := ⟨_, rfl⟩
      obtain ⟨xi, hxi⟩ : ∃ b, Md.xs E d = b := ⟨_, rfl⟩
      rw [hq1] at HCL1 hdp
      rw [hq2] at HCL2 hdp
      rw [hxi] at HIN1 hdp
      have C1 := Lib.hid HCL1
      have C2 := Lib.hid HCL2
      have C3 := Lib.hid HIN1
      have HDP3 := Lib.hid hdp
      clear hdp HDP2 HCL hac hq1 hq2 hxi HCL1 HCL2 HIN1 y0 y1 hc0 HIN
      rcases hb1 : (q1 == 0) with _ | _
      · have hoo : o = false := by rw [HDP3.out, show decide (q1 = 0) = false by simpa using hb1, Bool.false_and]
        have HOO := Lib.hid hoo
        clear hoo
        go_wp2_with fail
        refine wp_region_ext (by kernel_rfl) (by kernel_rfl) ?_
        repeat (go_big_quiet_step ((first | (go_at_call 11; first | with_reducible exact C1.out _ | with_reducible exact C2.out _) | (go_at_call 43; with_reducible exact C3.out _))))
        refine wpQuiet_nil ?_
        intro xw
        have HBZ := Lib.hid (HB2.out.trans (xw.below.mono HB2.out.size))
        go_wp2_with fail
        go_ret
        exact ⟨by rw [HOO.out]; rfl, HBZ.out⟩
      · have h0 : q1 = 0 := beq_iff_eq.1 hb1
        subst h0
        have hdp := HDP3.out
        rw [show decide ((0 : Int) = 0) = true from rfl, Bool.true_and] at hdp
        clear HDP3 hb1
        rcases hb2 : (q2 == 0) with _ | _
        · have hoo : o = false := by rw [hdp, show decide (q2 = 0) = false by simpa using hb2, Bool.false_and]
          have HOO := Lib.hid hoo
          clear hoo hdp
          go_wp2_with fail
          refine wp_region_ext (by kernel_rfl) (by kernel_rfl) ?_
          repeat (go_big_quiet_step ((first | (go_at_call 11; first | with_reducible exact C1.out _ | with_reducible exact C2.out _) | (go_at_call 43; with_reducible exact C3.out _))))
          refine wpQuiet_nil ?_
          intro xw
          have HBZ := Lib.hid (HB2.out.trans (xw.below.mono HB2.out.size))
          go_wp2_with fail
          go_ret
          exact ⟨by rw [HOO.out]; rfl, HBZ.out⟩
        · have h0 : q2 = 0 := beq_iff_eq.1 hb2
          subst h0
          rw [show decide ((0 : Int) = 0) = true from rfl, Bool.true_and] at hdp
          have HOO := Lib.hid hdp
          clear hdp hb2
          go_wp2_with fail
          refine wp_region_ext (by kernel_rfl) (by kernel_rfl) ?_
          repeat (go_big_quiet_step ((first | (go_at_call 11; first | with_reducible exact C1.out _ | with_reducible exact C2.out _) | (go_at_call 43; with_reducible exact C3.out _))))
          refine wpQuiet_nil ?_
          intro xw
          have HBZ := Lib.hid (HB2.out.trans (xw.below.mono HB2.out.size))
          go_wp2_with fail
          go_ret
          exact ⟨by rw [HOO.out]; rfl, HBZ.out⟩
end Go.Proofs.YtkmfegamblmpeaaGreatDoor
