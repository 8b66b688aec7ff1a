/- The law ModelChecks, by walking its text. -/
import Derived.Test.YtamcpdggpdaioaaDoorCpArgs
import Derived.Test.YtamcpdggpdaioaaDoorMdOwn
import Derived.Test.YtamcpdggpdaioaaDoorMdFew
import Derived.Test.YtamcpdggpdaioaaDoorMdRef6
import Derived.Test.YtamcpdggpdaioaaDoorCpAll
import Derived.Test.YtamcpdggpdaioaaDoorMdOpen
import Derived.Test.YtamcpdggpdaioaaDoorFaChain
import Derived.ProofKit
import Derived.OpenShut
import Derived.Deep.DeepHandedRow
import Derived.Lib.LaidTab
import Derived.LaidMore
import Derived.LaidLaws
import Derived.LaidHandle
namespace Go.Proofs.YtamcpdggpdaioaaDoor
open Go.RowKit
set_option linter.unusedSimpArgs false
set_option linter.unusedVariables false

theorem Md.chk_le (T : List Rw.Row) (X : Int → Bool) : Md.chk T X ≤ 5 := by
  unfold Md.chk
  have := Md.rowsBad_le T (-1)
  split
  · omega
  · split
    · decide
    · split <;> decide
theorem Md.note_some {k : Nat} (h0 : k ≠ 0) (h5 : k ≤ 5) : (Md.note k).toList.isEmpty = false := by
  have g1 : (Md.note 1).toList.isEmpty = false := by kernel_rfl
  have g2 : (Md.note 2).toList.isEmpty = false := by kernel_rfl
  have g3 : (Md.note 3).toList.isEmpty = false := by kernel_rfl
  have g4 : (Md.note 4).toList.isEmpty = false := by kernel_rfl
  have g5 : (Md.note 5).toList.isEmpty = false := by kernel_rfl
  match k, h0, h5 with
  | 1, _, _ => exact g1
  | 2, _, _ => exact g2
  | 3, _, _ => exact g3
  | 4, _, _ => exact g4
  | 5, _, _ => exact g5
theorem Md.fewE_mem (E : List Int) : C.mem (C.chars (Md.fewE E)) = Md.xs (Md.fewE E) := by
  funext d
  rw [(C.chars_spec _).2 d]
  unfold Md.xs
  by_cases h : d ∈ Md.fewE E
  · have hc : C.isC d = true := by
      unfold Md.fewE at h
      obtain ⟨x, _, rfl⟩ := List.mem_map.1 h
      exact Ch.K_is x
    rw [hc, Bool.and_true]
  · rw [decide_eq_false h, Bool.false_and]
theorem Md.fewT_len (T : List Rw.Row) : (Md.fewT T).length ≤ 20 := by unfold Md.fewT; simp; omega
theorem Md.fewE_len (E : List Int) : (Md.fewE E).length ≤ 30 := by unfold Md.fewE; simp; omega
theorem Md.fewT_mem {T : List Rw.Row} {r : Rw.Row} (h : r ∈ Md.fewT T) : ∃ q ∈ T, r = Md.fewR q := by
  unfold Md.fewT at h
  obtain ⟨q, hq, rfl⟩ := List.mem_map.1 h
  exact ⟨q, List.mem_of_mem_take hq, rfl⟩
theorem Md.fewT_bd (T : List Rw.Row) : Md.bd (Md.fewT T) := by
  intro r hr
  obtain ⟨q, hq, rfl⟩ := Md.fewT_mem hr
  refine ⟨Md.w32_bd q.1, fun c hc => ?_⟩
  obtain ⟨x, _, rfl⟩ := List.mem_map.1 hc
  exact Md.w32_bd x
theorem Md.fewT_ml (T : List Rw.Row) : ∀ r ∈ Md.fewT T, r.2.2.length ≤ 4 := by
  intro r hr
  obtain ⟨q, hq, rfl⟩ := Md.fewT_mem hr
  unfold Md.fewR
  simp
  omega
theorem Md.fewE_bd (E : List Int) : ∀ c ∈ Md.fewE E, -2147483648 ≤ c ∧ c ≤ 2147483647 := by
  intro c hc
  obtain ⟨x, _, rfl⟩ := List.mem_map.1 hc
  exact Ch.K_bd x
theorem Md.DocO.set {w : World} {v : Value} {lo : Nat} {T : List Rw.Row} {E : List Int} (h : Md.DocO w v lo T E) {b : Nat} {cs : List Value} (hat : Rw.At w b 26 cs) (hb : b < lo) (i : Nat) (u : Value) : Md.DocO (w.setCell ⟨b, i, none⟩ u) v lo T E := by
  obtain ⟨A, c, XA, xc, ads, rfl, hl, ho, hm, ha, hx⟩ := h
  exact ⟨A, c, XA, xc, ads, rfl, hl, Rw.own_grown ho hb (Rw.grown_set b i u), hm.grown (Rw.grown_set b i u) (by intro q hq; cases hq; exact hat.not (by decide)), by rw [World.size_setCell]; exact ha, Rw.own_grown hx hb (Rw.grown_set b i u)⟩
theorem Md.DocO.below {w w' : World} {v : Value} {lo : Nat} {T : List Rw.Row} {E : List Int} (h : Md.DocO w v lo T E) (hb : Below w.heap.size w w') : Md.DocO w' v lo T E := by
  obtain ⟨A, c, XA, xc, ads, rfl, hl, ho, hm, ha, hx⟩ := h
  exact ⟨A, c, XA, xc, ads, rfl, hl, own_below ho hb (Nat.le_refl _), hm.below hb, ha.more hb.size, own_below hx hb (Nat.le_refl _)⟩

set_option maxRecDepth 100000 in
set_option maxHeartbeats 4000000 in
theorem Md.checks_row (A XA : Option Addr) (n c xn xc : Nat) (T0 : List Rw.Row) (E0 : List Int) (w : World) (hn : T0.length = n) (hxn : E0.length = xn) (hnb : n ≤ maxLen) (hxb : xn ≤ maxLen) (hbd : ∀ r ∈ T0, Rw.bounds r) (h2 : Rw.SeesI w A T0) (hX : Sl w w.heap.size XA (E0.map (Value.int .i64))) (hL : F.LaidE w) :
    Calls Tryd.prog 4 #[.agg #[.slice A n c, .slice XA xn xc]] w fun e w' => e = .returned (.bool true) ∧ Below w.heap.size w w' := by
  obtain ⟨T, hT⟩ : ∃ T, Md.fewT T0 = T := ⟨_, rfl⟩
  obtain ⟨E, hE⟩ : ∃ E, Md.fewE E0 = E := ⟨_, rfl⟩
  have hTl := Md.fewT_len T0
  have hEl := Md.fewE_len E0
  have hTb := Md.fewT_bd T0
  have hTm := Md.fewT_ml T0
  have hEb := Md.fewE_bd E0
  have hcl : ∀ r ∈ Md.fewT T0, -9223372036854775808 ≤ r.2.1 ∧ r.2.1 ≤ 9223372036854775807 := by
    intro r hr
    obtain ⟨q, hq, rfl⟩ := Md.fewT_mem hr
    exact (hbd q hq).2.1
  have hXE := Md.fewE_mem E0
  have hok := (C.chars_spec (Md.fewE E0)).1
  have hSl := C.chars_len (Md.fewE E0)
  rw [hT] at hTl hTb hTm hcl
  rw [hE] at hEl hEb hXE hok hSl
  obtain ⟨k, hk⟩ : ∃ k, Md.chk T (Md.xs E) = k := ⟨_, rfl⟩
  have hk5 : k ≤ 5 := by rw [← hk]; exact Md.chk_le _ _
  obtain ⟨wa, hwa⟩ : ∃ wa, w.alloc (.cells #[.slice A n c, .slice XA xn xc] 26) = wa := ⟨_, rfl⟩
  have hba : Below w.heap.size w wa := by rw [← hwa]; exact (Below.refl _ _).alloc (Nat.le_refl _) _
  have hat : Rw.At wa w.heap.size 26 [.slice A n c, .slice XA xn xc] := by rw [← hwa]; exact Rw.At.new w 26 [.slice A n c, .slice XA xn xc]
  have HWA := Lib.hid hwa
  have HBA := Lib.hid hba
  have HAT := Lib.hid hat
  have HFEW : Hid (∀ W, Below w.heap.size w W → Calls Tryd.prog 10 #[.agg #[.slice A n c, .slice XA xn xc]] W fun e w' => ∃ v, e = .returned v ∧ Md.DocO w' v W.heap.size T E ∧ Below W.heap.size W w') := Lib.hid fun W hW => by
    rw [← hT, ← hE]
    exact Md.few_any A XA n c xn xc T0 E0 W hn hxn hnb hxb (fun r hr => (hbd r hr).2.2.1) (h2.below hW) (hX.below hW hW.size)
  have HTL := Lib.hid hTl
  have HEL := Lib.hid hEl
  have HTB := Lib.hid hTb
  have HTM := Lib.hid hTm
  have HEB := Lib.hid hEb
  have HCL := Lib.hid hcl
  have HXE := Lib.hid hXE
  have HOK := Lib.hid hok
  have HSL := Lib.hid hSl
  have HK := Lib.hid hk
  have HL := Lib.hid hL
  clear hwa hba hat hT hE hTl hEl hTb hTm hEb hcl hXE hok hSl hk hn hxn hnb hxb hbd h2 hX hL
  go_enter Tryd.func4, Tryd.ntmps4
  go_upto_region 1 with (fail)
  rw [HWA.out]
  go_wp2_with fail
  refine (Md.awake_any _).mono ?_
  rintro e w1 ⟨rfl, hb1⟩
  have hat1 := HAT.out.below hb1
  have z0 := hat1.cell 0 rfl
  have z1 := hat1.cell 1 rfl
  have HAT1 := Lib.hid hat1
  have HB1 := Lib.hid (HBA.out.trans (hb1.mono HBA.out.size))
  have hl1 := hat1.lt
  clear hb1 hat1
  go_wp2_with fail
  refine (HFEW.out w1 HB1.out).mono ?_
  rintro e w2 ⟨v2, rfl, hdo, hb2⟩
  have hdo' := hdo
  obtain ⟨A2, c2, XA2, xc2, ads, rfl, _⟩ := hdo'
  obtain ⟨n2, hn2⟩ : ∃ k, T.length = k := ⟨_, rfl⟩
  obtain ⟨xn2, hxn2⟩ : ∃ k, E.length = k := ⟨_, rfl⟩
  rw [hn2, hxn2] at hdo ⊢
  unfold Md.tv at hdo ⊢
  have hat2 := HAT1.out.below hb2
  have y0 := hat2.cell 0 rfl
  have y1 := hat2.cell 1 rfl
  have y2 := hat2.frozen 0
  have y3 := hat2.frozen 1
  have hl2 := hat2.lt
  have hs1 := hat2.set 0 (.slice A2 n2 c2)
  have hs2 := hs1.set 1 (.slice XA2 xn2 xc2)
  have hd2 := (hdo.set hat2 hl1 0 (.slice A2 n2 c2)).set hs1 hl1 1 (.slice XA2 xn2 xc2)
  have hb3 : Below w.heap.size w ((w2.setCell ⟨w.heap.size, 0, none⟩ (.slice A2 n2 c2)).setCell ⟨w.heap.size, 1, none⟩ (.slice XA2 xn2 xc2)) :=
    ((HB1.out.trans (hb2.mono HB1.out.size)).setCell (p := ⟨w.heap.size, 0, none⟩) (Nat.le_refl _) _).setCell (p := ⟨w.heap.size, 1, none⟩) (Nat.le_refl _) _
  obtain ⟨w3, hw3⟩ : ∃ w3, (w2.setCell ⟨w.heap.size, 0, none⟩ (.slice A2 n2 c2)).setCell ⟨w.heap.size, 1, none⟩ (.slice XA2 xn2 xc2) = w3 := ⟨_, rfl⟩
  rw [hw3] at hs2 hd2 hb3
  have HW3 := Lib.hid hw3
  have HS2 := Lib.hid hs2
  have HD2 := Lib.hid hd2
  have HB3 := Lib.hid hb3
  have hl3 := hs2.lt
  have x0 := hs2.cell 0 rfl
  have x1 := hs2.cell 1 rfl
  have HN2 := Lib.hid hn2
  have HXN2 := Lib.hid hxn2
  clear hdo hs1 hs2 hd2 hb3 hw3 hat2 z0 z1 hn2 hxn2 hb2
  go_upto_region 4 with (fail)
  rw [HW3.out]
  clear y0 y1 y2 y3
  go_wp2_with fail
  refine (Md.own_any _ T E w3 (Nat.le_trans HTL.out (by decide)) (Nat.le_trans HEL.out (by decide)) HTB.out (fun r hr => Nat.le_trans (HTM.out r hr) (by decide)) HEB.out HD2.out.doc).mono ?_
  rintro e w4 ⟨v4, rfl, hIs, hb4⟩
  have HD4 := Lib.hid (HD2.out.below hb4)
  have HS4 := Lib.hid (HS2.out.below hb4)
  have HB4 := Lib.hid (HB3.out.trans (hb4.mono HB3.out.size))
  clear hb4 x0 x1
  go_wp2_with fail
  refine (Md.check_any v4 T (C.chars E) w4 (Nat.le_trans HTL.out (by decide)) HTB.out (fun r hr => Nat.le_trans (HTM.out r hr) (by decide)) hIs HOK.out.1 (by have := HSL.out; have := HEL.out; omega)).mono ?_
  rintro e w5 ⟨q, v5, rfl, hq, hqv, hb5⟩
  rw [HXE.out, HK.out] at hq
  have hs5 := HS4.out.below hb5
  have HD5 := Lib.hid (HD4.out.below hb5)
  have x0 := hs5.cell 0 rfl
  have x1 := hs5.cell 1 rfl
  have HS5 := Lib.hid hs5
  have hl5 := hs5.lt
  have HB5 := Lib.hid (HB4.out.trans (hb5.mono HB4.out.size))
  have HQ := Lib.hid hq
  have HQV := Lib.hid hqv
  clear hb5 hs5 hq hqv hIs
  have hRC := Md.rcheck_any _ T E w5 (Nat.le_trans HTL.out (by decide)) (Nat.le_trans HEL.out (by decide)) HTB.out (fun r hr => Nat.le_trans (HTM.out r hr) (by decide)) HCL.out HD5.out.doc HD5.out.cap
  rw [HK.out] at hRC
  go_wp2_with fail
  refine hRC.mono ?_
  rintro e w6 ⟨rfl, hb6⟩
  have HB6 := Lib.hid (HB5.out.trans (hb6.mono HB5.out.size))
  have HQV6 := Lib.hid (HQV.out.below hb6 (Nat.le_refl _) hb6.size)
  clear hb6 hRC x0 x1
  by_cases hk0 : k = 0
  · subst hk0
    have hem : (Md.note 0).toList.isEmpty = true := by kernel_rfl
    have hq0 := HQ.out
    obtain rfl : q = [] := by
      cases q with
      | nil => rfl
      | cons x l => simp [F.lk, Md.err] at hq0
    obtain rfl : v5 = .nilIface := HQV.out
    clear hq0
    go_wp2_with fail
    go_ret
    exact ⟨rfl, HB6.out⟩
  · have hem := Md.note_some hk0 hk5
    have hlq : F.lk q = [(8, 0, Md.note k)] := by
      rw [HQ.out]
      unfold Md.err
      rw [if_neg hk0]
    have hne : ¬ Md.note k = ⟨#[]⟩ := fun e => by
      rw [e] at hem
      revert hem
      decide +kernel
    have hql : q.length ≤ 1000000 := by
      rw [← F.lk_len, hlq]
      exact (by decide : 1 ≤ 1000000)
    have hnt := fun W (hW : Below w6.heap.size w6 W) => F.notes_any W.heap.size q v5 W (Nat.le_refl _) (HQV6.out.below hW (Nat.le_refl _) hW.size) hql
    have hco := fun W (hW : Below w6.heap.size w6 W) => F.codeE_any W.heap.size q v5 W (HL.out.next (HB6.out.trans (hW.mono HB6.out.size))) (Nat.le_refl _) (HQV6.out.below hW (Nat.le_refl _) hW.size)
    have hli := fun W (hW : Below w6.heap.size w6 W) => F.line_any W.heap.size q v5 W (Nat.le_refl _) (HQV6.out.below hW (Nat.le_refl _) hW.size) hql
    rw [hlq] at hnt hco hli
    have hn1 : F.notes [((8 : Int), (0 : Int), Md.note k)] = [Md.note k] := by
      unfold F.notes
      rw [if_neg hne]
      rfl
    rw [hn1] at hnt
    rw [show F.code [((8 : Int), (0 : Int), Md.note k)] = 8 from rfl] at hco
    rw [show F.line [((8 : Int), (0 : Int), Md.note k)] = 0 from rfl] at hli
    have HNT := Lib.hid hnt
    have HCO := Lib.hid hco
    have HLI := Lib.hid hli
    clear hlq hne hql hnt hco hli hn1
    go_wp2_with fail
    refine (HNT.out w6 (Below.refl _ _)).mono ?_
    rintro e w7 ⟨A7, c7, rfl, hown7, hb7⟩
    obtain ⟨g7, o7, rfl, hg7, hc7⟩ := Sl.of_own hown7 (by simp)
    have hs7 : w7.cell? ⟨g7, o7, none⟩ = some (.string (Md.note k)) := by simpa using hc7 0 (by simp)
    have HS7 := Lib.hid hs7
    have HB7 := Lib.hid hb7
    clear hown7 hc7 hb7 hs7
    go_wp2_with fail
    refine (HCO.out w7 HB7.out).mono ?_
    rintro e w8 ⟨rfl, hb8⟩
    have HB8 := Lib.hid (HB7.out.trans (hb8.mono HB7.out.size))
    have HS8 := Lib.hid (((bcell hb8).1 _ _ hg7).trans HS7.out)
    have hg8 := Nat.lt_of_lt_of_le hg7 hb8.size
    clear hb8
    go_wp2_with fail
    refine (HLI.out w8 HB8.out).mono ?_
    rintro e w9 ⟨rfl, hb9⟩
    have s9 := ((bcell hb9).1 _ _ hg8).trans HS8.out
    have hg9 := Nat.lt_of_lt_of_le hg8 hb9.size
    have HB9 := Lib.hid (HB6.out.trans ((HB8.out.trans (hb9.mono HB8.out.size)).mono HB6.out.size))
    clear hb9
    go_wp2_with fail
    go_ret
    exact ⟨ret_bool (by simp), HB9.out⟩
theorem Md.checks_any (w : World) (A : Option Addr) (n c : Nat) (XA : Option Addr) (xn xc : Nat) (l : List Rw.Row) (zs : List Int) (hI : Rw.IsRows w A n c l) (hR : IsRow .i64 w XA xn xc zs) (hL : F.LaidE w) :
    Calls Tryd.prog 4 #[.agg #[.slice A n c, .slice XA xn xc]] w fun e w' => e = .returned (.bool true) ∧ Below w.heap.size w w' := by
  obtain ⟨ads, hads, hlen, hlc, hcm, hS, hSm, hbd⟩ := hI
  obtain ⟨q1, q2, q3⟩ := hR.len_le
  exact Md.checks_row A XA n c xn xc l (zs.take xn) w hlen (by rw [List.length_take]; omega) (by omega) (by omega) hbd ⟨ads, hads, hS, hSm⟩ (hR.sl xn (Nat.le_refl _)) hL
end Go.Proofs.YtamcpdggpdaioaaDoor

/- What the rows' list gives: errors' type 'error'; and a world that meets the list. -/
namespace Go.Proofs.YtamcpdggpdaioaaDoor
open Go.ChangeShapes Go.WideShapes Go.ChangeAt Go.RowKit
set_option linter.unusedVariables false
set_option linter.unusedSimpArgs false

theorem F.gType : Tryd.prog.globalNamed "errors.errorType" = some 0 := by kernel_rfl
theorem F.rtype : (Tryd.prog.cutTypes.find? (·.1 == "internal/reflectlite.rtype")).map (·.2) = some 112 := by kernel_rfl
theorem F.oneRow : ((List.range 176).filter fun t => Tryd.prog.rowNamed t [101, 114, 114, 111, 114]) = [37] := by kernel_rfl
theorem F.typesSize : Tryd.prog.types.size = 176 := by kernel_rfl
theorem F.laidE_of {W : World} (h : laidMetH Tryd.prog [("errors.errorType", Rows.laid_errors_errorType)] W) : F.LaidE W := by
  have h' : laidMet Tryd.prog [] W ∧ handlesMet Tryd.prog [("errors.errorType", Rows.laid_errors_errorType)] W := h
  obtain ⟨_, hH⟩ := h'
  obtain ⟨name, u, ty, e1, e2, e3, e4, e5⟩ := hH _ (List.mem_singleton.2 rfl)
  have en : name = [101, 114, 114, 111, 114] := (Option.some.inj e1).symm
  subst en
  obtain rfl := Option.some.inj (F.rtype.symm.trans e2)
  have hm : ty ∈ (List.range 176).filter fun t => Tryd.prog.rowNamed t [101, 114, 114, 111, 114] := List.mem_filter.2 ⟨List.mem_range.2 (by rw [← F.typesSize]; exact e3), e4⟩
  rw [F.oneRow] at hm
  obtain rfl := List.mem_singleton.1 hm
  have hh : typeHandle Tryd.prog 37 = .pointer (some ⟨1, 37, none⟩) := by kernel_rfl
  rw [hh] at e5
  simpa [F.LaidE] using World.var?_cell F.gType e5 0

def F.putCells (h : Array Obj) (g : Nat) (cs : Array Value) : Array Obj := h.modify g fun
  | .cells _ t frozen => .cells cs t frozen
  | o => o
noncomputable def laidWorld (os : Os) : World :=
  { World.holding Tryd.prog os ⟨#[], #[], []⟩ with heap := F.putCells (World.holding Tryd.prog os ⟨#[], #[], []⟩).heap 0 #[.iface 112 (.agg #[.pointer (some ⟨1, 37, none⟩)])] }
theorem F.laid_data (os : Os) (args : Array Value) : laidMet Tryd.prog [] ((laidWorld os).forCall (fun _ _ => 0) ⟨#[], args, []⟩).memory :=
  laidMet_of_run' 8 (by kernel_rfl) (by kernel_rfl)
theorem laid_met (os : Os) (args : Array Value) : laidMetH Tryd.prog [("errors.errorType", Rows.laid_errors_errorType)] ((laidWorld os).forCall (fun _ _ => 0) ⟨#[], args, []⟩).memory :=
  laidMetH_of_parts (F.laid_data os args) (by kernel_rfl)
end Go.Proofs.YtamcpdggpdaioaaDoor
