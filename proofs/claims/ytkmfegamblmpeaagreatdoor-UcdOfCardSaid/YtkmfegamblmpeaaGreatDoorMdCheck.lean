/- The layer model: Check, by walking its text. -/
import Derived.Test.YtkmfegamblmpeaaGreatDoorFaCh
import Derived.Test.YtkmfegamblmpeaaGreatDoorCpIsPlain
namespace Go.Proofs.YtkmfegamblmpeaaGreatDoor
open Go.RowKit
set_option linter.unusedSimpArgs false
set_option linter.unusedVariables false

theorem Md.wrong_any (s : ByteArray) (w : World) : Calls Tryz.prog 80 #[.string s] w (F.RetCh [(8, 0, s)] w) := by
  have HA := Lib.hid (F.at_any 8 0 s w)
  rw [if_neg (by decide)] at HA
  go_enter Tryz.func80, Tryz.ntmps80
  go_wp2_with fail
  refine HA.out.mono ?_
  rintro e w1 ⟨q, v, rfl, hl, hq, hb⟩
  go_wp2
  go_ret
  exact ⟨q, v, rfl, hl, hq, hb⟩
def Md.err (k : Nat) : List (Int × Int × ByteArray) := if k = 0 then [] else [(8, 0, Md.note k)]
theorem Md.ret_err {k j : Nat} {W w w' : World} {e : Ending} (hj : k = j) (h0 : j ≠ 0) (h : F.RetCh [(8, 0, Md.note j)] W e w') (hb : Below w.heap.size w W) : F.RetCh (Md.err k) w e w' := by
  subst hj
  unfold Md.err
  rw [if_neg h0]
  obtain ⟨q, v, h1, h2, h3, h4⟩ := h
  exact ⟨q, v, h1, h2, h3, hb.trans (h4.mono hb.size)⟩
theorem Md.ret_nil {k : Nat} {w w' : World} (hk : k = 0) (hb : Below w.heap.size w w') : F.RetCh (Md.err k) w (.returned .nilIface) w' := by
  subst hk
  exact ⟨[], .nilIface, rfl, rfl, rfl, hb⟩
theorem Md.drop_cons {α : Type} {l : List α} {k : Nat} {x : α} (h : l[k]? = some x) : l.drop k = x :: l.drop (k + 1) := by
  obtain ⟨h1, rfl⟩ := List.getElem?_eq_some_iff.1 h
  exact List.drop_eq_getElem_cons h1

theorem Md.wf32 {x : Int} (h1 : -2147483648 ≤ x) (h2 : x ≤ 2147483647) : (Lit.int .i32 x).wf = true := by
  simp only [Lit.wf, Bool.and_eq_true, decide_eq_true_eq]
  exact ⟨Int.le_trans (by decide) h1, Int.le_trans h2 (by decide)⟩
/-- Two characters as a key. -/
def Md.pk (x y : Int) : Value := .agg #[.int .i32 x, .int .i32 y]
theorem Md.pk_inj {x y x' y' : Int} : Md.pk x y = Md.pk x' y' ↔ x = x' ∧ y = y' := by simp [Md.pk]
theorem Md.pairKey : Go.WideMaps.ArrKey Tryz.prog 147 21 2 := ⟨Tryz.underlying147, by kernel_rfl, by kernel_rfl, by kernel_rfl⟩
theorem Md.keyed : Go.Maps.Keyed Tryz.prog 147 := Go.Maps.Keyed.of_law Md.pairKey.law
theorem Md.pk_key {x y : Int} (hx : -2147483648 ≤ x ∧ x ≤ 2147483647) (hy : -2147483648 ≤ y ∧ y ≤ 2147483647) : ∃ l, keyOf Tryz.prog 147 (Md.pk x y) = some l := by
  refine Mp.keyArr Md.pairKey Tryz.underlying21 ⟨316 - 1, by kernel_rfl⟩ [x, y] rfl fun z hz => ?_
  simp only [List.mem_cons, List.not_mem_nil, or_false] at hz
  rcases hz with rfl | rfl
  · exact Md.wf32 hx.1 hx.2
  · exact Md.wf32 hy.1 hy.2
/-- The pairs that have been met. -/
def Md.Seen (F : Value → Option Value) (seen : List (List Int)) : Prop := ∀ x y, (F (Md.pk x y)).isSome = seen.contains [x, y]
theorem Md.Seen.look {w : World} {b : Nat} {F : Value → Option Value} {seen : List (List Int)} (h : Mp.Is Tryz.prog 147 w b F) (hs : Md.Seen F seen) {x y : Int} (hx : -2147483648 ≤ x ∧ x ≤ 2147483647) (hy : -2147483648 ≤ y ∧ y ≤ 2147483647) :
    ∃ v, (Instr.lookup 145 (.map (some b)) (.agg #[.int .i32 x, .int .i32 y]) true).run Tryz.prog w = .ok (.tuple #[v, .bool (seen.contains [x, y])]) w := by
  obtain ⟨l, hl⟩ := Md.pk_key hx hy
  have hz : (zeroValue 21).run Tryz.prog w = .ok (.int .i32 0) w := by kernel_rfl
  have := h.look Md.keyed Tryz.underlying145 hz hl true
  rw [if_pos rfl, hs x y] at this
  exact ⟨_, this⟩
theorem Md.Seen.put {w : World} {b : Nat} {F : Value → Option Value} {seen : List (List Int)} (h : Mp.Is Tryz.prog 147 w b F) (hs : Md.Seen F seen) {x y : Int} (hx : -2147483648 ≤ x ∧ x ≤ 2147483647) (hy : -2147483648 ≤ y ∧ y ≤ 2147483647) (v : Value) :
    ∃ w' F', (Instr.mapUpdate 145 (.map (some b)) (.agg #[.int .i32 x, .int .i32 y]) v).run Tryz.prog w = .ok () w' ∧ Mp.Is Tryz.prog 147 w' b F' ∧ Md.Seen F' (seen ++ [[x, y]]) ∧ w.grownBy w' (some b) := by
  obtain ⟨l, hl⟩ := Md.pk_key hx hy
  obtain ⟨F', h1, h2⟩ : ∃ F' : Value → Option Value, F' (Md.pk x y) = some v ∧ ∀ z, z ≠ Md.pk x y → F' z = F z := by
    classical
    exact ⟨fun z => if z = Md.pk x y then some v else F z, by simp, fun z hz => by simp [hz]⟩
  obtain ⟨w', g1, g2, g3⟩ := h.put Md.keyed Tryz.underlying145 hl F' h1 h2
  refine ⟨w', F', g1, g2, fun x' y' => ?_, g3⟩
  by_cases e : x' = x ∧ y' = y
  · obtain ⟨rfl, rfl⟩ := e
    rw [h1]
    simp
  · rw [h2 _ (fun e' => e (Md.pk_inj.1 e')), hs x' y']
    simp
    intro e1 e2
    exact absurd ⟨e1, e2⟩ e
theorem Md.twice_step {T : List Rw.Row} {X : Int → Bool} {seen : List (List Int)} {r : Rw.Row} {l : List Rw.Row} {a : Bool} (h : a = Md.twice T X seen (r :: l)) :
    a = if Md.comp T X r = true then (seen.contains r.2.2 || Md.twice T X (seen ++ [r.2.2]) l) else Md.twice T X seen l := by rw [h, Md.twice]

set_option maxRecDepth 100000 in
set_option maxHeartbeats 4000000 in
theorem Md.check_any (v : Value) (T : List Rw.Row) (S : List Int) (w : World) (hTn : T.length ≤ 1000000) (hbd : Md.bd T) (hml : ∀ r ∈ T, r.2.2.length ≤ 1000000) (h : Md.Is w v T S) (hS : C.srt S) (hSn : S.length ≤ 1000000) :
    Calls Tryz.prog 51 #[v] w (F.RetCh (Md.err (Md.chk T (C.mem S))) w) := by
  obtain ⟨A, c, XA, xc, rfl, h2, hX⟩ := id h
  obtain ⟨xn, hxn⟩ : ∃ k, S.length = k := ⟨_, rfl⟩
  obtain ⟨n, hn⟩ : ∃ k, T.length = k := ⟨_, rfl⟩
  have HIS := Lib.hid h
  rw [hn, hxn] at HIS ⊢
  obtain ⟨res, hres⟩ : ∃ k, Md.chk T (C.mem S) = k := ⟨_, rfl⟩
  rw [hres]
  rw [hn] at hTn
  have hba : Below w.heap.size w (w.alloc (.cells #[.slice A n c, .slice XA xn xc] 50)) := (Below.refl _ _).alloc (Nat.le_refl _) _
  have hat : Rw.At (w.alloc (.cells #[.slice A n c, .slice XA xn xc] 50)) w.heap.size 50 [.slice A n c, .slice XA xn xc] := Rw.At.new w 50 [.slice A n c, .slice XA xn xc]
  obtain ⟨wa, hwa⟩ : ∃ wa, w.alloc (.cells #[.slice A n c, .slice XA xn xc] 50) = wa := ⟨_, rfl⟩
  rw [hwa] at hba hat
  have hsee := h2.below hba
  have z0 := hat.cell 0 rfl
  have z1 := hat.cell 1 rfl
  have HWA := Lib.hid hwa
  have HBA := Lib.hid hba
  have HAT := Lib.hid hat
  have HSEE := Lib.hid hsee
  have HN := Lib.hid hn
  have HXN := Lib.hid hxn
  have HRES := Lib.hid hres
  have HBD := Lib.hid hbd
  have HML := Lib.hid hml
  have HSS := Lib.hid hS
  clear hwa hba hat hsee hn hxn hres hbd hml h h2 hX hS
  unfold Md.tv at *
  go_enter Tryz.func51, Tryz.ntmps51
  go_upto_region 1 with (fail)
  rw [HWA.out]
  go_wp2_with fail
  go_loopw [3, 20] (fun v3 i wr => ∃ (k : Nat) (last : Int), k ≤ n ∧ i = .int .i64 k ∧ v3 = .int .i32 last ∧ (-2147483648 ≤ last ∧ last ≤ 2147483647) ∧ Md.rowsBad (-1) T = Md.rowsBad last (T.drop k) ∧ Below wa.heap.size wa wr) (fun _ i _ => n - (intOf i).toNat)
  case atStart => exact ⟨0, -1, Nat.zero_le _, rfl, rfl, by omega, rfl, Below.refl _ _⟩
  case round =>
    obtain ⟨k, last, hk, rfl, rfl, hlast, hrb, hbel⟩ := hrel
    have hatr := HAT.out.below hbel
    have z0 := hatr.cell 0 rfl
    have z1 := hatr.cell 1 rfl
    have HRB := Lib.hid hrb
    have HBEL := Lib.hid hbel
    have HATR := Lib.hid hatr
    clear hrb hatr
    by_cases hlt : k < n
    · obtain ⟨r, hr⟩ : ∃ r, T[k]? = some r := ⟨_, List.getElem?_eq_getElem (by rw [HN.out]; exact hlt)⟩
      have hrm := List.mem_of_getElem? hr
      have hrb := HBD.out r hrm
      obtain ⟨b, o, a, hA1, hb, c0, c1, c2, hsl⟩ := (HSEE.out.below hbel).row hr
      have hbn : Below wr.heap.size wr (wr.alloc (.cells #[.int .i32 r.1, .int .i64 r.2.1, .slice a.1 r.2.2.length a.2] 99)) := (Below.refl _ _).alloc (Nat.le_refl _) _
      have HROW := Lib.hid (Md.row_any r a.1 a.2 last (wr.alloc (.cells #[.int .i32 r.1, .int .i64 r.2.1, .slice a.1 r.2.2.length a.2] 99)) hrb.1 hlast hrb.2 (HML.out r hrm) (hsl.below hbn hbn.size))
      have hatn := Rw.At.new wr 99 [.int .i32 r.1, .int .i64 r.2.1, .slice a.1 r.2.2.length a.2]
      have HATN := Lib.hid hatn
      have HBN := Lib.hid (hbel.trans (hbn.mono hbel.size))
      have hd := Md.drop_cons hr
      have hrbk := HRB.out
      rw [hd, Md.rowsBad] at hrbk
      have hble := Md.bad_le last r
      obtain ⟨bd, hbd⟩ : ∃ k, Md.bad last r = k := ⟨_, rfl⟩
      rw [hbd] at hrbk HROW hble
      have HRBK := Lib.hid hrbk
      have hkI : (k : Int) < n := by omega
      have hk0 : (0 : Int) ≤ k := by omega
      subst hA1
      unfold Md.rv at HROW
      have r32a := hrb.1.1
      have r32b := hrb.1.2
      clear hr hrm hrb hsl hbn hatn hd hrbk hbd hbel
      go_wp2_with fail
      refine HROW.out.mono ?_
      rintro e w1 ⟨rfl, hb1⟩
      have hatn1 := HATN.out.below hb1
      obtain ⟨y0, y1, y2, _, _, _⟩ := hatn1.three
      have HB1 := Lib.hid (HBN.out.trans (hb1.mono HBN.out.size))
      have hltn := hatn1.lt
      clear hb1 c0 c1 c2 z0 z1
      rcases bd with _ | _ | _ | _ | bd
      · have hem : (Md.note 0).toList.isEmpty = true := by kernel_rfl
        have hrest : Md.rowsBad (-1) T = Md.rowsBad r.1 (T.drop (k + 1)) := by rw [HRBK.out]; rfl
        have HREST := Lib.hid hrest
        clear hrest
        go_wp2_with fail
        exact ⟨⟨k + 1, r.1, by omega, by go_num, rfl, ⟨r32a, r32b⟩, HREST.out, HB1.out⟩, by simp [intOf]; omega⟩
      · have hem : (Md.note 1).toList.isEmpty = false := by kernel_rfl
        have hr1 : res = 1 := by rw [← HRES.out]; unfold Md.chk; rw [HRBK.out]; rfl
        have HR1 := Lib.hid hr1
        clear hr1
        go_wp2_with fail
        refine (Md.wrong_any _ _).mono ?_
        rintro e w2 ⟨q, v, rfl, g1, g2, g3⟩
        go_wp2_with fail
        go_ret
        exact Md.ret_err HR1.out (by decide) ⟨q, v, rfl, g1, g2, g3⟩ (HBA.out.trans (HB1.out.mono HBA.out.size))
      · have hem : (Md.note 2).toList.isEmpty = false := by kernel_rfl
        have hr1 : res = 2 := by rw [← HRES.out]; unfold Md.chk; rw [HRBK.out]; rfl
        have HR1 := Lib.hid hr1
        clear hr1
        go_wp2_with fail
        refine (Md.wrong_any _ _).mono ?_
        rintro e w2 ⟨q, v, rfl, g1, g2, g3⟩
        go_wp2_with fail
        go_ret
        exact Md.ret_err HR1.out (by decide) ⟨q, v, rfl, g1, g2, g3⟩ (HBA.out.trans (HB1.out.mono HBA.out.size))
      · have hem : (Md.note 3).toList.isEmpty = false := by kernel_rfl
        have hr1 : res = 3 := by rw [← HRES.out]; unfold Md.chk; rw [HRBK.out]; rfl
        have HR1 := Lib.hid hr1
        clear hr1
        go_wp2_with fail
        refine (Md.wrong_any _ _).mono ?_
        rintro e w2 ⟨q, v, rfl, g1, g2, g3⟩
        go_wp2_with fail
        go_ret
        exact Md.ret_err HR1.out (by decide) ⟨q, v, rfl, g1, g2, g3⟩ (HBA.out.trans (HB1.out.mono HBA.out.size))
      · omega
    · obtain rfl : n = k := by omega
      have hz : Md.rowsBad (-1) T = 0 := by
        rw [HRB.out, List.drop_eq_nil_of_le (by rw [HN.out]; exact Nat.le_refl _)]
        rfl
      obtain ⟨hgood, hrise⟩ := Md.rowsBad_zero T (-1) hz
      have hok : Md.Ok T := ⟨by rw [HN.out]; exact hTn, hrise, HBD.out, HML.out⟩
      have HZ := Lib.hid hz
      have HOK := Lib.hid hok
      obtain ⟨wb, rfl⟩ : ∃ wb : World, wb = wr := ⟨_, rfl⟩
      have hfe : ∀ c, Md.exp (Md.mp T) (T.length + 3) [] c = Md.full T c := fun _ => rfl
      have HFE := Lib.hid hfe
      clear hz hgood hrise hok hfe hlt
      go_wp2_with fail
      go_loopw [37] (fun i wr => ∃ k : Nat, k ≤ n ∧ i = .int .i64 k ∧ (∀ r ∈ T.take k, (Md.full T r.1).isSome = true) ∧ Below wb.heap.size wb wr) (fun i _ => n - (intOf i).toNat)
      case atStart => exact ⟨0, Nat.zero_le _, rfl, fun r hr => by simp at hr, Below.refl _ _⟩
      case round =>
        obtain ⟨k, hk, rfl, hful, hbel2⟩ := hrel
        have hatr := HATR.out.below hbel2
        have y0 := hatr.cell 0 rfl
        have y1 := hatr.cell 1 rfl
        have HFUL := Lib.hid hful
        have hbel3 := HBEL.out.trans (hbel2.mono HBEL.out.size)
        have HBEL3 := Lib.hid hbel3
        have HATR2 := Lib.hid hatr
        have HBEL2 := Lib.hid hbel2
        have hlt0 := hatr.lt
        clear hful hatr hbel2 z0 z1
        by_cases hlt : k < n
        · obtain ⟨r, hr⟩ : ∃ r, T[k]? = some r := ⟨_, List.getElem?_eq_getElem (by rw [HN.out]; exact hlt)⟩
          have hrm := List.mem_of_getElem? hr
          have hrb := HBD.out r hrm
          obtain ⟨b, o, a, hA1, hb, c0, c1, c2, hsl⟩ := (HSEE.out.below hbel3).row hr
          have hbn : Below wr.heap.size wr (wr.alloc (.cells #[.int .i32 r.1, .int .i64 r.2.1, .slice a.1 r.2.2.length a.2] 99)) := (Below.refl _ _).alloc (Nat.le_refl _) _
          have hB0 := HBEL3.out.trans (hbn.mono HBEL3.out.size)
          have hE := Md.exp_any T S (wr.alloc (.cells #[.int .i32 r.1, .int .i64 r.2.1, .slice a.1 r.2.2.length a.2] 99)) _ HOK.out (HIS.out.below (HBA.out.trans (hB0.mono HBA.out.size))) (T.length + 3) [] (.slice none 0 0) r.1 0 _ (by omega) hrb.1.1 hrb.1.2 (by simp) (Below.refl _ _) (World.ownsRow_nil _ _ _ _)
          rw [HFE.out] at hE
          have hB0' := Lib.hid hB0
          have HBW := Lib.hid (HBEL2.out.trans (hbn.mono HBEL2.out.size))
          have hatn := Rw.At.new wr 99 [.int .i32 r.1, .int .i64 r.2.1, .slice a.1 r.2.2.length a.2]
          obtain ⟨x0, x1, x2, _, _, _⟩ := hatn.three
          have hkI : (k : Int) < n := by omega
          have hk0 : (0 : Int) ≤ k := by omega
          obtain ⟨fo, hfo⟩ : ∃ fo, Md.full T r.1 = fo := ⟨_, rfl⟩
          rw [hfo] at hE
          have HFO := Lib.hid hfo
          have HR := Lib.hid hr
          have HRM := Lib.hid hrm
          subst hA1
          clear hr hrm hrb hsl hbn hB0 hatn hfo
          go_wp2_with fail
          refine hE.mono ?_
          rintro e w2 ⟨A1, n1, c1', rfl, _, hg⟩
          have hb4 := HBW.out.trans (Rw.below_grown hg HBW.out.size fun k hk => by cases hk)
          have HB4 := Lib.hid hb4
          have HB2 := Lib.hid (hB0'.out.trans (Rw.below_grown hg hB0'.out.size fun k hk => by cases hk))
          clear hb4 hg hE x0 x1 x2 y0 y1 c0 c1 c2
          rcases fo with _ | fl
          · have hr1 : res = 4 := by
              rw [← HRES.out]
              unfold Md.chk
              have : Md.fullBad T = true := by
                unfold Md.fullBad
                rw [List.any_eq_true]
                exact ⟨r, HRM.out, by rw [HFO.out]; rfl⟩
              rw [if_neg (by rw [HZ.out]; simp), if_pos this]
            have HR1 := Lib.hid hr1
            clear hr1
            go_wp2_with fail
            refine (Md.wrong_any _ _).mono ?_
            rintro e w3 ⟨q, v, rfl, g1, g2, g3⟩
            go_wp2_with fail
            go_ret
            exact Md.ret_err HR1.out (by decide) ⟨q, v, rfl, g1, g2, g3⟩ (HBA.out.trans (HB2.out.mono HBA.out.size))
          · have hful : ∀ r ∈ T.take (k + 1), (Md.full T r.1).isSome = true := by
              rw [List.take_add_one, HR.out]
              intro q hq
              rcases List.mem_append.1 hq with hq | hq
              · exact HFUL.out q hq
              · simp at hq
                subst hq
                rw [HFO.out]
                rfl
            have HFUL2 := Lib.hid hful
            clear hful
            go_wp2_with fail
            exact ⟨⟨k + 1, by omega, by go_num, HFUL2.out, HB4.out⟩, by simp [intOf]; omega⟩
        · obtain rfl : n = k := by omega
          have hfb : Md.fullBad T = false := by
            unfold Md.fullBad
            rw [List.any_eq_false]
            intro r hr
            have := HFUL.out r (by rw [List.take_of_length_le (by rw [HN.out]; exact Nat.le_refl _)]; exact hr)
            cases hf : Md.full T r.1 with
            | none => rw [hf] at this; cases this
            | some l => simp
          have hrt : res = if Md.twice T (C.mem S) [] T = true then 5 else 0 := by
            rw [← HRES.out]
            unfold Md.chk
            rw [if_neg (by rw [HZ.out]; simp), if_neg (by rw [hfb]; simp)]
          have HRT := Lib.hid hrt
          obtain ⟨wz, rfl⟩ : ∃ wz : World, wz = wr := ⟨_, rfl⟩
          clear hfb hrt hlt HFUL
          have hmm := @run_makeMap Tryz.prog
          have hmade := Mp.Is.made wz Tryz.prog 147
          have hbm : Below wz.heap.size wz (wz.alloc (.map #[] 0)) := (Below.refl _ _).alloc (Nat.le_refl _) _
          have hatm := HATR2.out.alloc (.map #[] 0)
          have w0 := hatm.cell 0 rfl
          have w1 := hatm.cell 1 rfl
          obtain ⟨wm, hwm⟩ : ∃ wm, wz.alloc (.map #[] 0) = wm := ⟨_, rfl⟩
          rw [hwm] at hmade hbm w0 w1
          have HWM := Lib.hid hwm
          have HMADE := Lib.hid hmade
          have HBM := Lib.hid hbm
          clear hmade hbm hatm hwm
          go_upto_region 18 with (fail)
          rw [HWM.out]
          go_wp2_with fail
          go_loopw [56] (fun i wr => ∃ (k : Nat) (F : Value → Option Value), k ≤ n ∧ i = .int .i64 k ∧ Md.twice T (C.mem S) [] T = Md.twice T (C.mem S) (((T.take k).filter (Md.comp T (C.mem S))).map fun r => r.2.2) (T.drop k) ∧ Mp.Is Tryz.prog 147 wr wz.heap.size F ∧ Md.Seen F (((T.take k).filter (Md.comp T (C.mem S))).map fun r => r.2.2) ∧ Below wz.heap.size wz wr) (fun i _ => n - (intOf i).toNat)
          case atStart => exact ⟨0, fun _ => none, Nat.zero_le _, rfl, rfl, HMADE.out, fun x y => rfl, HBM.out⟩
          case round =>
            obtain ⟨k, F, hk, rfl, htw, hmap, hseen, hbel4⟩ := hrel
            have hatr := HATR2.out.below hbel4
            have y0 := hatr.cell 0 rfl
            have y1 := hatr.cell 1 rfl
            have HTW := Lib.hid htw
            have HMAP := Lib.hid hmap
            have HSEEN := Lib.hid hseen
            have hbel5 := HBEL3.out.trans (hbel4.mono HBEL3.out.size)
            have HBEL4 := Lib.hid hbel4
            have HBEL5 := Lib.hid hbel5
            have hltr := hatr.lt
            have hltm := hmap.lt
            clear htw hmap hseen hatr hbel4 w0 w1
            obtain ⟨seen, hse⟩ : ∃ seen, (((T.take k).filter (Md.comp T (C.mem S))).map fun r => r.2.2) = seen := ⟨_, rfl⟩
            rw [hse] at HTW HSEEN
            have HSE := Lib.hid hse
            clear hse
            by_cases hlt : k < n
            · obtain ⟨r, hr⟩ : ∃ r, T[k]? = some r := ⟨_, List.getElem?_eq_getElem (by rw [HN.out]; exact hlt)⟩
              have hrm := List.mem_of_getElem? hr
              have hrb := HBD.out r hrm
              obtain ⟨b, o, a, hA1, hb, c0, c1, c2, hsl⟩ := (HSEE.out.below hbel5).row hr
              have hbn : Below wr.heap.size wr (wr.alloc (.cells #[.int .i32 r.1, .int .i64 r.2.1, .slice a.1 r.2.2.length a.2] 99)) := (Below.refl _ _).alloc (Nat.le_refl _) _
              have hB0 := HBEL5.out.trans (hbn.mono HBEL5.out.size)
              have hC := Md.comp_any _ T S r a.1 a.2 (wr.alloc (.cells #[.int .i32 r.1, .int .i64 r.2.1, .slice a.1 r.2.2.length a.2] 99)) HOK.out (HIS.out.below (HBA.out.trans (hB0.mono HBA.out.size))) HSS.out hSn hrb.1 hrb.2 (HML.out r hrm) (hsl.below hbn hbn.size)
              have HBN := Lib.hid hbn
              have hatn := Rw.At.new wr 99 [.int .i32 r.1, .int .i64 r.2.1, .slice a.1 r.2.2.length a.2]
              obtain ⟨x0, x1, x2, _, _, _⟩ := hatn.three
              have HATN := Lib.hid hatn
              have hkI : (k : Int) < n := by omega
              have hk0 : (0 : Int) ≤ k := by omega
              have htw := HTW.out
              rw [Md.drop_cons hr] at htw
              have HST := Lib.hid (Md.twice_step htw)
              have hfs : (((T.take (k + 1)).filter (Md.comp T (C.mem S))).map fun r => r.2.2) = if Md.comp T (C.mem S) r = true then seen ++ [r.2.2] else seen := by
                rw [List.take_add_one, hr, List.filter_append, List.map_append, HSE.out]
                by_cases hc : Md.comp T (C.mem S) r = true
                · simp [hc]
                · simp [hc]
              have HFS := Lib.hid hfs
              have hc2 : Md.comp T (C.mem S) r = true → ∃ x y, r.2.2 = [x, y] := by
                intro hc
                unfold Md.comp at hc
                simp only [Bool.and_eq_true, decide_eq_true_eq] at hc
                have h2 := hc.2.1
                match hh : r.2.2, h2 with
                | [x, y], _ => exact ⟨x, y, rfl⟩
              have HC2 := Lib.hid hc2
              obtain ⟨cr, hcr⟩ : ∃ cr, Md.comp T (C.mem S) r = cr := ⟨_, rfl⟩
              rw [hcr] at hC HST HFS HC2
              have HRB := Lib.hid hrb
              have HSL := Lib.hid hsl
              subst hA1
              unfold Md.rv at hC
              clear hr hrm hrb hsl hbn hB0 hatn htw hfs hc2 hcr
              go_wp2_with fail
              refine hC.mono ?_
              rintro e w2 ⟨rfl, hb2⟩
              have hb2' := HBN.out.trans (hb2.mono HBN.out.size)
              have HB2 := Lib.hid hb2'
              have hatn2 := HATN.out.below hb2
              obtain ⟨x0, x1, x2, _, _, _⟩ := hatn2.three
              have HATN2 := Lib.hid hatn2
              have hlt2 := hatn2.lt
              clear hb2 hb2' hatn2 hC y0 y1 c0 c1 c2
              cases cr
              · have htw2 := HST.out
                rw [if_neg (by decide)] at htw2
                have hfs2 := HFS.out
                rw [if_neg (by decide)] at hfs2
                have HT2 := Lib.hid htw2
                have HF2 := Lib.hid hfs2
                clear htw2 hfs2
                go_wp2_with fail
                exact ⟨⟨k + 1, F, by omega, by go_num, by rw [HF2.out]; exact HT2.out, HMAP.out.below HB2.out, by rw [HF2.out]; exact HSEEN.out, HBEL4.out.trans (HB2.out.mono HBEL4.out.size)⟩, by simp [intOf]; omega⟩
              · obtain ⟨x, y, hxy⟩ := HC2.out rfl
                have hlen : r.2.2.length = 2 := by rw [hxy]; rfl
                have hxb := HRB.out.2 x (by rw [hxy]; simp)
                have hyb := HRB.out.2 y (by rw [hxy]; simp)
                have hsl2 := HSL.out.below HB2.out HB2.out.size
                rw [hxy] at hsl2
                obtain ⟨ab, ao, hA2, hab, hac⟩ := hsl2 (by simp)
                have d0 : w2.cell? ⟨ab, ao, none⟩ = some (.int .i32 x) := by simpa using hac 0 (by simp)
                have d1 : w2.cell? ⟨ab, ao + 1, none⟩ = some (.int .i32 y) := by simpa using hac 1 (by simp)
                rw [hA2, hlen] at x2
                rw [hxy] at HST HFS
                rw [if_pos rfl] at HST HFS
                have HXY := Lib.hid hxy
                clear hac hsl2 hxy
                have harr : ∀ (A : Option Addr) (cp : Nat) (W : World), (Instr.arrayAt 147 (.slice A 2 cp)).run Tryz.prog W = .ok (.pointer A) W := fun _ _ _ => by kernel_rfl
                have hbx : Below w2.heap.size w2 (w2.alloc (.cells #[.int .i32 x, .int .i32 y] 147)) := (Below.refl _ _).alloc (Nat.le_refl _) _
                have hmx := (HMAP.out.below HB2.out).below hbx
                obtain ⟨lv, hlk⟩ := Md.Seen.look hmx HSEEN.out hxb hyb
                obtain ⟨w4, F', hput, hm4, hs4, hg4⟩ := Md.Seen.put hmx HSEEN.out hxb hyb (.int .i32 r.1)
                have hB4 : Below wz.heap.size wz (w2.alloc (.cells #[.int .i32 x, .int .i32 y] 147)) := HBEL4.out.trans ((HB2.out.trans (hbx.mono HB2.out.size)).mono HBEL4.out.size)
                have HB4 := Lib.hid (hB4.trans (Rw.below_grown hg4 hB4.size fun k hk => by cases hk; exact Nat.le_refl _))
                have HB3 := Lib.hid hB4
                have HM4 := Lib.hid hm4
                have HS4 := Lib.hid hs4
                obtain ⟨tw, htwc⟩ : ∃ tw, seen.contains [x, y] = tw := ⟨_, rfl⟩
                rw [htwc] at hlk HST
                clear hbx hmx hm4 hs4 hg4 hB4 htwc
                cases tw
                · have hst2 := HST.out
                  rw [Bool.false_or] at hst2
                  have HST2 := Lib.hid hst2
                  clear hst2
                  go_wp2_with fail
                  exact ⟨⟨k + 1, F', by omega, by go_num, by rw [HFS.out]; exact HST2.out, HM4.out, by rw [HFS.out]; exact HS4.out, HB4.out⟩, by simp [intOf]; omega⟩
                · have hst2 := HST.out
                  rw [Bool.true_or] at hst2
                  have hr1 : res = 5 := by rw [HRT.out, if_pos hst2]
                  have HR1 := Lib.hid hr1
                  clear hst2 hr1 hput
                  go_wp2_with fail
                  refine (Md.wrong_any _ _).mono ?_
                  rintro e w3 ⟨q, v, rfl, g1, g2, g3⟩
                  go_wp2_with fail
                  go_ret
                  exact Md.ret_err HR1.out (by decide) ⟨q, v, rfl, g1, g2, g3⟩ (HBA.out.trans ((HBEL3.out.trans (HB3.out.mono HBEL3.out.size)).mono HBA.out.size))
            · obtain rfl : n = k := by omega
              have hrt : res = 0 := by
                rw [HRT.out, HTW.out, List.drop_eq_nil_of_le (by rw [HN.out]; exact Nat.le_refl _)]
                rfl
              have HRT0 := Lib.hid hrt
              clear hrt hlt
              go_wp2_with fail
              go_ret
              exact Md.ret_nil HRT0.out (HBA.out.trans (HBEL5.out.mono HBA.out.size))
end Go.Proofs.YtkmfegamblmpeaaGreatDoor
