/- The document's layer model: Check, by walking its text. -/
import Derived.Test.YtkmfegamblmpeaaGreatDoorMdRef5
import Derived.Test.YtkmfegamblmpeaaGreatDoorMdCheck
import Derived.Test.YtkmfegamblmpeaaGreatDoorRwOpen
import Derived.Test.YtkmfegamblmpeaaGreatDoorCpUtf
import Derived.BigQuiet
import Derived.Deep.QuietTactic
namespace Go.Proofs.YtkmfegamblmpeaaGreatDoor
open Go.RowKit
set_option linter.unusedSimpArgs false
set_option linter.unusedVariables false

theorem Md.own_lit (w : World) (e : TypeId) (u : Value) : (w.alloc (.cells #[u] e)).ownsRow w.heap.size e 1 (.slice (some ⟨w.heap.size, 0, none⟩) 1 1) 1 [u] :=
  ⟨rfl, .inr ⟨w.heap.size, 1, #[u], rfl, Nat.le_refl _, heap_alloc_new w _, Nat.le_refl _, by decide, rfl, rfl⟩⟩
/-- What is wrong with a row, test by test. -/
theorem Md.bad_row {last : Int} {r : Rw.Row} (h : (!C.isC r.1 || decide (r.1 ≤ last) || decide (r.2.1 < 0) || decide (254 < r.2.1) || decide (2 < r.2.2.length)) = true) : Md.bad last r = 1 := by
  unfold Md.bad
  rw [if_pos h]
theorem Md.bad_hangul {last : Int} {r : Rw.Row} {x : Int} {j : Nat} (h : (!C.isC r.1 || decide (r.1 ≤ last) || decide (r.2.1 < 0) || decide (254 < r.2.1) || decide (2 < r.2.2.length)) = false) (hx : (r.1 :: r.2.2)[j]? = some x) (hk : Hg.ofK x ≠ 0) : Md.bad last r = 2 := by
  unfold Md.bad
  rw [if_neg (by rw [h]; decide), if_pos]
  rw [List.any_eq_true]
  exact ⟨x, List.mem_of_getElem? hx, by simpa using hk⟩
theorem Md.bad_target {last : Int} {r : Rw.Row} {x : Int} {j : Nat} (h : (!C.isC r.1 || decide (r.1 ≤ last) || decide (r.2.1 < 0) || decide (254 < r.2.1) || decide (2 < r.2.2.length)) = false) (h2 : ∀ x ∈ r.1 :: r.2.2, Hg.ofK x = 0) (hx : r.2.2[j]? = some x) (hk : C.isC x = false) : Md.bad last r = 3 := by
  unfold Md.bad
  rw [if_neg (by rw [h]; decide), if_neg, if_pos]
  · rw [List.any_eq_true]
    exact ⟨x, List.mem_of_getElem? hx, by rw [hk]; rfl⟩
  · rw [List.any_eq_true]
    rintro ⟨y, hy, hyk⟩
    rw [decide_eq_true_eq] at hyk
    exact hyk (h2 y hy)
theorem Md.bad_none {last : Int} {r : Rw.Row} (h : (!C.isC r.1 || decide (r.1 ≤ last) || decide (r.2.1 < 0) || decide (254 < r.2.1) || decide (2 < r.2.2.length)) = false) (h2 : ∀ x ∈ r.1 :: r.2.2, Hg.ofK x = 0) (h3 : ∀ x ∈ r.2.2, C.isC x = true) : Md.bad last r = 0 := by
  unfold Md.bad
  rw [if_neg (by rw [h]; decide), if_neg, if_neg]
  · rw [List.any_eq_true]
    rintro ⟨y, hy, hyk⟩
    rw [h3 y hy] at hyk
    cases hyk
  · rw [List.any_eq_true]
    rintro ⟨y, hy, hyk⟩
    rw [decide_eq_true_eq] at hyk
    exact hyk (h2 y hy)
theorem Md.ofK_nn (c : Int) : 0 ≤ Hg.ofK c := by
  unfold Hg.ofK
  repeat' split
  all_goals decide
theorem Md.all_succ {l : List Int} {P : Int → Prop} {k : Nat} {x : Int} (hx : l[k]? = some x) (h : ∀ y ∈ l.take k, P y) (hp : P x) : ∀ y ∈ l.take (k + 1), P y := by
  rw [List.take_add_one, hx]
  intro y hy
  rcases List.mem_append.1 hy with hy | hy
  · exact h y hy
  · simp at hy
    subst hy
    exact hp

set_option maxRecDepth 100000 in
set_option maxHeartbeats 8000000 in
theorem Md.rcheck_any (v : Value) (T : List Rw.Row) (E : List Int) (w : World) (hTn : T.length ≤ 100000) (hEn : E.length ≤ 1000000) (hbd : Md.bd T) (hml : ∀ r ∈ T, r.2.2.length ≤ 1000) (hcl : ∀ r ∈ T, -9223372036854775808 ≤ r.2.1 ∧ r.2.1 ≤ 9223372036854775807) (h : Md.Doc w v T E) (hcap : ∀ A n c x, v = .agg #[.slice A n c, x] → n ≤ c) :
    Calls Tryz.prog 24 #[v] w fun e w' => e = .returned (.string (Md.note (Md.chk T (Md.xs E)))) ∧ Below w.heap.size w w' := by
  obtain ⟨i0, hi0, iz0, iz1, iz2⟩ := info_parts infoInt
  have HDOC := Lib.hid h
  obtain ⟨A, c, XA, xc, rfl, h2, hX⟩ := id h
  have hcap := hcap _ _ _ _ rfl
  obtain ⟨xn, hxn⟩ : ∃ k, E.length = k := ⟨_, rfl⟩
  obtain ⟨n, hn⟩ : ∃ k, T.length = k := ⟨_, rfl⟩
  obtain ⟨res, hres⟩ : ∃ k, Md.chk T (Md.xs E) = k := ⟨_, rfl⟩
  have HFULL : Hid (∀ (d : Int) (W : World), Below w.heap.size w W → -2147483648 ≤ d → d ≤ 2147483647 → Calls Tryz.prog 8 #[.agg #[.slice A n c, .slice XA xn xc], .int .i64 d] W (Md.RetFull (Md.full T d) W)) := Lib.hid fun d W hW a b => by
    have := Md.rfull_any _ T E d W hTn (h.below hW) hbd hml a b
    rw [hn, hxn] at this
    exact this
  have HPRIM : Hid (∀ (d : Int) (W : World), Below w.heap.size w W → -2147483648 ≤ d → d ≤ 2147483647 → Calls Tryz.prog 16 #[.agg #[.slice A n c, .slice XA xn xc], .int .i64 d] W fun e w' => e = .returned (.bool (Md.prim T (Md.xs E) d)) ∧ Below W.heap.size W w') := Lib.hid fun d W hW a b => by
    have := Md.rprim_any _ T E d W hTn hEn (h.below hW) hml a b
    rw [hn, hxn] at this
    exact this
  rw [hn] at hTn hcap
  rw [hn, hxn, hres]
  obtain ⟨wa, hwa⟩ : ∃ wa, w.alloc (.cells #[.slice A n c, .slice XA xn xc] 25) = wa := ⟨_, rfl⟩
  have hba : Below w.heap.size w wa := by rw [← hwa]; exact (Below.refl _ _).alloc (Nat.le_refl _) _
  have hat : Rw.At wa w.heap.size 25 [.slice A n c, .slice XA xn xc] := by rw [← hwa]; exact Rw.At.new w 25 [.slice A n c, .slice XA xn xc]
  have HWA := Lib.hid hwa
  have HBA := Lib.hid hba
  have HAT := Lib.hid hat
  have HSEE := Lib.hid (h2.below hba)
  have HN := Lib.hid hn
  have HRES := Lib.hid hres
  have HBD := Lib.hid hbd
  have HML := Lib.hid hml
  have HCL := Lib.hid hcl
  have z0 := hat.cell 0 rfl
  clear hwa hba hat hn hxn hres hbd hml hcl h h2 hX
  unfold Md.tv at *
  go_enter Tryz.func24, Tryz.ntmps24
  go_upto_region 1 with (fail)
  rw [HWA.out]
  go_wp2_with fail
  go_loopw [3, 21] (fun v3 i wr => ∃ (k : Nat) (last : Int), k ≤ n ∧ i = .int .i64 k ∧ v3 = .int .i64 last ∧ (-2147483648 ≤ last ∧ last ≤ 2147483647) ∧ Md.rowsBad (-1) T = Md.rowsBad last (T.drop k) ∧ Below wa.heap.size wa wr) (fun _ i _ => n - (intOf i).toNat)
  case atStart => exact ⟨0, -1, Nat.zero_le _, rfl, rfl, by omega, rfl, Below.refl _ _⟩
  case round =>
    obtain ⟨k, last, hk, rfl, rfl, hlast, hrb, hbel⟩ := hrel
    have hatr := HAT.out.below hbel
    have z0 := hatr.cell 0 rfl
    have z1 := hatr.cell 1 rfl
    have HRB := Lib.hid hrb
    have HBEL := Lib.hid hbel
    have HATR := Lib.hid hatr
    clear hrb hatr
    by_cases hlt : k < n
    · obtain ⟨r, hr⟩ : ∃ r, T[k]? = some r := ⟨_, List.getElem?_eq_getElem (by rw [HN.out]; exact hlt)⟩
      have hrm := List.mem_of_getElem? hr
      have hrb := HBD.out r hrm
      have hcr := HCL.out r hrm
      have hmr := HML.out r hrm
      obtain ⟨b, o, a, hA1, hb, c0, c1, c2, hsl⟩ := (HSEE.out.below hbel).row hr
      obtain ⟨ml, hmle⟩ : ∃ k, r.2.2.length = k := ⟨_, rfl⟩
      rw [hmle] at c2 hmr
      have hbn : Below wr.heap.size wr (wr.alloc (.cells #[.int .i64 r.1, .int .i64 r.2.1, .slice a.1 ml a.2] 59)) := (Below.refl _ _).alloc (Nat.le_refl _) _
      have hatn := Rw.At.new wr 59 [.int .i64 r.1, .int .i64 r.2.1, .slice a.1 ml a.2]
      obtain ⟨x0, x1, x2, _, _, _⟩ := hatn.three
      have HSL := Lib.hid (hsl.below hbn (Nat.le_refl _))
      have HBN := Lib.hid (hbel.trans (hbn.mono hbel.size))
      have hd := Md.drop_cons hr
      have hrbk := HRB.out
      rw [hd, Md.rowsBad] at hrbk
      have HRBK := Lib.hid hrbk
      have HRR := Lib.hid hrb
      have HMLE := Lib.hid hmle
      have hkI : (k : Int) < n := by omega
      have hk0 : (0 : Int) ≤ k := by omega
      obtain ⟨r1a, r1b⟩ := hrb.1
      have hret : ∀ j, Md.bad last r = j → j ≠ 0 → res = j := by
        intro j hj h0
        rw [← HRES.out]
        unfold Md.chk
        rw [HRBK.out, hj, if_neg h0, if_pos h0]
      have HRET := Lib.hid hret
      have hIS := Ch.ris_any r.1 (wr.alloc (.cells #[.int .i64 r.1, .int .i64 r.2.1, .slice a.1 ml a.2] 59))
      obtain ⟨ic, hic⟩ : ∃ b, C.isC r.1 = b := ⟨_, rfl⟩
      rw [hic] at hIS
      have HIC := Lib.hid hic
      subst hA1
      clear hr hrm hrb hsl hbn hatn hd hrbk hbel hmle hret hic
      have hfin : ∀ (j : Nat) (W : World) (e : Ending) (w' : World), res = j → e = .returned (.string (Md.note j)) → Below wa.heap.size wa W → W = w' → e = .returned (.string (Md.note res)) ∧ Below w.heap.size w w' := by
        rintro j W e w' rfl rfl hW rfl
        exact ⟨rfl, HBA.out.trans (hW.mono HBA.out.size)⟩
      have HFIN := Lib.hid hfin
      clear hfin
      cases ic
      · have hre := HRET.out 1 (Md.bad_row (by rw [HIC.out, Bool.not_false, Bool.true_or, Bool.true_or, Bool.true_or, Bool.true_or])) (by decide)
        have HRE := Lib.hid hre
        clear hre
        go_wp2_with (first | (go_at_call 59; refine hIS.mono ?_; rintro e w' ⟨rfl, rfl⟩) | fail)
        go_ret
        exact HFIN.out 1 _ _ _ HRE.out rfl HBN.out rfl
      · rcases hb2 : decide (r.1 ≤ last) with _ | _
        · rcases hb3 : decide (r.2.1 < 0) with _ | _
          · rcases hb4 : decide (254 < r.2.1) with _ | _
            · rcases hb5 : decide (2 < (ml : Int)) with _ | _
              · have h5 : decide (2 < r.2.2.length) = false := by rw [HMLE.out]; simp at hb5 ⊢; omega
                have hc1 : (!C.isC r.1 || decide (r.1 ≤ last) || decide (r.2.1 < 0) || decide (254 < r.2.1) || decide (2 < r.2.2.length)) = false := by rw [HIC.out, hb2, hb3, hb4, h5]; rfl
                have HC1 := Lib.hid hc1
                clear hc1 h5
                obtain ⟨wn, hwn⟩ : ∃ wn, (wr.alloc (.cells #[.int .i64 r.1, .int .i64 r.2.1, .slice a.1 ml a.2] 59)).alloc (.cells #[.int .i64 r.1] 3) = wn := ⟨_, rfl⟩
                have hown : wn.ownsRow (wr.heap.size + 1) 3 1 (.slice (some ⟨wr.heap.size + 1, 0, none⟩) 1 1) 1 [.int .i64 r.1] := by
                  have := Md.own_lit (wr.alloc (.cells #[.int .i64 r.1, .int .i64 r.2.1, .slice a.1 ml a.2] 59)) 3 (.int .i64 r.1)
                  rw [World.size_alloc] at this
                  rw [← hwn]; exact this
                have hbw : Below (wr.heap.size + 1) (wr.alloc (.cells #[.int .i64 r.1, .int .i64 r.2.1, .slice a.1 ml a.2] 59)) wn := by rw [← hwn]; exact (Below.refl _ _).alloc (by simp) _
                have hsn := HSL.out.belowN hbw (Nat.le_succ _) (Nat.le_refl _)
                have hatn : Rw.At wn wr.heap.size 59 [.int .i64 r.1, .int .i64 r.2.1, .slice a.1 ml a.2] := by rw [← hwn]; exact (Rw.At.new wr 59 [.int .i64 r.1, .int .i64 r.2.1, .slice a.1 ml a.2]).alloc _
                have hszn : wr.heap.size + 1 ≤ wn.heap.size := hatn.lt
                have HOWN := Lib.hid hown
                have HSN := Lib.hid hsn
                have HATN := Lib.hid hatn
                have HWN := Lib.hid hwn
                have HBW := Lib.hid (HBN.out.trans (hbw.mono (Nat.le_trans HBEL.out.size (Nat.le_succ _))))
                have H1C : Hid (∀ u ∈ r.2.2.map (Value.int .i64), u.oneCell' = true) := Lib.hid (oneCells .i64 _)
                have HML2 : Hid ((r.2.2.map (Value.int .i64)).length = ml * 1) := Lib.hid (by rw [List.length_map, HMLE.out, Nat.mul_one])
                clear hown hbw hsn hatn hwn
                go_wp2_with (first | (go_at_call 59; refine hIS.mono ?_; rintro e w' ⟨rfl, rfl⟩) | (at_builtin; (rw [HWN.out]); refine wpList_appendSl _ rfl _ _ _ rfl (wr.heap.size + 1) 3 i0 _ 1 8 Tryz.underlying23 hi0 iz0 iz1 iz2 rfl (by omega) _ 1 _ rfl HOWN.out _ a.1 ml a.2 (r.2.2.map (Value.int .i64)) rfl HML2.out HSN.out H1C.out (by simp only [maxLen]; omega) (by omega) hszn ?_; intro v1 w4 hown4 hb4 hg4; obtain ⟨A4, c4, rfl⟩ := own_form hown4) | fail)
                have hat4 := HATN.out.below' hb4 (Nat.lt_succ_self _)
                obtain ⟨y0, y1, y2, _, _, _⟩ := hat4.three
                have HS4 := Lib.hid (Sl.of_own hown4)
                have HB4 := Lib.hid (HBW.out.trans (hb4.mono (Nat.le_trans HBEL.out.size (Nat.le_succ _))))
                have HSM := Lib.hid (HSN.out.belowN hb4 (Nat.le_succ _) (Nat.le_refl _))
                obtain ⟨L, hL⟩ : ∃ L, r.1 :: r.2.2 = L := ⟨_, rfl⟩
                have HL := Lib.hid hL
                have hLv : [.int .i64 r.1] ++ r.2.2.map (Value.int .i64) = L.map (Value.int .i64) := by rw [← hL]; rfl
                rw [hLv] at HS4
                have HLN : Hid (L.length = 1 + ml) := Lib.hid (by rw [← hL, List.length_cons, HMLE.out]; omega)
                have HLB : Hid (∀ x ∈ L, -2147483648 ≤ x ∧ x ≤ 2147483647) := Lib.hid (by
                  rw [← hL]
                  intro x hx
                  rcases List.mem_cons.1 hx with rfl | hx
                  · exact HRR.out.1
                  · exact HRR.out.2 x hx)
                clear hat4 hown4 hb4 hg4 hL hLv x0 x1 x2 c0 c1 c2 z0 z1
                go_loop [60] (fun i => ∃ j : Nat, j ≤ 1 + ml ∧ i = .int .i64 j ∧ ∀ x ∈ L.take j, Hg.ofK x = 0) (fun i => 1 + ml - (intOf i).toNat)
                case atStart => exact ⟨0, Nat.zero_le _, rfl, by simp⟩
                case round =>
                  obtain ⟨j, hj, rfl, hall⟩ := hrel
                  have HALL := Lib.hid hall
                  clear hall
                  by_cases hlt2 : j < 1 + ml
                  · obtain ⟨x, hx⟩ : ∃ x, L[j]? = some x := ⟨_, List.getElem?_eq_getElem (by rw [HLN.out]; exact hlt2)⟩
                    obtain ⟨g, go, rfl, hg, hxc, _⟩ := HS4.out.ints hx
                    have hxb := HLB.out x (List.mem_of_getElem? hx)
                    have hK := Hg.kind_any x w4 hxb.1 hxb.2
                    have hnn := Md.ofK_nn x
                    obtain ⟨kx, hkx⟩ : ∃ q, Hg.ofK x = q := ⟨_, rfl⟩
                    rw [hkx] at hK hnn
                    have hjI : (j : Int) < ((1 + ml : Nat) : Int) := by omega
                    have hj0 : (0 : Int) ≤ j := by omega
                    have HX := Lib.hid hx
                    have HKX := Lib.hid hkx
                    have HK := Lib.hid hK
                    clear hx hxb hkx hK
                    rcases hd : decide (0 < kx) with _ | _
                    · have hz : kx = 0 := by simp at hd; omega
                      have HZ := Lib.hid hz
                      clear hz hnn
                      go_wp2_with (first | (go_at_call 60; refine HK.out.mono ?_; rintro e w' ⟨rfl, rfl⟩) | fail)
                      exact ⟨⟨j + 1, by omega, by go_num, Md.all_succ HX.out HALL.out (by rw [HKX.out, HZ.out])⟩, by simp [intOf]; omega⟩
                    · have hz : kx ≠ 0 := by simp at hd; omega
                      have hre := HRET.out 2 (Md.bad_hangul HC1.out (by rw [HL.out]; exact HX.out) (by rw [HKX.out]; exact hz)) (by decide)
                      have HRE := Lib.hid hre
                      clear hz hnn hre
                      go_wp2_with (first | (go_at_call 60; refine HK.out.mono ?_; rintro e w' ⟨rfl, rfl⟩) | fail)
                      go_ret
                      exact HFIN.out 2 _ _ _ HRE.out rfl HB4.out rfl
                  · have hall2 : ∀ x ∈ r.1 :: r.2.2, Hg.ofK x = 0 := by
                      rw [HL.out]
                      intro x hx
                      exact HALL.out x (by rw [List.take_of_length_le (by rw [HLN.out]; omega)]; exact hx)
                    have HALL2 := Lib.hid hall2
                    have hge : ¬ (j : Int) < ((1 + ml : Nat) : Int) := by omega
                    clear hall2 HALL hlt2
                    go_wp2_with fail
                    clear hge
                    go_loop [71] (fun i => ∃ j : Nat, j ≤ ml ∧ i = .int .i64 j ∧ ∀ x ∈ r.2.2.take j, C.isC x = true) (fun i => ml - (intOf i).toNat)
                    case atStart => exact ⟨0, Nat.zero_le _, rfl, by simp⟩
                    case round =>
                      obtain ⟨j, hj, rfl, hall⟩ := hrel
                      have HALL := Lib.hid hall
                      clear hall
                      by_cases hlt2 : j < ml
                      · obtain ⟨x, hx⟩ : ∃ x, r.2.2[j]? = some x := ⟨_, List.getElem?_eq_getElem (by rw [HMLE.out]; exact hlt2)⟩
                        obtain ⟨g, go, hga, hg, hxc, _⟩ := HSM.out.ints hx
                        have hK := Ch.ris_any x w4
                        obtain ⟨kx, hkx⟩ : ∃ q, C.isC x = q := ⟨_, rfl⟩
                        rw [hkx] at hK
                        have hjI : (j : Int) < (ml : Int) := by omega
                        have hj0 : (0 : Int) ≤ j := by omega
                        have HX := Lib.hid hx
                        have HKX := Lib.hid hkx
                        have HK := Lib.hid hK
                        obtain ⟨a1, a2⟩ := a
                        simp only at hga
                        subst hga
                        clear hx hkx hK
                        cases kx
                        · have hre := HRET.out 3 (Md.bad_target HC1.out HALL2.out HX.out HKX.out) (by decide)
                          have HRE := Lib.hid hre
                          clear hre
                          go_wp2_with (first | (go_at_call 59; refine HK.out.mono ?_; rintro e w' ⟨rfl, rfl⟩) | fail)
                          go_ret
                          exact HFIN.out 3 _ _ _ HRE.out rfl HB4.out rfl
                        · go_wp2_with (first | (go_at_call 59; refine HK.out.mono ?_; rintro e w' ⟨rfl, rfl⟩) | fail)
                          exact ⟨⟨j + 1, by omega, by go_num, Md.all_succ HX.out HALL.out HKX.out⟩, by simp [intOf]; omega⟩
                      · have hb0 : Md.bad last r = 0 := Md.bad_none HC1.out HALL2.out (fun x hx => HALL.out x (by rw [List.take_of_length_le (by rw [HMLE.out]; omega)]; exact hx))
                        have hrest : Md.rowsBad (-1) T = Md.rowsBad r.1 (T.drop (k + 1)) := by rw [HRBK.out, hb0]; rfl
                        have HREST := Lib.hid hrest
                        have hge : ¬ (j : Int) < (ml : Int) := by omega
                        clear hb0 hrest hlt2 HALL
                        go_wp2_with fail
                        exact ⟨⟨k + 1, r.1, by omega, by go_num, rfl, ⟨r1a, r1b⟩, HREST.out, HB4.out⟩, by simp [intOf]; omega⟩
              · have h5 : decide (2 < r.2.2.length) = true := by rw [HMLE.out]; simp at hb5 ⊢; omega
                have hre := HRET.out 1 (Md.bad_row (by rw [HIC.out, hb2, hb3, hb4, h5]; rfl)) (by decide)
                have HRE := Lib.hid hre
                clear hre h5
                go_wp2_with (first | (go_at_call 59; refine hIS.mono ?_; rintro e w' ⟨rfl, rfl⟩) | fail)
                go_ret
                exact HFIN.out 1 _ _ _ HRE.out rfl HBN.out rfl
            · have hre := HRET.out 1 (Md.bad_row (by rw [HIC.out, hb2, hb3, hb4]; simp)) (by decide)
              have HRE := Lib.hid hre
              clear hre
              go_wp2_with (first | (go_at_call 59; refine hIS.mono ?_; rintro e w' ⟨rfl, rfl⟩) | fail)
              go_ret
              exact HFIN.out 1 _ _ _ HRE.out rfl HBN.out rfl
          · have hre := HRET.out 1 (Md.bad_row (by rw [HIC.out, hb2, hb3]; simp)) (by decide)
            have HRE := Lib.hid hre
            clear hre
            go_wp2_with (first | (go_at_call 59; refine hIS.mono ?_; rintro e w' ⟨rfl, rfl⟩) | fail)
            go_ret
            exact HFIN.out 1 _ _ _ HRE.out rfl HBN.out rfl
        · have hre := HRET.out 1 (Md.bad_row (by rw [HIC.out, hb2]; simp)) (by decide)
          have HRE := Lib.hid hre
          clear hre
          go_wp2_with (first | (go_at_call 59; refine hIS.mono ?_; rintro e w' ⟨rfl, rfl⟩) | fail)
          go_ret
          exact HFIN.out 1 _ _ _ HRE.out rfl HBN.out rfl
    · obtain rfl : n = k := by omega
      have hz : Md.rowsBad (-1) T = 0 := by
        rw [HRB.out, List.drop_eq_nil_of_le (by rw [HN.out]; exact Nat.le_refl _)]
        rfl
      obtain ⟨hgood, hrise⟩ := Md.rowsBad_zero T (-1) hz
      have HZ := Lib.hid hz
      have HGOOD := Lib.hid hgood
      have HRISE := Lib.hid hrise
      have HFIN : Hid (∀ (j : Nat) (W : World) (e : Ending) (w' : World), res = j → e = .returned (.string (Md.note j)) → Below wa.heap.size wa W → W = w' → e = .returned (.string (Md.note res)) ∧ Below w.heap.size w w') := Lib.hid (by
        rintro j W e w' rfl rfl hW rfl
        exact ⟨rfl, HBA.out.trans (hW.mono HBA.out.size)⟩)
      obtain ⟨wb, rfl⟩ : ∃ wb : World, wb = wr := ⟨_, rfl⟩
      clear hz hgood hrise hlt
      go_wp2_with fail
      go_loopw [83] (fun i wr => ∃ k : Nat, k ≤ n ∧ i = .int .i64 k ∧ (∀ r ∈ T.take k, (Md.full T r.1).isSome = true) ∧ Below wb.heap.size wb wr) (fun i _ => n - (intOf i).toNat)
      case atStart => exact ⟨0, Nat.zero_le _, rfl, fun r hr => by simp at hr, Below.refl _ _⟩
      case round =>
        obtain ⟨k, hk, rfl, hful, hbel2⟩ := hrel
        have hatr := HATR.out.below hbel2
        have y0 := hatr.cell 0 rfl
        have y1 := hatr.cell 1 rfl
        have HFUL := Lib.hid hful
        have hbel3 := HBEL.out.trans (hbel2.mono HBEL.out.size)
        have HBEL3 := Lib.hid hbel3
        have HATR2 := Lib.hid hatr
        have HBEL2 := Lib.hid hbel2
        have hlt0 := hatr.lt
        clear hful hatr hbel2 z0 z1
        by_cases hlt : k < n
        · obtain ⟨r, hr⟩ : ∃ r, T[k]? = some r := ⟨_, List.getElem?_eq_getElem (by rw [HN.out]; exact hlt)⟩
          have hrm := List.mem_of_getElem? hr
          have hrb := HBD.out r hrm
          obtain ⟨b, o, a, hA1, hb, c0, c1, c2, hsl⟩ := (HSEE.out.below hbel3).row hr
          have hbn : Below wr.heap.size wr (wr.alloc (.cells #[.int .i64 r.1, .int .i64 r.2.1, .slice a.1 r.2.2.length a.2] 59)) := (Below.refl _ _).alloc (Nat.le_refl _) _
          have hB0 := HBEL3.out.trans (hbn.mono HBEL3.out.size)
          have hE := HFULL.out r.1 _ (HBA.out.trans (hB0.mono HBA.out.size)) hrb.1.1 hrb.1.2
          have hB0' := Lib.hid hB0
          have HBW := Lib.hid (HBEL2.out.trans (hbn.mono HBEL2.out.size))
          have hatn := Rw.At.new wr 59 [.int .i64 r.1, .int .i64 r.2.1, .slice a.1 r.2.2.length a.2]
          obtain ⟨x0, x1, x2, _, _, _⟩ := hatn.three
          have hkI : (k : Int) < n := by omega
          have hk0 : (0 : Int) ≤ k := by omega
          obtain ⟨fo, hfo⟩ : ∃ fo, Md.full T r.1 = fo := ⟨_, rfl⟩
          rw [hfo] at hE
          have HFO := Lib.hid hfo
          have HR := Lib.hid hr
          have HRM := Lib.hid hrm
          subst hA1
          clear hr hrm hrb hsl hbn hB0 hatn hfo
          go_wp2_with fail
          refine hE.mono ?_
          rintro e w2 ⟨A1, c1', rfl, _, hg⟩
          have HB4 := Lib.hid (HBW.out.trans (hg.mono HBW.out.size))
          have HB2 := Lib.hid (hB0'.out.trans (hg.mono hB0'.out.size))
          clear hg hE x0 x1 x2 y0 y1 c0 c1 c2
          rcases fo with _ | fl
          · have hr1 : res = 4 := by
              rw [← HRES.out]
              unfold Md.chk
              have : Md.fullBad T = true := by
                unfold Md.fullBad
                rw [List.any_eq_true]
                exact ⟨r, HRM.out, by rw [HFO.out]; rfl⟩
              rw [if_neg (by rw [HZ.out]; simp), if_pos this]
            have HR1 := Lib.hid hr1
            clear hr1
            go_wp2_with fail
            go_ret
            exact HFIN.out 4 _ _ _ HR1.out rfl HB2.out rfl
          · have hful : ∀ r ∈ T.take (k + 1), (Md.full T r.1).isSome = true := by
              rw [List.take_add_one, HR.out]
              intro q hq
              rcases List.mem_append.1 hq with hq | hq
              · exact HFUL.out q hq
              · simp at hq
                subst hq
                rw [HFO.out]
                rfl
            have HFUL2 := Lib.hid hful
            clear hful
            go_wp2_with fail
            exact ⟨⟨k + 1, by omega, by go_num, HFUL2.out, HB4.out⟩, by simp [intOf]; omega⟩
        · obtain rfl : n = k := by omega
          have hfb : Md.fullBad T = false := by
            unfold Md.fullBad
            rw [List.any_eq_false]
            intro r hr
            have := HFUL.out r (by rw [List.take_of_length_le (by rw [HN.out]; exact Nat.le_refl _)]; exact hr)
            cases hf : Md.full T r.1 with
            | none => rw [hf] at this; cases this
            | some l => simp
          have hrt : res = if Md.docTwice T (Md.xs E) [] T = true then 5 else 0 := by
            rw [← HRES.out]
            unfold Md.chk
            rw [if_neg (by rw [HZ.out]; simp), if_neg (by rw [hfb]; simp), ← Md.twice_doc]
            rfl
          have HRT := Lib.hid hrt
          obtain ⟨wz, rfl⟩ : ∃ wz : World, wz = wr := ⟨_, rfl⟩
          clear hfb hrt hlt HFUL
          go_wp2_with fail
          go_loopw [100] (fun i wr => ∃ k : Nat, k ≤ n ∧ i = .int .i64 k ∧ Md.docTwice T (Md.xs E) [] T = Md.docTwice T (Md.xs E) (T.take k) (T.drop k) ∧ Below wz.heap.size wz wr) (fun i _ => n - (intOf i).toNat)
          case atStart => exact ⟨0, Nat.zero_le _, rfl, rfl, Below.refl _ _⟩
          case round =>
            obtain ⟨k, hk, rfl, htw, hbel4⟩ := hrel
            have hatr := HATR2.out.below hbel4
            have y0 := hatr.cell 0 rfl
            have y1 := hatr.cell 1 rfl
            have HTW := Lib.hid htw
            have hbel5 := HBEL3.out.trans (hbel4.mono HBEL3.out.size)
            have HBEL4 := Lib.hid hbel4
            have HBEL5 := Lib.hid hbel5
            have hltr := hatr.lt
            have HATR3 := Lib.hid hatr
            clear htw hatr hbel4
            by_cases hlt : k < n
            · obtain ⟨r, hr⟩ : ∃ r, T[k]? = some r := ⟨_, List.getElem?_eq_getElem (by rw [HN.out]; exact hlt)⟩
              have hrm := List.mem_of_getElem? hr
              have hrb := HBD.out r hrm
              obtain ⟨b, o, a, hA1, hb, c0, c1, c2, hsl⟩ := (HSEE.out.below hbel5).row hr
              obtain ⟨wn, hwn⟩ : ∃ wn, wr.alloc (.cells #[.int .i64 r.1, .int .i64 r.2.1, .slice a.1 r.2.2.length a.2] 59) = wn := ⟨_, rfl⟩
              have hbn : Below wr.heap.size wr wn := by rw [← hwn]; exact (Below.refl _ _).alloc (Nat.le_refl _) _
              have hatn : Rw.At wn wr.heap.size 59 [.int .i64 r.1, .int .i64 r.2.1, .slice a.1 r.2.2.length a.2] := by rw [← hwn]; exact Rw.At.new wr 59 [.int .i64 r.1, .int .i64 r.2.1, .slice a.1 r.2.2.length a.2]
              have hLN := hatn.lt
              have HWN := Lib.hid hwn
              have HBN := Lib.hid hbn
              have HATN := Lib.hid hatn
              have HBNA := Lib.hid (hbel5.trans (hbn.mono hbel5.size))
              have HATR4 := Lib.hid (HATR3.out.below hbn)
              have HSLN := Lib.hid (hsl.below hbn hbn.size)
              have htw := HTW.out
              rw [Md.drop_cons hr, Md.docTwice] at htw
              have HTW2 := Lib.hid htw
              have htk : T.take (k + 1) = T.take k ++ [r] := by rw [List.take_add_one, hr]; rfl
              have HTK := Lib.hid htk
              have hcr := Md.prim_row (X := Md.xs E) HRISE.out hrm (HGOOD.out r hrm).1
              have HP1 : Hid (∀ W, Below wn.heap.size wn W → Calls Tryz.prog 16 #[.agg #[.slice A n c, .slice XA xn xc], .int .i64 r.1] W fun e w' => e = .returned (.bool (Md.comp T (Md.xs E) r)) ∧ Below W.heap.size W w') := Lib.hid fun W hW => by
                rw [← hcr]
                exact HPRIM.out r.1 W (HBA.out.trans ((HBNA.out.trans (hW.mono HBNA.out.size)).mono HBA.out.size)) hrb.1.1 hrb.1.2
              have x0 := hatn.cell 0 rfl
              have y0n := HATR4.out.cell 0 rfl
              have kI : (k : Int) < n := by omega
              have k0 : (0 : Int) ≤ k := by omega
              have kc : (k : Int) ≤ c := by omega
              have kc2 : k ≤ c := by omega
              subst hA1
              clear hr hrm hrb hsl hwn hbn hatn htw htk hcr hbel5
              go_wp2_with fail
              go_upto_region 31 with (fail)
              rw [HWN.out]
              go_wp2_with fail
              clear c0 c1 c2 x0 y0 y1 y0n
              go_loopw [110] (fun i wq => ∃ m : Nat, m ≤ k ∧ i = .int .i64 m ∧ Md.ahead T (Md.xs E) (T.take m) r = false ∧ Below wn.heap.size wn wq) (fun i _ => k - (intOf i).toNat)
              case atStart => exact ⟨0, Nat.zero_le _, rfl, rfl, Below.refl _ _⟩
              case round =>
                obtain ⟨m, hm, rfl, hah, hbelq⟩ := hrel
                have hatr5 := HATR4.out.below hbelq
                have hatn5 := HATN.out.below' hbelq hLN
                have hslr5 := HSLN.out.below hbelq hbelq.size
                have hbelA := HBNA.out.trans (hbelq.mono HBNA.out.size)
                have HAH := Lib.hid hah
                have y0 := hatr5.cell 0 rfl
                have hltr5 := hatr5.lt
                have hltn5 := hatn5.lt
                clear hah
                by_cases hlt2 : m < k
                · obtain ⟨q, hq⟩ : ∃ q, T[m]? = some q := ⟨_, List.getElem?_eq_getElem (by rw [HN.out]; omega)⟩
                  have hqt : (T.take k)[m]? = some q := by rw [List.getElem?_take, if_pos hlt2]; exact hq
                  have hqm := List.mem_of_getElem? hq
                  have hqb := HBD.out q hqm
                  obtain ⟨bq, oq, aq, hAq, hbq, c0, c1, c2, hslq⟩ := (HSEE.out.below hbelA).row hq
                  simp only [Option.some.injEq, Addr.mk.injEq, and_true] at hAq
                  obtain ⟨rfl, rfl⟩ := hAq
                  obtain ⟨wp, hwp⟩ : ∃ wp, wr.alloc (.cells #[.int .i64 q.1, .int .i64 q.2.1, .slice aq.1 q.2.2.length aq.2] 59) = wp := ⟨_, rfl⟩
                  have hbp : Below wr.heap.size wr wp := by rw [← hwp]; exact (Below.refl _ _).alloc (Nat.le_refl _) _
                  have hatq : Rw.At wp wr.heap.size 59 [.int .i64 q.1, .int .i64 q.2.1, .slice aq.1 q.2.2.length aq.2] := by rw [← hwp]; exact Rw.At.new wr 59 [.int .i64 q.1, .int .i64 q.2.1, .slice aq.1 q.2.2.length aq.2]
                  have HWP := Lib.hid hwp
                  have HBP := Lib.hid (hbelq.trans (hbp.mono hbelq.size))
                  have hatr6 := hatr5.below hbp
                  have hatn6 := hatn5.below hbp
                  have HSR := Lib.hid (hslr5.below hbp hbp.size)
                  have HSQ := Lib.hid (hslq.below hbp hbp.size)
                  have hcq := Md.prim_row (X := Md.xs E) HRISE.out hqm (HGOOD.out q hqm).1
                  have C1 := Lib.hid (Ext.call (w := wp) fun W hW => HP1.out W (HBP.out.trans (hW.mono HBP.out.size)))
                  have hP2 : ∀ W, Below wp.heap.size wp W → Calls Tryz.prog 16 #[.agg #[.slice (some ⟨b, o, none⟩) n c, .slice XA xn xc], .int .i64 q.1] W fun e w' => e = .returned (.bool (Md.comp T (Md.xs E) q)) ∧ Below W.heap.size W w' := fun W hW => by
                    rw [← hcq]
                    have h1 := HBP.out.trans (hW.mono HBP.out.size)
                    exact HPRIM.out q.1 W (HBA.out.trans ((HBNA.out.trans (h1.mono HBNA.out.size)).mono HBA.out.size)) hqb.1.1 hqb.1.2
                  have C2 := Lib.hid (Ext.call (w := wp) hP2)
                  have e0 := Ext.cells (hatr6.cell 0 rfl) hatr6.lt
                  have e1 := Ext.cells (hatr6.cell 1 rfl) hatr6.lt
                  have r0 := Ext.cells (hatn6.cell 0 rfl) hatn6.lt
                  have r2 := Ext.cells (hatn6.cell 2 rfl) hatn6.lt
                  have q0 := Ext.cells (hatq.cell 0 rfl) hatq.lt
                  have q2 := Ext.cells (hatq.cell 2 rfl) hatq.lt
                  have hahn : (Md.comp T (Md.xs E) r && (Md.comp T (Md.xs E) q && decide (q.2.2 = r.2.2))) = false → Md.ahead T (Md.xs E) (T.take (m + 1)) r = false := by
                    intro h0
                    have h1 := HAH.out
                    unfold Md.ahead at h1 ⊢
                    rw [List.take_add_one, hq, List.any_append, h1, Bool.false_or]
                    simp only [Option.toList_some, List.any_cons, List.any_nil, Bool.or_false]
                    exact h0
                  have hhit : (Md.comp T (Md.xs E) r && (Md.comp T (Md.xs E) q && decide (q.2.2 = r.2.2))) = true → res = 5 := by
                    intro h0
                    rw [HRT.out, if_pos]
                    rw [HTW2.out]
                    have : Md.ahead T (Md.xs E) (T.take k) r = true := by
                      unfold Md.ahead
                      rw [List.any_eq_true]
                      exact ⟨q, List.mem_of_getElem? hqt, h0⟩
                    rw [this, Bool.true_or]
                  have hc2 : ∀ r : Rw.Row, Md.comp T (Md.xs E) r = true → ∃ x y, r.2.2 = [x, y] := by
                    intro r hc
                    unfold Md.comp at hc
                    simp only [Bool.and_eq_true, decide_eq_true_eq] at hc
                    have h2 := hc.2.1
                    match hh : r.2.2, h2 with
                    | [x, y], _ => exact ⟨x, y, rfl⟩
                  have HC2r := Lib.hid (hc2 r)
                  have HC2q := Lib.hid (hc2 q)
                  obtain ⟨pr, hpr⟩ : ∃ p, Md.comp T (Md.xs E) r = p := ⟨_, rfl⟩
                  obtain ⟨pq, hpq⟩ : ∃ p, Md.comp T (Md.xs E) q = p := ⟨_, rfl⟩
                  rw [hpr, hpq] at hahn hhit
                  rw [hpr] at C1 HC2r
                  rw [hpq] at C2 HC2q
                  have HAHN := Lib.hid hahn
                  have HHIT := Lib.hid hhit
                  have mI : (m : Int) < k := by omega
                  have m0 : (0 : Int) ≤ m := by omega
                  clear hq hqt hqm hqb hslq hwp hbp hatq hatr5 hatn5 hslr5 hatr6 hatn6 hcq hP2 hahn hhit hc2 hpr hpq hbelq hbelA
                  go_upto_region 34 with (fail)
                  rw [HWP.out]
                  clear c0 c1 c2 y0
                  cases pr
                  · have HNEXT := Lib.hid (HAHN.out (Bool.false_and _))
                    refine wp_region_ext (by kernel_rfl) (by kernel_rfl) ?_
                    repeat (go_big_quiet_step ((first | (go_at_call 16; first | with_reducible exact C1.out _ | with_reducible exact C2.out _))))
                    refine wpQuiet_nil ?_
                    intro xw
                    have HBZ := Lib.hid (HBP.out.trans (xw.below.mono HBP.out.size))
                    go_wp2_with fail
                    exact ⟨⟨m + 1, by omega, by go_num, HNEXT.out, HBZ.out⟩, by simp [intOf]; omega⟩
                  · cases pq
                    · have HNEXT := Lib.hid (HAHN.out rfl)
                      refine wp_region_ext (by kernel_rfl) (by kernel_rfl) ?_
                      repeat (go_big_quiet_step ((first | (go_at_call 16; first | with_reducible exact C1.out _ | with_reducible exact C2.out _))))
                      refine wpQuiet_nil ?_
                      intro xw
                      have HBZ := Lib.hid (HBP.out.trans (xw.below.mono HBP.out.size))
                      go_wp2_with fail
                      exact ⟨⟨m + 1, by omega, by go_num, HNEXT.out, HBZ.out⟩, by simp [intOf]; omega⟩
                    · obtain ⟨x, y, hrm⟩ := HC2r.out rfl
                      obtain ⟨x', y', hqm⟩ := HC2q.out rfl
                      obtain ⟨rl, hrl⟩ : ∃ k, r.2.2.length = k := ⟨_, rfl⟩
                      obtain ⟨ql, hql⟩ : ∃ k, q.2.2.length = k := ⟨_, rfl⟩
                      have hrl2 : rl = 2 := by rw [← hrl, hrm]; rfl
                      have hql2 : ql = 2 := by rw [← hql, hqm]; rfl
                      rw [hrl] at r2
                      rw [hql] at q2
                      have hsr := HSR.out
                      have hsq := HSQ.out
                      rw [hrm] at hsr
                      rw [hqm] at hsq
                      obtain ⟨rb, ro, hrA, hrb, hrc⟩ := hsr (by simp)
                      obtain ⟨qb, qo, hqA, hqb, hqc⟩ := hsq (by simp)
                      rw [hrA] at r2
                      rw [hqA] at q2
                      have rc0 := Ext.cells (w := wp) (b := rb) (o := ro) (v := .int .i64 x) (by simpa using hrc 0 (by simp)) hrb
                      have rc1 := Ext.cells (w := wp) (b := rb) (o := ro + 1) (v := .int .i64 y) (by simpa using hrc 1 (by simp)) hrb
                      have qc0 := Ext.cells (w := wp) (b := qb) (o := qo) (v := .int .i64 x') (by simpa using hqc 0 (by simp)) hqb
                      have qc1 := Ext.cells (w := wp) (b := qb) (o := qo + 1) (v := .int .i64 y') (by simpa using hqc 1 (by simp)) hqb
                      have hd2 : ((ql : Int) == 2) = true := by rw [hql2]; rfl
                      have hl0 : 0 < rl := by omega
                      have hl1 : (0 : Int) < rl := by omega
                      have hl2 : 1 < rl := by omega
                      have hl3 : (1 : Int) < rl := by omega
                      have hm0 : 0 < ql := by omega
                      have hm1 : (0 : Int) < ql := by omega
                      have hm2 : 1 < ql := by omega
                      have hm3 : (1 : Int) < ql := by omega
                      have HQM := Lib.hid hqm
                      have HRM := Lib.hid hrm
                      clear hrl hql hrl2 hql2 hsr hsq hrc hqc hrA hqA hrm hqm
                      rcases he1 : (x' == x) with _ | _
                      · have HNEXT := Lib.hid (HAHN.out (by rw [HQM.out, HRM.out]; simp at he1 ⊢; intro e; exact absurd e he1))
                        refine wp_region_ext (by kernel_rfl) (by kernel_rfl) ?_
                        repeat (go_big_quiet_step ((first | (go_at_call 16; first | with_reducible exact C1.out _ | with_reducible exact C2.out _))))
                        refine wpQuiet_nil ?_
                        intro xw
                        have HBZ := Lib.hid (HBP.out.trans (xw.below.mono HBP.out.size))
                        go_wp2_with fail
                        exact ⟨⟨m + 1, by omega, by go_num, HNEXT.out, HBZ.out⟩, by simp [intOf]; omega⟩
                      · rcases he2 : (y' == y) with _ | _
                        · have HNEXT := Lib.hid (HAHN.out (by rw [HQM.out, HRM.out]; simp at he2 ⊢; intro _ e; exact absurd e he2))
                          refine wp_region_ext (by kernel_rfl) (by kernel_rfl) ?_
                          repeat (go_big_quiet_step ((first | (go_at_call 16; first | with_reducible exact C1.out _ | with_reducible exact C2.out _))))
                          refine wpQuiet_nil ?_
                          intro xw
                          have HBZ := Lib.hid (HBP.out.trans (xw.below.mono HBP.out.size))
                          go_wp2_with fail
                          exact ⟨⟨m + 1, by omega, by go_num, HNEXT.out, HBZ.out⟩, by simp [intOf]; omega⟩
                        · have HRE := Lib.hid (HHIT.out (by rw [HQM.out, HRM.out]; simp at he1 he2 ⊢; exact ⟨he1, he2⟩))
                          refine wp_region_ext (by kernel_rfl) (by kernel_rfl) ?_
                          repeat (go_big_quiet_step ((first | (go_at_call 16; first | with_reducible exact C1.out _ | with_reducible exact C2.out _))))
                          refine wpQuiet_nil ?_
                          intro xw
                          have HBZ := Lib.hid (HBP.out.trans (xw.below.mono HBP.out.size))
                          go_wp2_with fail
                          go_ret
                          exact HFIN.out 5 _ _ _ HRE.out rfl (HBNA.out.trans (HBZ.out.mono HBNA.out.size)) rfl
                · obtain rfl : k = m := by omega
                  have htw : Md.docTwice T (Md.xs E) [] T = Md.docTwice T (Md.xs E) (T.take (k + 1)) (T.drop (k + 1)) := by rw [HTW2.out, HTK.out, HAH.out, Bool.false_or]
                  have HTW3 := Lib.hid htw
                  have HBZ := Lib.hid (HBEL4.out.trans ((HBN.out.trans (hbelq.mono HBN.out.size)).mono HBEL4.out.size))
                  clear htw hbelq hbelA hatr5 hatn5 hslr5 y0
                  go_wp2_with fail
                  exact ⟨⟨k + 1, by omega, by go_num, HTW3.out, HBZ.out⟩, by simp [intOf]; omega⟩
            · obtain rfl : n = k := by omega
              have hr0 : res = 0 := by
                rw [HRT.out, HTW.out, List.drop_eq_nil_of_le (by rw [HN.out]; exact Nat.le_refl _)]
                rfl
              have HR0 := Lib.hid hr0
              clear hr0 hlt
              go_wp2_with fail
              go_ret
              exact HFIN.out 0 _ _ _ HR0.out rfl HBEL5.out rfl
end Go.Proofs.YtkmfegamblmpeaaGreatDoor
