/- ucd.Of, by walking its text. -/
import Derived.Test.YtkmfegamblmpeaaGreatDoorUdMap
import Derived.Test.YtkmfegamblmpeaaGreatDoorPgReg
import Derived.Test.YtkmfegamblmpeaaGreatDoorMdCheck
import Derived.Test.YtkmfegamblmpeaaGreatDoorMdExp
import Derived.Test.YtkmfegamblmpeaaGreatDoorCpUtf
import Derived.Test.YtkmfegamblmpeaaGreatDoorPgNew
import Derived.Test.YtkmfegamblmpeaaGreatDoorCpChars
import Derived.Test.YtkmfegamblmpeaaGreatDoorMdOwn
import Derived.Great.BuildSlice
import Derived.Deep.DeepCutAuto
namespace Go.Proofs.YtkmfegamblmpeaaGreatDoor
open Go.RowKit
set_option linter.unusedSimpArgs false
set_option linter.unusedVariables false

theorem Pg.IsL.below {lo : Nat} {w w' : World} {v : Value} {idx : List Int} {bl : List (List Int)} (h : Pg.IsL lo w v idx bl) (hb : Below w.heap.size w w') : Pg.IsL lo w' v idx bl := by
  obtain ⟨g, A, c, h1, h0, h2, h3, h4⟩ := h
  exact ⟨g, A, c, h1, h0, h2.below hb, h3.below hb hb.size, h4⟩
set_option maxRecDepth 100000 in
theorem Ud.says_any (c k : Int) (A : Option Addr) (n cap : Nat) (w : World) :
    Calls Tryz.prog 53 #[.agg #[.int .i32 c, .int .i64 k, .slice A n cap]] w fun e w' => e = .returned (.bool (decide (0 < k) || decide (0 < n))) ∧ Below w.heap.size w w' := by
  have hba : Below w.heap.size w (w.alloc (.cells #[.int .i32 c, .int .i64 k, .slice A n cap] 99)) := (Below.refl _ _).alloc (Nat.le_refl _) _
  have hat := Rw.At.new w 99 [.int .i32 c, .int .i64 k, .slice A n cap]
  obtain ⟨wa, hwa⟩ : ∃ wa, w.alloc (.cells #[.int .i32 c, .int .i64 k, .slice A n cap] 99) = wa := ⟨_, rfl⟩
  have hat' : Rw.At wa w.heap.size 99 [.int .i32 c, .int .i64 k, .slice A n cap] := by rw [← hwa]; exact hat
  rw [hwa] at hba
  have HWA := Lib.hid hwa
  have HBA := Lib.hid hba
  have z1 := hat'.cell 1 rfl
  have z2 := hat'.cell 2 rfl
  have hl := hat'.lt
  clear hba hat hat' hwa
  go_enter Tryz.func53, Tryz.ntmps53
  go_upto_region 1 with (fail)
  rw [HWA.out]
  by_cases hk : 0 < k
  · go_wp2_with fail
    go_ret
    exact ⟨by simp [hk], HBA.out⟩
  · by_cases hn : 0 < n
    · have hnI : (0 : Int) < n := by omega
      go_wp2_with fail
      go_ret
      exact ⟨by simp [hn], HBA.out⟩
    · have hnI : ¬ (0 : Int) < n := by omega
      go_wp2_with fail
      go_ret
      exact ⟨by simp [hk, hn], HBA.out⟩

theorem infoEntry : (Tryz.prog.info? 81).map (fun i => (i.zero, i.size, i.bytes)) = some (some (.agg #[.slice none 0 0, .slice none 0 0, .bool false]), 3, 56) := by kernel_rfl
theorem Ud.Inv.below {T : List Rw.Row} {X : Int → Bool} {K M : List Rw.Row} {w w' : World} {base D mb jb : Nat} {XA : Option Addr} {xn xc : Nat} {vc vp vi vs vm : Value} (h : Ud.Inv T X K M w base D mb jb XA xn xc vc vp vi vs vm) (hb : Below w.heap.size w w') : Ud.Inv T X K M w' base D mb jb XA xn xc vc vp vi vs vm := by
  obtain ⟨f, vT, ve, ads, es, G, J, h1, h2, h3, h4, h5, h6, h7, h8⟩ := h
  exact ⟨f, vT, ve, ads, es, G, J, h1.below hb, h2.below hb, h3.below hb, h4.below hb, Nat.le_trans h5 hb.size, h6, h7, h8⟩
theorem Ud.build_data (mb jb : Nat) (w : World) : (Instr.build 76 #[(4, Value.map (some mb)), (5, Value.map (some jb))]).run Tryz.prog w = .ok (.agg (Ud.cells (.slice none 0 0) none 0 0 (.slice none 0 0) mb jb).toArray) w := by kernel_rfl
def Ud.RetOf (T : List Rw.Row) (S : List Int) (w : World) (e : Ending) (w' : World) : Prop := ∃ p, e = .returned (.tuple #[p, .nilIface]) ∧ Ud.Is w' p T S ∧ Below w.heap.size w w'
set_option maxRecDepth 100000 in
set_option maxHeartbeats 4000000 in
theorem Ud.of_any (v : Value) (T : List Rw.Row) (S : List Int) (w : World) (hIs : Md.Is w v T S) (ok : Ud.Ok T S) (hbd : Md.bd T) :
    Calls Tryz.prog 22 #[v] w (Ud.RetOf T S w) := by
  obtain ⟨i0, hi0, hz0, hz1, hz2⟩ := info_parts infoRow
  have hgood := ok.good
  have hrise := ok.rises
  have hml : ∀ r ∈ T, r.2.2.length ≤ 2 := fun r hr => (hgood r hr).2.2.2.1
  have hOk : Md.Ok T := ⟨Nat.le_trans ok.len (by decide), hrise, hbd, fun r hr => Nat.le_trans (hml r hr) (by decide)⟩
  have hCHK : ∀ v W, Md.Is W v T S → Calls Tryz.prog 51 #[v] W fun e w' => e = .returned .nilIface ∧ Below W.heap.size W w' := fun v W h => by
    refine (Md.check_any v T S W hOk.1 hbd hOk.2.2.2 h ok.srt ok.slen).mono ?_
    rintro e w' ⟨q, v, rfl, hq, hqv, hb⟩
    rw [ok.chk] at hq
    obtain rfl : q = [] := by
      cases q with
      | nil => rfl
      | cons x l => simp [F.lk, Md.err] at hq
    obtain rfl : v = .nilIface := hqv
    exact ⟨rfl, hb⟩
  have hIs' := hIs
  obtain ⟨A, c, XA, xc, rfl, hsee, hX⟩ := hIs'
  obtain ⟨n, hn⟩ : ∃ k, T.length = k := ⟨_, rfl⟩
  obtain ⟨xn, hxn⟩ : ∃ k, S.length = k := ⟨_, rfl⟩
  obtain ⟨X, hXX⟩ : ∃ X, C.mem S = X := ⟨_, rfl⟩
  rw [hn, hxn] at hIs ⊢
  unfold Md.tv at hIs ⊢
  have hn4 : n ≤ 10000 := by rw [← hn]; exact ok.len
  obtain ⟨wa, hwa⟩ : ∃ wa, w.alloc (.cells #[.slice A n c, .slice XA xn xc] 50) = wa := ⟨_, rfl⟩
  have hba : Below w.heap.size w wa := by rw [← hwa]; exact (Below.refl _ _).alloc (Nat.le_refl _) _
  have hat : Rw.At wa w.heap.size 50 [.slice A n c, .slice XA xn xc] := by rw [← hwa]; exact Rw.At.new w 50 [.slice A n c, .slice XA xn xc]
  have HWA := Lib.hid hwa
  have HBA := Lib.hid hba
  have HAT := Lib.hid hat
  have HIS := Lib.hid (hIs.below hba)
  have HSEE := Lib.hid (hsee.below hba)
  have HX := Lib.hid (hX.below hba hba.size)
  have HCHK := Lib.hid hCHK
  have HOK := Lib.hid hOk
  have HUOK := Lib.hid ok
  have HN := Lib.hid hn
  have HXN := Lib.hid hxn
  have HXX := Lib.hid hXX
  have HBD := Lib.hid hbd
  have HML := Lib.hid hml
  have HGOOD := Lib.hid hgood
  have hlta := hat.lt
  have z0 := hat.cell 0 rfl
  have z1 := hat.cell 1 rfl
  have hmm := @run_makeMap Tryz.prog
  have hbD := Ud.build_data
  clear hwa hba hat hIs hsee hX hCHK hOk ok hn hxn hXX hbd hml hgood hrise
  go_enter Tryz.func22, Tryz.ntmps22
  go_upto_region 1 with (fail)
  rw [HWA.out]
  go_wp2_with fail
  refine (HCHK.out _ wa HIS.out).mono ?_
  rintro e w1 ⟨rfl, hb1⟩
  have HAT1 := Lib.hid (HAT.out.below hb1)
  have HIS1 := Lib.hid (HIS.out.below hb1)
  have HSEE1 := Lib.hid (HSEE.out.below hb1)
  have HX1 := Lib.hid (HX.out.below hb1 hb1.size)
  have HB1 := Lib.hid (HBA.out.trans (hb1.mono HBA.out.size))
  clear hb1 z0 z1 hlta HIS HAT HSEE HX HBA HWA HCHK
  have z0 := HAT1.out.cell 0 rfl
  have z1 := HAT1.out.cell 1 rfl
  have hlt1 := HAT1.out.lt
  obtain ⟨w2, hw2⟩ : ∃ w2, ((w1.alloc (.map #[] 0)).alloc (.map #[] 0)).alloc (.cells (Ud.cells (.slice none 0 0) none 0 0 (.slice none 0 0) w1.heap.size (w1.heap.size + 1)).toArray 76) = w2 := ⟨_, rfl⟩
  have hb2 : Below w1.heap.size w1 w2 := by
    rw [← hw2]
    exact (((Below.refl _ _).alloc (Nat.le_refl _) _).alloc (by simp) _).alloc (by simp; omega) _
  have hat2 : Rw.At w2 (w1.heap.size + 1 + 1) 76 (Ud.cells (.slice none 0 0) none 0 0 (.slice none 0 0) w1.heap.size (w1.heap.size + 1)) := by
    rw [← hw2]
    have := Rw.At.new ((w1.alloc (.map #[] 0)).alloc (.map #[] 0)) 76 (Ud.cells (.slice none 0 0) none 0 0 (.slice none 0 0) w1.heap.size (w1.heap.size + 1))
    simpa using this
  have hm2 : Mp.Is Tryz.prog 21 w2 w1.heap.size fun _ => none := by
    rw [← hw2]
    exact ((Mp.Is.made w1 Tryz.prog 21).below ((Below.refl _ _).alloc (Nat.le_refl _) _)).below ((Below.refl _ _).alloc (Nat.le_refl _) _)
  have hj2 : Mp.Is Tryz.prog 104 w2 (w1.heap.size + 1) fun _ => none := by
    rw [← hw2]
    have := (Mp.Is.made (w1.alloc (.map #[] 0)) Tryz.prog 104).below ((Below.refl _ _).alloc (Nat.le_refl _) (.cells (Ud.cells (.slice none 0 0) none 0 0 (.slice none 0 0) w1.heap.size (w1.heap.size + 1)).toArray 76))
    simpa using this
  have hs2 : w2.heap.size = w1.heap.size + 3 := by rw [← hw2]; simp
  have HAT2 := Lib.hid (HAT1.out.below hb2)
  have HIS2 := Lib.hid (HIS1.out.below hb2)
  have HSEE2 := Lib.hid (HSEE1.out.below hb2)
  have HX2 := Lib.hid (HX1.out.below hb2 hb2.size)
  have HB2 := Lib.hid hb2
  have HW2 := Lib.hid hw2
  have HD2 := Lib.hid hat2
  have HM2 := Lib.hid hm2
  have HJ2 := Lib.hid hj2
  have HS2 := Lib.hid hs2
  go_upto_region 5 with (fail)
  unfold Ud.cells at hw2
  rw [hw2]
  have k0 := HAT2.out.cell 0 rfl
  have k1 := HAT2.out.cell 1 rfl
  have k2 := HAT2.out.lt
  have d0 := HD2.out.cell 1 rfl
  have d1 := HD2.out.frozen 1
  have d2 := HD2.out.lt
  clear hw2 hb2 hat2 hm2 hj2 hs2 z0 z1 hlt1
  obtain ⟨w3, hw3⟩ : ∃ w3, w2.setCell ⟨w1.heap.size + 1 + 1, 1, none⟩ (.slice XA xn xc) = w3 := ⟨_, rfl⟩
  have hg3 : w2.grownBy w3 (some (w1.heap.size + 1 + 1)) := by rw [← hw3]; exact Rw.grown_set _ _ _
  have hD3 : Rw.At w3 (w1.heap.size + 1 + 1) 76 (Ud.cells (.slice none 0 0) XA xn xc (.slice none 0 0) w1.heap.size (w1.heap.size + 1)) := by rw [← hw3]; exact HD2.out.set 1 _
  have HW3 := Lib.hid hw3
  have HG3 := Lib.hid hg3
  have HD3 := Lib.hid hD3
  clear hw3 hg3 hD3
  go_upto_region 6 with (fail)
  rw [HW3.out]
  have hb13 : Below w1.heap.size w1 w3 := HB2.out.trans (Below.grown (Below.refl _ _) HG3.out HB2.out.size (by intro k hk; simp only [Option.some.injEq] at hk; omega))
  obtain ⟨f0, hf0⟩ : ∃ f : Ud.Ix → Option Fam.Row, f = Fam.set (Fam.set (Fam.set (Fam.set (Fam.set (Fam.set (Fam.set (fun _ => none) (0, 0) ⟨99, 3, .slice none 0 0, 0, []⟩) (0, 1) ⟨102, 2, .slice none 0 0, 0, []⟩) (0, 2) ⟨102, 2, .slice none 0 0, 0, []⟩) (0, 3) ⟨81, 3, .slice none 0 0, 0, []⟩) (0, 4) (Ud.rowV (.slice none 0 0) [])) (0, 5) (Ud.rowV (.slice none 0 0) [])) (0, 6) (Ud.rowV (.slice none 0 0) []) := ⟨_, rfl⟩
  have hF0 : Fam w3 (w1.heap.size + 3) f0 := by
    rw [hf0]
    have hno : ∀ g, (Value.slice none 0 0).ownBlock = some g → w3.heap.size ≤ g := fun g hg => by simp [Value.ownBlock] at hg
    exact (((((((Fam.mk' w3 _).new (Below.refl _ _) _ (World.ownsRow_nil _ _ _ _) hno).new (Below.refl _ _) _ (World.ownsRow_nil _ _ _ _) hno).new (Below.refl _ _) _ (World.ownsRow_nil _ _ _ _) hno).new (Below.refl _ _) _ (World.ownsRow_nil _ _ _ _) hno).new (Below.refl _ _) _ (World.ownsRow_nil _ _ _ _) hno).new (Below.refl _ _) _ (World.ownsRow_nil _ _ _ _) hno).new (Below.refl _ _) _ (World.ownsRow_nil _ _ _ _) hno
  have hInv : Ud.Inv T X [] [] w3 (w1.heap.size + 3) (w1.heap.size + 1 + 1) w1.heap.size (w1.heap.size + 1) XA xn xc (.slice none 0 0) (.slice none 0 0) (.slice none 0 0) (.slice none 0 0) (.slice none 0 0) := by
    refine ⟨f0, .slice none 0 0, .slice none 0 0, [], [], fun _ => none, fun _ => none, hF0, HD3.out, HM2.out.grown HG3.out (by simp; omega), HJ2.out.grown HG3.out (by simp), by rw [← HS2.out]; exact HG3.out.size, ?_, fun c => .inl ⟨rfl, rfl⟩, fun a c => rfl⟩
    rw [hf0]
    refine ⟨rfl, rfl, by simp [Fam.set, Rw.fl], by simp [Fam.set, Pg.fl, Ud.clK], by simp [Fam.set, Pg.fl, Ud.plG], by simp [Fam.set, Ud.flE], by simp [Fam.set, Ud.innM], by simp [Fam.set, Ud.secM, Ud.prsM], by simp [Fam.set, Ud.mpdM], fun j r a hj => by simp at hj, fun j r a hj => by simp at hj⟩
  have HINV := Lib.hid hInv
  have HB13 := Lib.hid hb13
  have HAT3 := Lib.hid (HAT2.out.grown HG3.out (by have := HAT1.out.lt; simp only [ne_eq, Option.some.injEq]; omega))
  clear hInv hF0 hf0 hb13 k0 k1 k2 d0 d1 d2 HAT2 HD2 HM2 HJ2 HG3 HD3 HW3 HW2
  have k0 := HAT3.out.cell 0 rfl
  have k1 := HAT3.out.cell 1 rfl
  have k2 := HAT3.out.lt
  go_wp2_with fail
  go_loopw [6, 7, 8, 9, 10, 33] (fun v6 v7 v8 v9 v10 i wr => ∃ (j : Nat) (vc vp vi vs vm : Value), j ≤ n ∧ i = .int .i64 j ∧ v6 = vc ∧ v7 = vp ∧ v8 = vi ∧ v9 = vs ∧ v10 = vm ∧
      Ud.Inv T X (Ud.keep (T.take j)) (Ud.mr (T.take j)) wr (w1.heap.size + 3) (w1.heap.size + 1 + 1) w1.heap.size (w1.heap.size + 1) XA xn xc vc vp vi vs vm ∧ Below w1.heap.size w1 wr) (fun _ _ _ _ _ i _ => n - (intOf i).toNat)
  case atStart => exact ⟨0, _, _, _, _, _, Nat.zero_le _, rfl, rfl, rfl, rfl, rfl, rfl, HINV.out, HB13.out⟩
  case round =>
    obtain ⟨j, vc, vp, vi, vs, vm, hj, rfl, h6, h7, h8, h9, h10, hinv, hbel⟩ := hrel
    replace h6 := h6.symm; replace h7 := h7.symm; replace h8 := h8.symm; replace h9 := h9.symm; replace h10 := h10.symm
    subst h6; subst h7; subst h8; subst h9; subst h10
    have HINVR := Lib.hid hinv
    have HBEL := Lib.hid hbel
    have hATr := HAT1.out.below hbel
    have HATR := Lib.hid hATr
    clear hinv
    by_cases hlt : j < n
    · obtain ⟨r, hr⟩ : ∃ r, T[j]? = some r := ⟨_, List.getElem?_eq_getElem (by rw [HN.out]; exact hlt)⟩
      have hrm := List.mem_of_getElem? hr
      have hrb := HBD.out r hrm
      have hrl := HML.out r hrm
      have hrg := HGOOD.out r hrm
      have htk : T.take (j + 1) = T.take j ++ [r] := by rw [List.take_add_one, hr]; rfl
      obtain ⟨b, o, a, hA1, hb, c0', c1', c2', hsl⟩ := HSEE1.out.row hr
      have c0 := ((bcell hbel).1 b (o + j * 3) hb).trans c0'
      have c1 := ((bcell hbel).1 b (o + j * 3 + 1) hb).trans c1'
      have c2 := ((bcell hbel).1 b (o + j * 3 + 2) hb).trans c2'
      have hbr : b < wr.heap.size := Nat.lt_of_lt_of_le hb hbel.size
      obtain ⟨ml, hmle⟩ : ∃ k, r.2.2.length = k := ⟨_, rfl⟩
      rw [hmle] at c2 hrl
      have jI : (j : Int) < n := by omega
      have j0' : (0 : Int) ≤ j := by omega
      obtain ⟨wb, hwb⟩ : ∃ wb, wr.alloc (.cells #[.int .i32 r.1, .int .i64 r.2.1, .slice a.1 ml a.2] 99) = wb := ⟨_, rfl⟩
      have hbb : Below wr.heap.size wr wb := by rw [← hwb]; exact (Below.refl _ _).alloc (Nat.le_refl _) _
      have hatb : Rw.At wb wr.heap.size 99 [.int .i32 r.1, .int .i64 r.2.1, .slice a.1 ml a.2] := by rw [← hwb]; exact Rw.At.new wr 99 [.int .i32 r.1, .int .i64 r.2.1, .slice a.1 ml a.2]
      have HWB := Lib.hid hwb
      have HBB := Lib.hid hbb
      have HATB := Lib.hid hatb
      have HSLB := Lib.hid ((hsl.below hbel (Nat.le_refl _)).below (hbb.mono hbel.size) (Nat.le_refl _))
      have HMLE := Lib.hid hmle
      have HTK := Lib.hid htk
      have HRM := Lib.hid hrm
      have HRB := Lib.hid hrb
      have HRG := Lib.hid hrg
      have HR := Lib.hid hr
      subst hA1
      clear c0' c1' c2' hsl hr hrm hmle hwb hbb hatb htk hrb hrg hATr k0 k1 k2
      go_upto_region 11 with (fail)
      rw [HWB.out]
      have b0 := HATB.out.cell 0 rfl
      have b1 := HATB.out.cell 1 rfl
      have b2 := HATB.out.cell 2 rfl
      have b3 := HATB.out.lt
      clear c0 c1 c2
      go_wp2_with fail
      refine (Ud.says_any r.1 r.2.1 a.1 ml a.2 wb).mono ?_
      rintro e w4 ⟨rfl, hb4⟩
      have HB4 := Lib.hid (HBB.out.trans (hb4.mono HBB.out.size))
      have HB4' := Lib.hid hb4
      have HAT4 := Lib.hid (HATB.out.below hb4)
      have HSL4 := Lib.hid (HSLB.out.below (hb4.mono (Nat.le_trans hbel.size HBB.out.size)) (Nat.le_refl _))
      clear hb4 b0 b1 b2 b3 hbel
      rcases hsay : (decide (0 < r.2.1) || decide (0 < ml)) with _ | _
      · have hno : Ud.says r = false := by unfold Ud.says; rw [HMLE.out]; exact hsay
        obtain ⟨q1, q2⟩ := Ud.add_none (T := T) (X := X) hno (R := T.take j)
        have hinv' : Ud.Inv T X (Ud.keep (T.take (j + 1))) (Ud.mr (T.take (j + 1))) w4 (w1.heap.size + 3) (w1.heap.size + 1 + 1) w1.heap.size (w1.heap.size + 1) XA xn xc vc vp vi vs vm := by
          rw [HTK.out, q1, q2]
          exact HINVR.out.below HB4.out
        have HI' := Lib.hid hinv'
        have HBF := Lib.hid (HBEL.out.trans (HB4.out.mono HBEL.out.size))
        clear hinv' hno q1 q2
        go_wp2_with fail
        exact ⟨⟨j + 1, _, _, _, _, _, by omega, by go_num, rfl, rfl, rfl, rfl, rfl, HI'.out, HBF.out⟩, by simp [intOf]; omega⟩
      · have hyes : Ud.says r = true := by unfold Ud.says; rw [HMLE.out]; exact hsay
        obtain ⟨f, vT, ve, ads, es, G, J, hF, hD, hM, hJ, hbase, hRows, hBeg, hJoi⟩ := HINVR.out
        obtain ⟨Kr, hKr⟩ : ∃ K, Ud.keep (T.take j) = K := ⟨_, rfl⟩
        obtain ⟨Mr, hM'⟩ : ∃ M, Ud.mr (T.take j) = M := ⟨_, rfl⟩
        have hKl : Kr.length ≤ 10000 := by rw [← hKr]; unfold Ud.keep; exact Nat.le_trans (List.length_filter_le _ _) (by rw [List.length_take]; omega)
        have hMl : Mr.length ≤ 10000 := by rw [← hM']; unfold Ud.mr; exact Nat.le_trans (List.length_filter_le _ _) (by rw [List.length_take]; omega)
        rw [hKr, hM'] at hRows
        rw [hM'] at hBeg hJoi
        have hoT : wr.ownsRow (w1.heap.size + 3) 99 3 vT Kr.length (Rw.fl Kr ads) := hF.own _ _ hRows.t
        obtain ⟨AT, cT, rfl⟩ := own_form hoT
        have hoC : wr.ownsRow (w1.heap.size + 3) 102 2 vc Kr.length (Pg.fl (Ud.clK Kr)) := hF.own _ _ hRows.c
        obtain ⟨Ac, cc, rfl⟩ := own_form hoC
        clear hoT hoC
        obtain ⟨Kl, hKl'⟩ : ∃ k, Kr.length = k := ⟨_, rfl⟩
        have hKl2 : Kl ≤ 10000 := by rw [← hKl']; exact hKl
        rw [hKl'] at hD ⊢
        have hrbD : w1.heap.size + 3 ≤ wr.heap.size := hbase
        obtain ⟨k0, hk0, ky0, ky1, ky2⟩ := info_parts infoCell
        obtain ⟨l0, hl0, ly0, ly1, ly2⟩ := info_parts infoEntry
        obtain ⟨p0, hp0, py0, py1, py2⟩ := info_parts infoRune
        have ek : IntKind.u16.wrap r.2.1 = r.2.1 := by have h1 := HRG.out.2.1; have h2 := HRG.out.2.2.1; rw [IntKind.wrap_u16]; omega
        obtain ⟨f1, hf1⟩ : ∃ f1, f1 = Fam.set f (9, 0) ⟨99, 3, .slice (some ⟨wr.heap.size, 0, none⟩) 1 1, 1, [.int .i32 r.1, .int .i64 r.2.1, .slice a.1 ml a.2]⟩ := ⟨_, rfl⟩
        have hF1 : Fam w4 (w1.heap.size + 3) f1 := by
          have := (hF.box hbase (9, 0) [.int .i32 r.1, .int .i64 r.2.1, .slice a.1 ml a.2] 99 1 3 rfl (by decide))
          rw [HWB.out, ← hf1] at this
          exact this.below HB4'.out
        have hD4 := hD.below HB4.out
        have hM4 := hM.below HB4.out
        have hJ4 := hJ.below HB4.out
        have hbase4 := Nat.le_trans hbase HB4.out.size
        have HF1 := Lib.hid hF1
        have Hf1 := Lib.hid hf1
        have HD4 := Lib.hid hD4
        have HM4 := Lib.hid hM4
        have HJ4 := Lib.hid hJ4
        have HROWS := Lib.hid hRows
        have HBEG := Lib.hid hBeg
        have HJOI := Lib.hid hJoi
        have HKR := Lib.hid hKr
        have HM' := Lib.hid hM'
        have HKL := Lib.hid hKl'
        have HYES := Lib.hid hyes
        have e1 := Stg.Keep.cells (s := fun b => b = wr.heap.size ∨ b = w1.heap.size + 1 + 1) (w := w4.drew) (HD4.out.cell 0 rfl) (.inr rfl)
        have e2 := Stg.Keep.cells (s := fun b => b = wr.heap.size ∨ b = w1.heap.size + 1 + 1) (w := w4.drew) (HAT4.out.cell 0 rfl) (.inl rfl)
        have e3 := Stg.Keep.cells (s := fun b => b = wr.heap.size ∨ b = w1.heap.size + 1 + 1) (w := w4.drew) (HAT4.out.cell 1 rfl) (.inl rfl)
        have e4 := Stg.Keep.cells (s := fun b => b = wr.heap.size ∨ b = w1.heap.size + 1 + 1) (w := w4.drew) (HAT4.out.cell 2 rfl) (.inl rfl)
        clear hF hD hM hJ hRows hBeg hJoi hKr hM' hKl' hyes hF1 hf1 hD4 hM4 hJ4 hbase HINVR
        go_wp2_with fail
        refine Stg.wp_region (Stg.Keep fun b => b = wr.heap.size ∨ b = w1.heap.size + 1 + 1) (Stg.Keep.rel _) (by kernel_rfl) (by kernel_rfl) (by kernel_rfl) ?_
        refine Stg.readW (by kernel_rfl) (by kernel_rfl) (by kernel_rfl) ?_; intro K hK; go_big_quiet_op; go_big_quiet_on
        refine Stg.readW (by kernel_rfl) (by kernel_rfl) (by kernel_rfl) ?_; intro K hK; go_big_quiet_op; go_big_quiet_on
        refine Stg.readW (by kernel_rfl) (by kernel_rfl) (by kernel_rfl) ?_; intro K hK; go_big_quiet_op; go_big_quiet_on
        refine Stg.readW (by kernel_rfl) (by kernel_rfl) (by kernel_rfl) ?_; intro K hK; go_big_quiet_op; go_big_quiet_on
        refine Stg.readW (by kernel_rfl) (by kernel_rfl) (by kernel_rfl) ?_; intro K hK; go_big_quiet_op; go_big_quiet_on
        refine Stg.read 0 (by kernel_rfl) (by kernel_rfl) (by kernel_rfl) w4.drew rfl (by kernel_rfl) ?_; intro K hK; go_big_quiet_op; go_big_quiet_on
        refine Stg.readW (by kernel_rfl) (by kernel_rfl) (by kernel_rfl) ?_; intro K hK; go_big_quiet_op; go_big_quiet_on
        refine Stg.read 0 (by kernel_rfl) (by kernel_rfl) (by kernel_rfl) w4.drew rfl (by kernel_rfl) ?_; intro K hK; go_big_quiet_op; go_big_quiet_on
        refine Stg.readW (by kernel_rfl) (by kernel_rfl) (by kernel_rfl) ?_; intro K hK; go_big_quiet_op; go_big_quiet_on
        refine Stg.read 0 (by kernel_rfl) (by kernel_rfl) (by kernel_rfl) w4.drew rfl (by kernel_rfl) ?_; intro K hK; go_big_quiet_op; go_big_quiet_on
        refine Stg.readW (by kernel_rfl) (by kernel_rfl) (by kernel_rfl) ?_; intro K hK; go_big_quiet_op; go_big_quiet_on
        refine Stg.read 0 (by kernel_rfl) (by kernel_rfl) (by kernel_rfl) w4.drew rfl (by kernel_rfl) ?_; intro K hK; go_big_quiet_op; go_big_quiet_on
        refine Stg.call 40 _ _ rfl (C.enter Tryz.func40 (by kernel_rfl) rfl) [.slice a.1 ml a.2] rfl w4.drew _ (R.clone_any a.1 ml a.2 w1.heap.size r.2.2 w4.drew HMLE.out (by omega) (Nat.le_trans HBEL.out.size HB4.out.size) (HSL4.out.below (Below.refl _ _).drew (Nat.le_refl _))) (by kernel_rfl) rfl (by kernel_rfl) ?_
        rintro e w5 ⟨A5, c5, rfl, hown5, hb5⟩
        refine ⟨_, rfl, Stg.Keep.of_below hb5 (by rintro q (rfl | rfl); exact HAT4.out.lt; exact HD4.out.lt), ?_⟩
        intro A' hA'; simp only [Act.put, List.setIfInBounds_toArray, List.set_cons_succ, List.set_cons_zero] at hA'; subst hA'
        obtain ⟨f2, hf2⟩ : ∃ f2, f2 = Fam.set f1 (2, (Kl : Int)) ⟨21, 1, .slice A5 ml c5, ml, Ud.ints r.2.2⟩ := ⟨_, rfl⟩
        have hF2 : Fam w5 (w1.heap.size + 3) f2 := by rw [hf2]; exact (HF1.out.below (Below.refl _ _).drew).new hb5 _ (own_mono hown5 hbase4) (fun g hg => (own_at hown5 hg).1)
        have hb5' : Below w4.heap.size w4 w5 := (Below.refl _ _).drew.trans hb5
        have hat5 := HAT4.out.below hb5'
        have hD5 := HD4.out.below hb5'
        have hbase5 := Nat.le_trans hbase4 hb5'.size
        refine Stg.readW (by kernel_rfl) (by kernel_rfl) (by kernel_rfl) ?_; intro K hK; go_big_quiet_op; go_big_quiet_on
        refine Stg.stepW w5 (by kernel_rfl) (by kernel_rfl) rfl (by kernel_rfl) ?_; intro K hK; go_simp
        obtain ⟨w6, hw6⟩ : ∃ w6, w5.alloc (.cells #[.int .i32 r.1, .int .i64 r.2.1, .slice A5 ml c5] 99) = w6 := ⟨_, rfl⟩
        have hb6 : Below w5.heap.size w5 w6 := by rw [← hw6]; exact (Below.refl _ _).alloc (Nat.le_refl _) _
        have hsl6 : Sl w6 w6.heap.size (some ⟨w5.heap.size, 0, none⟩) [.int .i32 r.1, .int .i64 r.2.1, .slice A5 ml c5] := by rw [← hw6]; exact (Rw.At.new w5 99 [.int .i32 r.1, .int .i64 r.2.1, .slice A5 ml c5]).slt.sl
        have hF6 := hF2.below hb6
        have hat6 := hat5.below hb6
        have hD6 := hD5.below hb6
        have hbase6 := Nat.le_trans hbase5 hb6.size
        rw [hw6]
        refine hK _ _ (Stg.Keep.of_below hb6 (by rintro q (rfl | rfl); exact hat5.lt; exact hD5.lt)) ?_
        intro A' hA'; subst hA'
        have h200 : f2 (0, 0) = some ⟨99, 3, .slice AT Kl cT, Kl, Rw.fl Kr ads⟩ := by rw [hf2, Fam.set_other _ _ (by intro e; cases e), Hf1.out, Fam.set_other _ _ (by intro e; cases e), HROWS.out.t, HKL.out]
        have h290 : f2 (9, 0) = some ⟨99, 3, .slice (some ⟨wr.heap.size, 0, none⟩) 1 1, 1, [.int .i32 r.1, .int .i64 r.2.1, .slice a.1 ml a.2]⟩ := by rw [hf2, Fam.set_other _ _ (by intro e; cases e), Hf1.out, Fam.set_same]
        refine Stg.stepW w6 (by kernel_rfl) (by kernel_rfl) rfl (by kernel_rfl) ?_; intro K hK
        refine Fam.wp_append w6 _ _ _ rfl hF6 (0, 0) _ h200 i0 _ 40 Tryz.underlying48 hi0 hz0 hz1 hz2 rfl (by show 0 < 3; decide) rfl w6.heap.size (some ⟨w5.heap.size, 0, none⟩) 1 1 [.int .i32 r.1, .int .i64 r.2.1, .slice A5 ml c5] rfl rfl hsl6 (by simp [Value.oneCell']) (by simp only [maxLen]; omega) (by simp only; omega) hbase6 ?_
        intro v7 w7 hF7 hb7 hg7
        have hne9 := hF6.ne (i := (0, 0)) (j := (9, 0)) (by intro e; cases e) h200 h290 (b := wr.heap.size) rfl
        have hneD := hF6.low h200 (b := w1.heap.size + 1 + 1) (by omega)
        have hD7 := hD6.grown hg7 hneD
        refine hK _ _ (Stg.Keep.of_grown hg7 (by rintro q (rfl | rfl); exact ⟨hat6.lt, Ne.symm hne9⟩; exact ⟨hD6.lt, Ne.symm hneD⟩)) ?_
        have hown7 : w7.ownsRow (w1.heap.size + 3) 99 3 v7 (Kl + 1) (Rw.fl Kr ads ++ [.int .i32 r.1, .int .i64 r.2.1, .slice A5 ml c5]) := hF7.own _ _ (Fam.set_same _ _ _)
        obtain ⟨A7, c7, rfl⟩ := own_form hown7
        intro A' hA'; simp only [Act.put, List.setIfInBounds_toArray, List.set_cons_succ, List.set_cons_zero] at hA'; subst hA'
        refine Stg.readW (by kernel_rfl) (by kernel_rfl) (by kernel_rfl) ?_; intro K hK; go_big_quiet_op; go_big_quiet_on
        refine Stg.readW (by kernel_rfl) (by kernel_rfl) (by kernel_rfl) ?_; intro K hK; go_big_quiet_op; go_big_quiet_on
        refine Stg.readW (by kernel_rfl) (by kernel_rfl) (by kernel_rfl) ?_; intro K hK; go_big_quiet_op; go_big_quiet_on
        have u0 := hD7.cell 0 rfl
        have u1 := hD7.frozen 0
        have u2 := hD7.lt
        refine Stg.last w7 (by kernel_rfl) (by kernel_rfl) (by kernel_rfl) rfl (by kernel_rfl) ?_; intro K hK; go_simp
        obtain ⟨w8, hw8⟩ : ∃ w8, w7.setCell ⟨w1.heap.size + 1 + 1, 0, none⟩ (.slice A7 (Kl + 1) c7) = w8 := ⟨_, rfl⟩
        rw [hw8]
        refine hK _ _ ?_
        intro A' hA'; subst hA'
        refine Stg.nil w8 rfl ?_
        have hat7 := hat6.grown hg7 hne9
        have hg8 : w7.grownBy w8 (some (w1.heap.size + 1 + 1)) := by rw [← hw8]; exact Rw.grown_set _ _ _
        have HAT8 : Hid (Rw.At w8 wr.heap.size 99 [.int .i32 r.1, .int .i64 r.2.1, .slice a.1 ml a.2]) := Lib.hid (hat7.grown hg8 (by simp only [ne_eq, Option.some.injEq]; omega))
        obtain ⟨f3, hf3⟩ : ∃ f3, f3 = Fam.set f2 (0, 0) ⟨99, 3, .slice A7 (Kl + 1) c7, Kl + 1, Rw.fl Kr ads ++ [.int .i32 r.1, .int .i64 r.2.1, .slice A5 ml c5]⟩ := ⟨_, rfl⟩
        have HF8 : Hid (Fam w8 (w1.heap.size + 3) f3) := Lib.hid (by rw [hf3]; exact hF7.other hg8 (by omega))
        have HD8 : Hid (Rw.At w8 (w1.heap.size + 1 + 1) 76 (Ud.cells (.slice A7 (Kl + 1) c7) XA xn xc ve w1.heap.size (w1.heap.size + 1))) := Lib.hid (by rw [← hw8]; exact hD7.set 0 _)
        have HM8 := Lib.hid ((((HM4.out.below hb5').below hb6).grown hg7 (Ne.symm (hF6.low h200 (b := w1.heap.size) (by omega)))).grown hg8 (by simp only [ne_eq, Option.some.injEq]; omega))
        have HJ8 := Lib.hid ((((HJ4.out.below hb5').below hb6).grown hg7 (Ne.symm (hF6.low h200 (b := w1.heap.size + 1) (by omega)))).grown hg8 (by simp only [ne_eq, Option.some.injEq]; omega))
        have hlo : w1.heap.size ≤ w4.heap.size := by omega
        have HB8 : Hid (Below w1.heap.size w1 w8) := Lib.hid (HBEL.out.trans ((HB4.out.mono (by omega)).trans ((hb5'.mono hlo).trans ((hb6.mono (by have := hb5'.size; omega)).trans ((hb7.mono (by omega)).trans (Below.grown (Below.refl _ _) hg8 (by have := hb7.size; omega) (by intro k hk; simp only [Option.some.injEq] at hk; omega)))))))
        have hbase8 : w1.heap.size + 3 ≤ w8.heap.size := Nat.le_trans hbase6 (Nat.le_trans hb7.size hg8.size)
        have Hf2 := Lib.hid hf2
        have Hf3 := Lib.hid hf3
        have HSL8 := Lib.hid (HSL4.out.below ((hb5'.mono hlo).trans ((hb6.mono (by have := hb5'.size; omega)).trans ((hb7.mono (by omega)).trans (Below.grown (Below.refl _ _) hg8 (by have := hb7.size; omega) (by intro k hk; simp only [Option.some.injEq] at hk; omega))))) (Nat.le_refl _))
        clear hat7 hg8 hF7 hD7 hb7 hg7 hne9 hneD hF6 hat6 hD6 hb6 hsl6 hw6 hw8 hat5 hD5 hb5 hb5' hF2 hown5 hown7 hf2 hf3 h200 h290 u0 u1 u2 hbase6 hbase5 hbase4 hlo e1 e2 e3 e4 HSL4 HAT4 HD4 HM4 HJ4 HF1 HB4' HATB HSLB
        have b0 := HAT8.out.cell 0 rfl
        have b1 := HAT8.out.cell 1 rfl
        have b2 := HAT8.out.cell 2 rfl
        have b3 := HAT8.out.lt
        have h301 : f3 (0, 1) = some ⟨102, 2, .slice Ac Kl cc, Kl, Pg.fl (Ud.clK Kr)⟩ := by rw [Hf3.out, Fam.set_other _ _ (by intro e; cases e), Hf2.out, Fam.set_other _ _ (by intro e; cases e), Hf1.out, Fam.set_other _ _ (by intro e; cases e), HROWS.out.c, HKL.out]
        obtain ⟨w9, hw9⟩ : ∃ w9, w8.alloc (.cells #[.int .i32 r.1, .int .u16 r.2.1] 102) = w9 := ⟨_, rfl⟩
        have hb9 : Below w8.heap.size w8 w9 := by rw [← hw9]; exact (Below.refl _ _).alloc (Nat.le_refl _) _
        have hsl9 : Sl w9 w9.heap.size (some ⟨w8.heap.size, 0, none⟩) [.int .i32 r.1, .int .u16 r.2.1] := by rw [← hw9]; exact (Rw.At.new w8 102 [.int .i32 r.1, .int .u16 r.2.1]).slt.sl
        have HF9 := Lib.hid (HF8.out.below hb9)
        have hbase9 := Nat.le_trans hbase8 hb9.size
        have HW9 := Lib.hid hw9
        have HB9 := Lib.hid hb9
        have HSL9 := Lib.hid hsl9
        clear hw9 hb9 hsl9
        go_upto_region 14 with (first | (at_builtin; rw [HW9.out]; refine Fam.wpList_append w9 rfl _ _ _ rfl HF9.out (0, 1) _ h301 k0 _ 8 Tryz.underlying97 hk0 ky0 ky1 ky2 rfl (by show 0 < 2; decide) rfl w9.heap.size (some ⟨w8.heap.size, 0, none⟩) 1 1 [.int .i32 r.1, .int .u16 r.2.1] rfl rfl HSL9.out (by simp [Value.oneCell']) (by simp only [maxLen]; omega) (by simp only; omega) hbase9 ?_; intro v10 w10 hF10 hb10 hg10) | fail)
        have h390 : f3 (9, 0) = some ⟨99, 3, .slice (some ⟨wr.heap.size, 0, none⟩) 1 1, 1, [.int .i32 r.1, .int .i64 r.2.1, .slice a.1 ml a.2]⟩ := by rw [Hf3.out, Fam.set_other _ _ (by intro e; cases e), Hf2.out, Fam.set_other _ _ (by intro e; cases e), Hf1.out, Fam.set_same]
        have hne9 := HF9.out.ne (i := (0, 1)) (j := (9, 0)) (by intro e; cases e) h301 h390 (b := wr.heap.size) rfl
        have hneD := fun b (hb : b < w1.heap.size + 3) => HF9.out.low h301 (b := b) hb
        have HAT10 := Lib.hid ((HAT8.out.below HB9.out).grown hg10 hne9)
        have HD10 := Lib.hid ((HD8.out.below HB9.out).grown hg10 (hneD _ (by omega)))
        have HM10 := Lib.hid ((HM8.out.below HB9.out).grown hg10 (Ne.symm (hneD _ (by omega))))
        have HJ10 := Lib.hid ((HJ8.out.below HB9.out).grown hg10 (Ne.symm (hneD _ (by omega))))
        have hown10 : w10.ownsRow (w1.heap.size + 3) 102 2 v10 (Kl + 1) (Pg.fl (Ud.clK Kr) ++ [.int .i32 r.1, .int .u16 r.2.1]) := hF10.own _ _ (Fam.set_same _ _ _)
        have HB10 : Hid (Below w1.heap.size w1 w10) := Lib.hid (HB8.out.trans ((HB9.out.mono (by omega)).trans (hb10.mono (by omega))))
        have HSL10 := Lib.hid (HSL8.out.below ((HB9.out.mono (by omega)).trans (hb10.mono (by omega))) (Nat.le_refl _))
        have hbase10 := Nat.le_trans hbase9 hb10.size
        obtain ⟨A10, c10, rfl⟩ := own_form hown10
        obtain ⟨f4, hf4⟩ : ∃ f4, f4 = Fam.set f3 (0, 1) ⟨102, 2, .slice A10 (Kl + 1) c10, Kl + 1, Pg.fl (Ud.clK Kr) ++ [.int .i32 r.1, .int .u16 r.2.1]⟩ := ⟨_, rfl⟩
        have HF10 : Hid (Fam w10 (w1.heap.size + 3) f4) := Lib.hid (by rw [hf4]; exact hF10)
        have hkeep : Ud.keep (T.take (j + 1)) = Kr ++ [r] := by rw [HTK.out, Ud.add_keep HYES.out, HKR.out]
        have HKEEP := Lib.hid hkeep
        have hrows4 : Ud.Rows T X (Kr ++ [r]) Mr f4 (.slice A7 (Kl + 1) c7) (.slice A10 (Kl + 1) c10) vp ve vi vs vm (ads ++ [(A5, c5)]) es := by
          refine HROWS.out.addK ?_ ?_ ?_ fun ix hx h0 h1 h2 => ?_
          · rw [hf4, Fam.set_other _ _ (by intro e; cases e), Hf3.out, Fam.set_same, HKL.out, HMLE.out]
          · rw [hf4, Fam.set_same, HKL.out]
          · rw [hf4, Fam.set_other _ _ (by intro e; cases e), Hf3.out, Fam.set_other _ _ (by intro e; cases e), HKL.out, Hf2.out, Fam.set_same]
            unfold Ud.rowOf
            rw [HMLE.out]
          · rw [HKL.out] at h2
            rw [hf4, Fam.set_other _ _ h1, Hf3.out, Fam.set_other _ _ h0, Hf2.out, Fam.set_other _ _ h2, Hf1.out, Fam.set_other _ _ (by intro e; rw [e] at hx; exact absurd hx (by decide))]
        have hbeg4 : Ud.BegI T Mr f4 G := HBEG.out.keep fun c => by
          rw [hf4, Fam.set_other _ _ (by intro e; cases e), Hf3.out, Fam.set_other _ _ (by intro e; cases e), Hf2.out, Fam.set_other _ _ (by intro e; cases e), Hf1.out, Fam.set_other _ _ (by intro e; cases e)]
        have h490 : f4 (9, 0) = some ⟨99, 3, .slice (some ⟨wr.heap.size, 0, none⟩) 1 1, 1, [.int .i32 r.1, .int .i64 r.2.1, .slice a.1 ml a.2]⟩ := by rw [hf4, Fam.set_other _ _ (by intro e; cases e), h390]
        have HROWS4 := Lib.hid hrows4
        have HBEG4 := Lib.hid hbeg4
        have H490 := Lib.hid h490
        clear hF10 hb10 hg10 hne9 hneD hown10 hf4 hrows4 hbeg4 hkeep b0 b1 b2 b3 h301 h390 h490 hbase9 hbase8 HF9 HW9 HB9 HSL9 HF8 HAT8 HD8 HM8 HJ8 HB8 Hf1 Hf2 Hf3 HSL8 HROWS HBEG
        have b2 := HAT10.out.cell 2 rfl
        have b3 := HAT10.out.lt
        rcases hz : ((ml : Int) == 0) with _ | _
        · have hml1 : 0 < ml := by
            rcases Nat.eq_zero_or_pos ml with h | h
            · rw [h] at hz; cases hz
            · exact h
          obtain ⟨Ml, hMl'⟩ : ∃ k, Mr.length = k := ⟨_, rfl⟩
          have hMl2 : Ml ≤ 10000 := by rw [← hMl']; exact hMl
          have HML' := Lib.hid hMl'
          obtain ⟨lf, hlf⟩ := Md.full_some HUOK.out.chk r.1
          obtain ⟨hln, hl1, hl32, _⟩ := Md.full_none hlf
          have hlb := Md.full_bd HBD.out HRB.out.1 hlf
          have hUf : Ud.full T r.1 = lf := by unfold Ud.full; rw [hlf]; rfl
          obtain ⟨pr, hpr⟩ : ∃ q, Md.prim T X r.1 = q := ⟨_, rfl⟩
          obtain ⟨ll, hll⟩ : ∃ k, lf.length = k := ⟨_, rfl⟩
          have HFU : Hid (∀ W, Below w1.heap.size w1 W → Calls Tryz.prog 54 #[.agg #[.slice (some ⟨b, o, none⟩) n c, .slice XA xn xc], .int .i32 r.1] W (Md.RetOwn lf W)) := Lib.hid fun W hW => by
            have := Md.full_any _ T S r.1 W HOK.out (HIS1.out.below hW) HRB.out.1.1 HRB.out.1.2
            rw [hlf] at this
            exact this
          have HPR : Hid (∀ W, Below w1.heap.size w1 W → Calls Tryz.prog 55 #[.agg #[.slice (some ⟨b, o, none⟩) n c, .slice XA xn xc], .int .i32 r.1] W fun e w' => e = .returned (.bool pr) ∧ Below W.heap.size W w') := Lib.hid fun W hW => by
            have := Md.prim_any _ T S r.1 W HOK.out (HIS1.out.below hW) HUOK.out.srt HUOK.out.slen HRB.out.1.1 HRB.out.1.2
            rw [HXX.out, hpr] at this
            exact this
          rw [hll] at hl1 hl32
          have HLL := Lib.hid hll
          have HLB := Lib.hid hlb
          have HUF := Lib.hid hUf
          have HPRM := Lib.hid hpr
          have HATT := Lib.hid (HAT1.out.below HB10.out)
          clear hMl' hln hlb hUf hpr hll hlf
          go_upto_region 15 with (fail)
          go_cut [13] (fun x wx => ∃ (A11 : Option Addr) (c11 : Nat) (A12 : Option Addr) (c12 xb : Nat) (f5 : Ud.Ix → Option Fam.Row), x = .pointer (some ⟨xb, 0, none⟩) ∧ Fam wx (w1.heap.size + 3) f5 ∧ f5 (3, (Ml : Int)) = some ⟨21, 1, .slice A11 ml c11, ml, Ud.ints r.2.2⟩ ∧ f5 (4, (Ml : Int)) = some ⟨21, 1, .slice A12 ll c12, ll, Ud.ints lf⟩ ∧
              f5 (9, 1) = some ⟨81, 3, .slice (some ⟨xb, 0, none⟩) 1 1, 1, [.slice A11 ml c11, .slice A12 ll c12, .bool pr]⟩ ∧ (∀ ix : Ud.Ix, ix ≠ (3, (Ml : Int)) → ix ≠ (4, (Ml : Int)) → ix ≠ (9, 1) → f5 ix = f4 ix) ∧ Below w10.heap.size w10 wx)
          case first =>
            go_wp2_with fail
            refine Stg.wp_regionX (Stg.Keep fun q => q = wr.heap.size ∨ q = w.heap.size) (Stg.Keep.rel _) (by kernel_rfl) ?_
            have hr10 : Below w10.heap.size w10 w10.drew := (Below.refl _ _).drew
            have hFd := HF10.out.below hr10
            have hml6 : ml ≤ 1000000 := by omega
            have h110 : w1.heap.size ≤ w10.heap.size := by omega
            have hq1 : wr.heap.size < w10.heap.size := HAT10.out.lt
            have hq2 : w.heap.size < w10.heap.size := HATT.out.lt
            have e1 := Stg.Keep.cells (s := fun q => q = wr.heap.size ∨ q = w.heap.size) (w := w10.drew) (HAT10.out.cell 0 rfl) (.inl rfl)
            have e2 := Stg.Keep.cells (s := fun q => q = wr.heap.size ∨ q = w.heap.size) (w := w10.drew) (HAT10.out.cell 2 rfl) (.inl rfl)
            have e3 := Stg.Keep.cells (s := fun q => q = wr.heap.size ∨ q = w.heap.size) (w := w10.drew) (HATT.out.cell 0 rfl) (.inr rfl)
            have e4 := Stg.Keep.cells (s := fun q => q = wr.heap.size ∨ q = w.heap.size) (w := w10.drew) (HATT.out.cell 1 rfl) (.inr rfl)
            refine Stg.takeX (Stg.Keep.rel _) 0 _ rfl (by kernel_rfl) (by kernel_rfl) (by kernel_rfl) (by kernel_rfl) (by kernel_rfl) ?_; intro K hK; go_big_quiet_op; go_big_quiet_on
            refine Stg.takeX (Stg.Keep.rel _) 1 _ rfl (by kernel_rfl) (by kernel_rfl) (by kernel_rfl) (by kernel_rfl) (by kernel_rfl) ?_; intro K hK; go_big_quiet_op; go_big_quiet_on
            refine Stg.takeX (Stg.Keep.rel _) 3 _ rfl (by kernel_rfl) (by kernel_rfl) (by kernel_rfl) (by kernel_rfl) (by kernel_rfl) ?_; intro K hK; go_big_quiet_op; go_big_quiet_on
            refine Stg.takeX (Stg.Keep.rel _) 4 _ rfl (by kernel_rfl) (by kernel_rfl) (by kernel_rfl) (by kernel_rfl) (by kernel_rfl) ?_; intro K hK; go_big_quiet_op; go_big_quiet_on
            refine Stg.takeX (Stg.Keep.rel _) 5 _ rfl (by kernel_rfl) (by kernel_rfl) (by kernel_rfl) (by kernel_rfl) (by kernel_rfl) ?_; intro K hK; go_big_quiet_op; go_big_quiet_on
            refine Stg.takeX (Stg.Keep.rel _) 7 _ rfl (by kernel_rfl) (by kernel_rfl) (by kernel_rfl) (by kernel_rfl) (by kernel_rfl) ?_; intro K hK; go_big_quiet_op; go_big_quiet_on
            refine Stg.takeX (Stg.Keep.rel _) 8 _ rfl (by kernel_rfl) (by kernel_rfl) (by kernel_rfl) (by kernel_rfl) (by kernel_rfl) ?_; intro K hK; go_big_quiet_op; go_big_quiet_on
            refine Stg.takeX (Stg.Keep.rel _) 9 _ rfl (by kernel_rfl) (by kernel_rfl) (by kernel_rfl) (by kernel_rfl) (by kernel_rfl) ?_; intro K hK; go_big_quiet_op; go_big_quiet_on
            clear e1 e2 e3 e4
            refine Stg.two 2 12 (by kernel_rfl) ?_ ?_
            · skip
              refine Stg.callX 2 _ rfl (by kernel_rfl) (by kernel_rfl) 40 _ _ rfl (C.enter Tryz.func40 (by kernel_rfl) rfl) [.slice a.1 ml a.2] rfl _ (R.clone_any a.1 ml a.2 w1.heap.size r.2.2 w10.drew HMLE.out hml6 (Nat.le_trans h110 hr10.size) (HSL10.out.below (hr10.mono h110) (Nat.le_refl _))) ?_
              rintro e w11 ⟨A11, c11, rfl, hown11, hb11⟩
              refine ⟨_, rfl, (Stg.Keep.of_below hb11 (by rintro q (rfl | rfl); exact Nat.lt_of_lt_of_le hq1 hr10.size; exact Nat.lt_of_lt_of_le hq2 hr10.size)), ?_⟩
              intro A' hA'; simp only [Act.put, List.setIfInBounds_toArray, List.set_cons_succ, List.set_cons_zero] at hA'; subst hA'
              have hz11 := hr10.trans (hb11.mono hr10.size)
              have hF11 := hFd.new hb11 (3, (Ml : Int)) (q := ⟨21, 1, .slice A11 ml c11, ml, Ud.ints r.2.2⟩) (own_mono hown11 (Nat.le_trans hbase10 hr10.size)) (fun g hg => (own_at hown11 hg).1)
              refine Stg.two 6 12 (by kernel_rfl) ?_ ?_
              · skip
                refine Stg.callX 6 _ rfl (by kernel_rfl) (by kernel_rfl) 54 _ _ rfl (C.enter Tryz.func54 (by kernel_rfl) rfl) [.agg #[.slice (some ⟨b, o, none⟩) n c, .slice XA xn xc], .int .i32 r.1] rfl _ (HFU.out w11 (HB10.out.trans (hz11.mono HB10.out.size))) ?_
                rintro e w12 ⟨A12, c12, rfl, hown12, hb12⟩
                rw [HLL.out] at hown12 ⊢
                refine ⟨_, rfl, (Stg.Keep.of_below hb12 (by rintro q (rfl | rfl); exact Nat.lt_of_lt_of_le hq1 hz11.size; exact Nat.lt_of_lt_of_le hq2 hz11.size)), ?_⟩
                intro A' hA'; simp only [Act.put, List.setIfInBounds_toArray, List.set_cons_succ, List.set_cons_zero] at hA'; subst hA'
                have hz12 := hz11.trans (hb12.mono hz11.size)
                have hF12 := hF11.new hb12 (4, (Ml : Int)) (q := ⟨21, 1, .slice A12 ll c12, ll, Ud.ints lf⟩) (own_mono hown12 (Nat.le_trans hbase10 hz11.size)) (fun g hg => (own_at hown12 hg).1)
                refine Stg.two 10 12 (by kernel_rfl) ?_ ?_
                · skip
                  refine Stg.callX 10 _ rfl (by kernel_rfl) (by kernel_rfl) 55 _ _ rfl (C.enter Tryz.func55 (by kernel_rfl) rfl) [.agg #[.slice (some ⟨b, o, none⟩) n c, .slice XA xn xc], .int .i32 r.1] rfl _ (HPR.out w12 (HB10.out.trans (hz12.mono HB10.out.size))) ?_
                  rintro e w13 ⟨rfl, hb13⟩
                  refine ⟨_, rfl, (Stg.Keep.of_below hb13 (by rintro q (rfl | rfl); exact Nat.lt_of_lt_of_le hq1 hz12.size; exact Nat.lt_of_lt_of_le hq2 hz12.size)), ?_⟩
                  intro A' hA'; simp only [Act.put, List.setIfInBounds_toArray, List.set_cons_succ, List.set_cons_zero] at hA'; subst hA'
                  have hz13 := hz12.trans (hb13.mono hz12.size)
                  have hF13 := hF12.below hb13
                  refine Stg.takeX (Stg.Keep.rel _) 11 _ rfl (by kernel_rfl) (by kernel_rfl) (by kernel_rfl) (by kernel_rfl) (by kernel_rfl) ?_; intro K hK; go_big_quiet_op; go_big_quiet_on
                  refine Stg.one 12 (by kernel_rfl) ?_
                  refine Stg.stepX 12 _ rfl (by kernel_rfl) (by kernel_rfl) (by kernel_rfl) ?_; intro K hK; go_simp
                  obtain ⟨wz, hwz⟩ : ∃ wz, w13.alloc (.cells #[.slice none 0 0, .slice none 0 0, .bool false] 81) = wz := ⟨_, rfl⟩
                  have hbz : Below w13.heap.size w13 wz := by rw [← hwz]; exact (Below.refl _ w13).alloc (Nat.le_refl _) _
                  have hatz : Rw.At wz w13.heap.size 81 [.slice none 0 0, .slice none 0 0, .bool false] := by rw [← hwz]; exact Rw.At.new w13 81 [.slice none 0 0, .slice none 0 0, .bool false]
                  have hFz := hF13.box (Nat.le_trans hbase10 hz13.size) (9, 1) [.slice none 0 0, .slice none 0 0, .bool false] 81 1 3 rfl (by decide)
                  rw [hwz] at hFz
                  rw [hwz]
                  refine hK _ _ (Stg.Keep.of_below hbz (by rintro q (rfl | rfl); exact Nat.lt_of_lt_of_le hq1 hz13.size; exact Nat.lt_of_lt_of_le hq2 hz13.size)) ?_
                  intro A' hA'; subst hA'
                  have hzz := hz13.trans (hbz.mono hz13.size)
                  refine Stg.one 13 (by kernel_rfl) ?_
                  have u0 := hatz.cell 0 rfl
                  have u1 := hatz.cell 1 rfl
                  have u2 := hatz.cell 2 rfl
                  have u3 := hatz.frozen 0
                  have u4 := hatz.frozen 1
                  have u5 := hatz.frozen 2
                  have u6 := hatz.lt
                  refine Stg.stepX 13 _ rfl (by kernel_rfl) (by kernel_rfl) (by kernel_rfl) ?_; intro K hK; go_simp
                  obtain ⟨w15, hw15⟩ : ∃ w15, ((wz.setCell ⟨w13.heap.size, 0, none⟩ (.slice A11 ml c11)).setCell ⟨w13.heap.size, 1, none⟩ (.slice A12 ll c12)).setCell ⟨w13.heap.size, 2, none⟩ (.bool pr) = w15 := ⟨_, rfl⟩
                  rw [hw15]
                  have hat15 : Rw.At w15 (w13.heap.size) 81 [.slice A11 ml c11, .slice A12 ll c12, .bool pr] := by rw [← hw15]; exact ((hatz.set 0 _).set 1 _).set 2 _
                  have hg15 : wz.grownBy w15 (some (w13.heap.size)) := by rw [← hw15]; exact Rw.grown_trans (Rw.grown_trans (Rw.grown_set _ _ _) (Rw.grown_set _ _ _)) (Rw.grown_set _ _ _)
                  have hF15 := hFz.store (i := (9, 1)) (e := 81) (size := 3) (n := 1) (b := w13.heap.size) (cs := [.slice none 0 0, .slice none 0 0, .bool false]) (by simp [Fam.set]) hg15 hat15 rfl (by decide)
                  have hxb : w10.heap.size ≤ w13.heap.size := hz13.size
                  have hb15 : Below w10.heap.size w10 w15 := hzz.trans (grown_belowB hg15 hzz.size hxb)
                  refine hK _ _ (Stg.Keep.of_grown hg15 (by rintro q (rfl | rfl); exact ⟨Nat.lt_of_lt_of_le hq1 hzz.size, some_ne (Nat.lt_of_lt_of_le hq1 hxb)⟩; exact ⟨Nat.lt_of_lt_of_le hq2 hzz.size, some_ne (Nat.lt_of_lt_of_le hq2 hxb)⟩)) ?_
                  intro A' hA'; subst hA'
                  refine Stg.endX (by kernel_rfl) ?_
                  go_wp2_with fail
                  go_meet
                  exact ⟨A11, c11, A12, c12, w13.heap.size, _, rfl, hF15, by simp [Fam.set], by simp [Fam.set], by simp [Fam.set], fun ix h1 h2 h3 => by simp [Fam.set, h1, h2, h3], hb15⟩
                · skip
                  refine Stg.stepX 12 _ rfl (by kernel_rfl) (by kernel_rfl) (by kernel_rfl) ?_; intro K hK; go_simp
                  obtain ⟨wz, hwz⟩ : ∃ wz, w12.alloc (.cells #[.slice none 0 0, .slice none 0 0, .bool false] 81) = wz := ⟨_, rfl⟩
                  have hbz : Below w12.heap.size w12 wz := by rw [← hwz]; exact (Below.refl _ w12).alloc (Nat.le_refl _) _
                  have hatz : Rw.At wz w12.heap.size 81 [.slice none 0 0, .slice none 0 0, .bool false] := by rw [← hwz]; exact Rw.At.new w12 81 [.slice none 0 0, .slice none 0 0, .bool false]
                  have hFz := hF12.box (Nat.le_trans hbase10 hz12.size) (9, 1) [.slice none 0 0, .slice none 0 0, .bool false] 81 1 3 rfl (by decide)
                  rw [hwz] at hFz
                  rw [hwz]
                  refine hK _ _ (Stg.Keep.of_below hbz (by rintro q (rfl | rfl); exact Nat.lt_of_lt_of_le hq1 hz12.size; exact Nat.lt_of_lt_of_le hq2 hz12.size)) ?_
                  intro A' hA'; subst hA'
                  have hzz := hz12.trans (hbz.mono hz12.size)
                  refine Stg.one 10 (by kernel_rfl) ?_
                  refine Stg.callX 10 _ rfl (by kernel_rfl) (by kernel_rfl) 55 _ _ rfl (C.enter Tryz.func55 (by kernel_rfl) rfl) [.agg #[.slice (some ⟨b, o, none⟩) n c, .slice XA xn xc], .int .i32 r.1] rfl _ (HPR.out wz (HB10.out.trans (hzz.mono HB10.out.size))) ?_
                  rintro e w13 ⟨rfl, hb13⟩
                  refine ⟨_, rfl, (Stg.Keep.of_below hb13 (by rintro q (rfl | rfl); exact Nat.lt_of_lt_of_le hq1 hzz.size; exact Nat.lt_of_lt_of_le hq2 hzz.size)), ?_⟩
                  intro A' hA'; simp only [Act.put, List.setIfInBounds_toArray, List.set_cons_succ, List.set_cons_zero] at hA'; subst hA'
                  have hz13 := hzz.trans (hb13.mono hzz.size)
                  have hF13 := hFz.below hb13
                  have hat13 := hatz.below hb13
                  refine Stg.takeX (Stg.Keep.rel _) 11 _ rfl (by kernel_rfl) (by kernel_rfl) (by kernel_rfl) (by kernel_rfl) (by kernel_rfl) ?_; intro K hK; go_big_quiet_op; go_big_quiet_on
                  refine Stg.one 13 (by kernel_rfl) ?_
                  have u0 := hat13.cell 0 rfl
                  have u1 := hat13.cell 1 rfl
                  have u2 := hat13.cell 2 rfl
                  have u3 := hat13.frozen 0
                  have u4 := hat13.frozen 1
                  have u5 := hat13.frozen 2
                  have u6 := hat13.lt
                  refine Stg.stepX 13 _ rfl (by kernel_rfl) (by kernel_rfl) (by kernel_rfl) ?_; intro K hK; go_simp
                  obtain ⟨w15, hw15⟩ : ∃ w15, ((w13.setCell ⟨w12.heap.size, 0, none⟩ (.slice A11 ml c11)).setCell ⟨w12.heap.size, 1, none⟩ (.slice A12 ll c12)).setCell ⟨w12.heap.size, 2, none⟩ (.bool pr) = w15 := ⟨_, rfl⟩
                  rw [hw15]
                  have hat15 : Rw.At w15 (w12.heap.size) 81 [.slice A11 ml c11, .slice A12 ll c12, .bool pr] := by rw [← hw15]; exact ((hat13.set 0 _).set 1 _).set 2 _
                  have hg15 : w13.grownBy w15 (some (w12.heap.size)) := by rw [← hw15]; exact Rw.grown_trans (Rw.grown_trans (Rw.grown_set _ _ _) (Rw.grown_set _ _ _)) (Rw.grown_set _ _ _)
                  have hF15 := hF13.store (i := (9, 1)) (e := 81) (size := 3) (n := 1) (b := w12.heap.size) (cs := [.slice none 0 0, .slice none 0 0, .bool false]) (by simp [Fam.set]) hg15 hat15 rfl (by decide)
                  have hxb : w10.heap.size ≤ w12.heap.size := hz12.size
                  have hb15 : Below w10.heap.size w10 w15 := hz13.trans (grown_belowB hg15 hz13.size hxb)
                  refine hK _ _ (Stg.Keep.of_grown hg15 (by rintro q (rfl | rfl); exact ⟨Nat.lt_of_lt_of_le hq1 hz13.size, some_ne (Nat.lt_of_lt_of_le hq1 hxb)⟩; exact ⟨Nat.lt_of_lt_of_le hq2 hz13.size, some_ne (Nat.lt_of_lt_of_le hq2 hxb)⟩)) ?_
                  intro A' hA'; subst hA'
                  refine Stg.endX (by kernel_rfl) ?_
                  go_wp2_with fail
                  go_meet
                  exact ⟨A11, c11, A12, c12, w12.heap.size, _, rfl, hF15, by simp [Fam.set], by simp [Fam.set], by simp [Fam.set], fun ix h1 h2 h3 => by simp [Fam.set, h1, h2, h3], hb15⟩
              · skip
                refine Stg.stepX 12 _ rfl (by kernel_rfl) (by kernel_rfl) (by kernel_rfl) ?_; intro K hK; go_simp
                obtain ⟨wz, hwz⟩ : ∃ wz, w11.alloc (.cells #[.slice none 0 0, .slice none 0 0, .bool false] 81) = wz := ⟨_, rfl⟩
                have hbz : Below w11.heap.size w11 wz := by rw [← hwz]; exact (Below.refl _ w11).alloc (Nat.le_refl _) _
                have hatz : Rw.At wz w11.heap.size 81 [.slice none 0 0, .slice none 0 0, .bool false] := by rw [← hwz]; exact Rw.At.new w11 81 [.slice none 0 0, .slice none 0 0, .bool false]
                have hFz := hF11.box (Nat.le_trans hbase10 hz11.size) (9, 1) [.slice none 0 0, .slice none 0 0, .bool false] 81 1 3 rfl (by decide)
                rw [hwz] at hFz
                rw [hwz]
                refine hK _ _ (Stg.Keep.of_below hbz (by rintro q (rfl | rfl); exact Nat.lt_of_lt_of_le hq1 hz11.size; exact Nat.lt_of_lt_of_le hq2 hz11.size)) ?_
                intro A' hA'; subst hA'
                have hzz := hz11.trans (hbz.mono hz11.size)
                refine Stg.one 6 (by kernel_rfl) ?_
                refine Stg.callX 6 _ rfl (by kernel_rfl) (by kernel_rfl) 54 _ _ rfl (C.enter Tryz.func54 (by kernel_rfl) rfl) [.agg #[.slice (some ⟨b, o, none⟩) n c, .slice XA xn xc], .int .i32 r.1] rfl _ (HFU.out wz (HB10.out.trans (hzz.mono HB10.out.size))) ?_
                rintro e w12 ⟨A12, c12, rfl, hown12, hb12⟩
                rw [HLL.out] at hown12 ⊢
                refine ⟨_, rfl, (Stg.Keep.of_below hb12 (by rintro q (rfl | rfl); exact Nat.lt_of_lt_of_le hq1 hzz.size; exact Nat.lt_of_lt_of_le hq2 hzz.size)), ?_⟩
                intro A' hA'; simp only [Act.put, List.setIfInBounds_toArray, List.set_cons_succ, List.set_cons_zero] at hA'; subst hA'
                have hz12 := hzz.trans (hb12.mono hzz.size)
                have hF12 := hFz.new hb12 (4, (Ml : Int)) (q := ⟨21, 1, .slice A12 ll c12, ll, Ud.ints lf⟩) (own_mono hown12 (Nat.le_trans hbase10 hzz.size)) (fun g hg => (own_at hown12 hg).1)
                have hat12 := hatz.below hb12
                refine Stg.one 10 (by kernel_rfl) ?_
                refine Stg.callX 10 _ rfl (by kernel_rfl) (by kernel_rfl) 55 _ _ rfl (C.enter Tryz.func55 (by kernel_rfl) rfl) [.agg #[.slice (some ⟨b, o, none⟩) n c, .slice XA xn xc], .int .i32 r.1] rfl _ (HPR.out w12 (HB10.out.trans (hz12.mono HB10.out.size))) ?_
                rintro e w13 ⟨rfl, hb13⟩
                refine ⟨_, rfl, (Stg.Keep.of_below hb13 (by rintro q (rfl | rfl); exact Nat.lt_of_lt_of_le hq1 hz12.size; exact Nat.lt_of_lt_of_le hq2 hz12.size)), ?_⟩
                intro A' hA'; simp only [Act.put, List.setIfInBounds_toArray, List.set_cons_succ, List.set_cons_zero] at hA'; subst hA'
                have hz13 := hz12.trans (hb13.mono hz12.size)
                have hF13 := hF12.below hb13
                have hat13 := hat12.below hb13
                refine Stg.takeX (Stg.Keep.rel _) 11 _ rfl (by kernel_rfl) (by kernel_rfl) (by kernel_rfl) (by kernel_rfl) (by kernel_rfl) ?_; intro K hK; go_big_quiet_op; go_big_quiet_on
                refine Stg.one 13 (by kernel_rfl) ?_
                have u0 := hat13.cell 0 rfl
                have u1 := hat13.cell 1 rfl
                have u2 := hat13.cell 2 rfl
                have u3 := hat13.frozen 0
                have u4 := hat13.frozen 1
                have u5 := hat13.frozen 2
                have u6 := hat13.lt
                refine Stg.stepX 13 _ rfl (by kernel_rfl) (by kernel_rfl) (by kernel_rfl) ?_; intro K hK; go_simp
                obtain ⟨w15, hw15⟩ : ∃ w15, ((w13.setCell ⟨w11.heap.size, 0, none⟩ (.slice A11 ml c11)).setCell ⟨w11.heap.size, 1, none⟩ (.slice A12 ll c12)).setCell ⟨w11.heap.size, 2, none⟩ (.bool pr) = w15 := ⟨_, rfl⟩
                rw [hw15]
                have hat15 : Rw.At w15 (w11.heap.size) 81 [.slice A11 ml c11, .slice A12 ll c12, .bool pr] := by rw [← hw15]; exact ((hat13.set 0 _).set 1 _).set 2 _
                have hg15 : w13.grownBy w15 (some (w11.heap.size)) := by rw [← hw15]; exact Rw.grown_trans (Rw.grown_trans (Rw.grown_set _ _ _) (Rw.grown_set _ _ _)) (Rw.grown_set _ _ _)
                have hF15 := hF13.store (i := (9, 1)) (e := 81) (size := 3) (n := 1) (b := w11.heap.size) (cs := [.slice none 0 0, .slice none 0 0, .bool false]) (by simp [Fam.set]) hg15 hat15 rfl (by decide)
                have hxb : w10.heap.size ≤ w11.heap.size := hz11.size
                have hb15 : Below w10.heap.size w10 w15 := hz13.trans (grown_belowB hg15 hz13.size hxb)
                refine hK _ _ (Stg.Keep.of_grown hg15 (by rintro q (rfl | rfl); exact ⟨Nat.lt_of_lt_of_le hq1 hz13.size, some_ne (Nat.lt_of_lt_of_le hq1 hxb)⟩; exact ⟨Nat.lt_of_lt_of_le hq2 hz13.size, some_ne (Nat.lt_of_lt_of_le hq2 hxb)⟩)) ?_
                intro A' hA'; subst hA'
                refine Stg.endX (by kernel_rfl) ?_
                go_wp2_with fail
                go_meet
                exact ⟨A11, c11, A12, c12, w11.heap.size, _, rfl, hF15, by simp [Fam.set], by simp [Fam.set], by simp [Fam.set], fun ix h1 h2 h3 => by simp [Fam.set, h1, h2, h3], hb15⟩
            · skip
              refine Stg.stepX 12 _ rfl (by kernel_rfl) (by kernel_rfl) (by kernel_rfl) ?_; intro K hK; go_simp
              obtain ⟨wz, hwz⟩ : ∃ wz, (w10.alloc (.cells #[.slice none 0 0, .slice none 0 0, .bool false] 81)).drew = wz := ⟨_, rfl⟩
              have hbz : Below w10.drew.heap.size w10.drew wz := by rw [← hwz]; exact (Below.refl _ w10.drew).alloc (Nat.le_refl _) _
              have hatz : Rw.At wz w10.heap.size 81 [.slice none 0 0, .slice none 0 0, .bool false] := by rw [← hwz]; exact Rw.At.new w10.drew 81 [.slice none 0 0, .slice none 0 0, .bool false]
              have hFz : Fam wz (w1.heap.size + 3) (Fam.set f4 (9, 1) ⟨81, 3, .slice (some ⟨w10.heap.size, 0, none⟩) 1 1, 1, [.slice none 0 0, .slice none 0 0, .bool false]⟩) := by rw [← hwz]; exact hFd.box hbase10 (9, 1) [.slice none 0 0, .slice none 0 0, .bool false] 81 1 3 rfl (by decide)
              rw [hwz]
              refine hK _ _ (Stg.Keep.of_below hbz (by rintro q (rfl | rfl); exact Nat.lt_of_lt_of_le hq1 hr10.size; exact Nat.lt_of_lt_of_le hq2 hr10.size)) ?_
              intro A' hA'; subst hA'
              have hzz := hr10.trans (hbz.mono hr10.size)
              refine Stg.one 2 (by kernel_rfl) ?_
              refine Stg.callX 2 _ rfl (by kernel_rfl) (by kernel_rfl) 40 _ _ rfl (C.enter Tryz.func40 (by kernel_rfl) rfl) [.slice a.1 ml a.2] rfl _ (R.clone_any a.1 ml a.2 w1.heap.size r.2.2 wz HMLE.out hml6 (Nat.le_trans h110 hzz.size) (HSL10.out.below (hzz.mono h110) (Nat.le_refl _))) ?_
              rintro e w11 ⟨A11, c11, rfl, hown11, hb11⟩
              refine ⟨_, rfl, (Stg.Keep.of_below hb11 (by rintro q (rfl | rfl); exact Nat.lt_of_lt_of_le hq1 hzz.size; exact Nat.lt_of_lt_of_le hq2 hzz.size)), ?_⟩
              intro A' hA'; simp only [Act.put, List.setIfInBounds_toArray, List.set_cons_succ, List.set_cons_zero] at hA'; subst hA'
              have hz11 := hzz.trans (hb11.mono hzz.size)
              have hF11 := hFz.new hb11 (3, (Ml : Int)) (q := ⟨21, 1, .slice A11 ml c11, ml, Ud.ints r.2.2⟩) (own_mono hown11 (Nat.le_trans hbase10 hzz.size)) (fun g hg => (own_at hown11 hg).1)
              have hat11 := hatz.below hb11
              refine Stg.one 6 (by kernel_rfl) ?_
              refine Stg.callX 6 _ rfl (by kernel_rfl) (by kernel_rfl) 54 _ _ rfl (C.enter Tryz.func54 (by kernel_rfl) rfl) [.agg #[.slice (some ⟨b, o, none⟩) n c, .slice XA xn xc], .int .i32 r.1] rfl _ (HFU.out w11 (HB10.out.trans (hz11.mono HB10.out.size))) ?_
              rintro e w12 ⟨A12, c12, rfl, hown12, hb12⟩
              rw [HLL.out] at hown12 ⊢
              refine ⟨_, rfl, (Stg.Keep.of_below hb12 (by rintro q (rfl | rfl); exact Nat.lt_of_lt_of_le hq1 hz11.size; exact Nat.lt_of_lt_of_le hq2 hz11.size)), ?_⟩
              intro A' hA'; simp only [Act.put, List.setIfInBounds_toArray, List.set_cons_succ, List.set_cons_zero] at hA'; subst hA'
              have hz12 := hz11.trans (hb12.mono hz11.size)
              have hF12 := hF11.new hb12 (4, (Ml : Int)) (q := ⟨21, 1, .slice A12 ll c12, ll, Ud.ints lf⟩) (own_mono hown12 (Nat.le_trans hbase10 hz11.size)) (fun g hg => (own_at hown12 hg).1)
              have hat12 := hat11.below hb12
              refine Stg.one 10 (by kernel_rfl) ?_
              refine Stg.callX 10 _ rfl (by kernel_rfl) (by kernel_rfl) 55 _ _ rfl (C.enter Tryz.func55 (by kernel_rfl) rfl) [.agg #[.slice (some ⟨b, o, none⟩) n c, .slice XA xn xc], .int .i32 r.1] rfl _ (HPR.out w12 (HB10.out.trans (hz12.mono HB10.out.size))) ?_
              rintro e w13 ⟨rfl, hb13⟩
              refine ⟨_, rfl, (Stg.Keep.of_below hb13 (by rintro q (rfl | rfl); exact Nat.lt_of_lt_of_le hq1 hz12.size; exact Nat.lt_of_lt_of_le hq2 hz12.size)), ?_⟩
              intro A' hA'; simp only [Act.put, List.setIfInBounds_toArray, List.set_cons_succ, List.set_cons_zero] at hA'; subst hA'
              have hz13 := hz12.trans (hb13.mono hz12.size)
              have hF13 := hF12.below hb13
              have hat13 := hat12.below hb13
              refine Stg.takeX (Stg.Keep.rel _) 11 _ rfl (by kernel_rfl) (by kernel_rfl) (by kernel_rfl) (by kernel_rfl) (by kernel_rfl) ?_; intro K hK; go_big_quiet_op; go_big_quiet_on
              refine Stg.one 13 (by kernel_rfl) ?_
              have u0 := hat13.cell 0 rfl
              have u1 := hat13.cell 1 rfl
              have u2 := hat13.cell 2 rfl
              have u3 := hat13.frozen 0
              have u4 := hat13.frozen 1
              have u5 := hat13.frozen 2
              have u6 := hat13.lt
              refine Stg.stepX 13 _ rfl (by kernel_rfl) (by kernel_rfl) (by kernel_rfl) ?_; intro K hK; go_simp
              obtain ⟨w15, hw15⟩ : ∃ w15, ((w13.setCell ⟨w10.heap.size, 0, none⟩ (.slice A11 ml c11)).setCell ⟨w10.heap.size, 1, none⟩ (.slice A12 ll c12)).setCell ⟨w10.heap.size, 2, none⟩ (.bool pr) = w15 := ⟨_, rfl⟩
              rw [hw15]
              have hat15 : Rw.At w15 (w10.heap.size) 81 [.slice A11 ml c11, .slice A12 ll c12, .bool pr] := by rw [← hw15]; exact ((hat13.set 0 _).set 1 _).set 2 _
              have hg15 : w13.grownBy w15 (some (w10.heap.size)) := by rw [← hw15]; exact Rw.grown_trans (Rw.grown_trans (Rw.grown_set _ _ _) (Rw.grown_set _ _ _)) (Rw.grown_set _ _ _)
              have hF15 := hF13.store (i := (9, 1)) (e := 81) (size := 3) (n := 1) (b := w10.heap.size) (cs := [.slice none 0 0, .slice none 0 0, .bool false]) (by simp [Fam.set]) hg15 hat15 rfl (by decide)
              have hxb : w10.heap.size ≤ w10.heap.size := hr10.size
              have hb15 : Below w10.heap.size w10 w15 := hz13.trans (grown_belowB hg15 hz13.size hxb)
              refine hK _ _ (Stg.Keep.of_grown hg15 (by rintro q (rfl | rfl); exact ⟨Nat.lt_of_lt_of_le hq1 hz13.size, some_ne (Nat.lt_of_lt_of_le hq1 hxb)⟩; exact ⟨Nat.lt_of_lt_of_le hq2 hz13.size, some_ne (Nat.lt_of_lt_of_le hq2 hxb)⟩)) ?_
              intro A' hA'; subst hA'
              refine Stg.endX (by kernel_rfl) ?_
              go_wp2_with fail
              go_meet
              exact ⟨A11, c11, A12, c12, w10.heap.size, _, rfl, hF15, by simp [Fam.set], by simp [Fam.set], by simp [Fam.set], fun ix h1 h2 h3 => by simp [Fam.set, h1, h2, h3], hb15⟩
          case rest =>
            obtain ⟨A11, c11, A12, c12, xb, f5, rfl, hF5, h53, h54, h591, hoth, hb15⟩ := hcut
            obtain ⟨w15, rfl⟩ : ∃ q : World, q = wc := ⟨_, rfl⟩
            have HF5 := Lib.hid hF5
            have H53 := Lib.hid h53
            have H54 := Lib.hid h54
            have H591 := Lib.hid h591
            have HOTH := Lib.hid hoth
            have HB15 := Lib.hid hb15
            have HD15 := Lib.hid (HD10.out.below hb15)
            have HM15 := Lib.hid (HM10.out.below hb15)
            have HJ15 := Lib.hid (HJ10.out.below hb15)
            have HBW15 := Lib.hid (HB10.out.trans (hb15.mono HB10.out.size))
            have hbase15 := Nat.le_trans hbase10 hb15.size
            have hxlt := (own_at (hF5.own _ _ h591) (g := xb) rfl)
            have hoE : w15.ownsRow (w1.heap.size + 3) 81 3 ve Mr.length (Ud.flE T X Mr es) := hF5.own (0, 3) _ (by rw [hoth _ (by intro e; cases e) (by intro e; cases e) (by intro e; cases e)]; exact HROWS4.out.e)
            obtain ⟨AE, cE, rfl⟩ := own_form hoE
            have hoF : w15.ownsRow (w1.heap.size + 3) 21 1 (.slice A12 ll c12) ll (Ud.ints lf) := hF5.own _ _ h54
            obtain ⟨fb, fc, hfb, hfb1, hfb2⟩ := hoF.form (by omega)
            obtain ⟨rfl, _, rfl⟩ := Value.slice.inj hfb
            have hoM : w15.ownsRow (w1.heap.size + 3) 21 1 (.slice A11 ml c11) ml (Ud.ints r.2.2) := hF5.own _ _ h53
            obtain ⟨mk, mc, hmk, hmk1, hmk2⟩ := hoM.form (by omega)
            obtain ⟨rfl, _, rfl⟩ := Value.slice.inj hmk
            obtain ⟨hd, tl, hlf'⟩ : ∃ hd tl, lf = hd :: tl := by
              cases lf with
              | nil => have := HLL.out; simp at this; omega
              | cons x l => exact ⟨x, l, rfl⟩
            have HLF := Lib.hid hlf'
            clear hoF hoM hfb hmk hlf'
            have hoX : w15.ownsRow (w1.heap.size + 3) 81 3 (.slice (some ⟨xb, 0, none⟩) 1 1) 1 [.slice (some ⟨mk, 0, none⟩) ml c11, .slice (some ⟨fb, 0, none⟩) ll c12, .bool pr] := hF5.own _ _ h591
            have x0 := own_cell hoX (i := 0) rfl
            have x1 := own_cell hoX (i := 1) rfl
            have x2 := own_cell hoX (i := 2) rfl
            have hD0 := HD15.out
            rw [HML'.out] at hD0
            have HD15' := Lib.hid hD0
            have e1 := Stg.Keep.cells (s := fun q => q = xb ∨ q = w1.heap.size + 1 + 1) (w := w15.drew) (HD15'.out.cell 4 rfl) (.inr rfl)
            have e2 := Stg.Keep.cells (s := fun q => q = xb ∨ q = w1.heap.size + 1 + 1) (w := w15.drew) x0 (.inl rfl)
            have e3 := Stg.Keep.cells (s := fun q => q = xb ∨ q = w1.heap.size + 1 + 1) (w := w15.drew) x1 (.inl rfl)
            have e4 := Stg.Keep.cells (s := fun q => q = xb ∨ q = w1.heap.size + 1 + 1) (w := w15.drew) x2 (.inl rfl)
            have hl1 := HD15'.out.lt
            clear hF5 h53 h54 h591 hoth hb15 hoE hoX x0 x1 x2 hD0 b2 b3
            go_wp2_with fail
            refine Stg.wp_region (Stg.Keep fun q => q = xb ∨ q = w1.heap.size + 1 + 1) (Stg.Keep.rel _) (by kernel_rfl) (by kernel_rfl) (by decide +kernel) ?_
            refine Stg.readW (by kernel_rfl) (by kernel_rfl) (by kernel_rfl) ?_; intro K hK; go_big_quiet_op; go_big_quiet_on
            refine Stg.readW (by kernel_rfl) (by kernel_rfl) (by kernel_rfl) ?_; intro K hK; go_big_quiet_op; go_big_quiet_on
            refine Stg.readW (by kernel_rfl) (by kernel_rfl) (by kernel_rfl) ?_; intro K hK; go_big_quiet_op; go_big_quiet_on
            refine Stg.readW (by kernel_rfl) (by kernel_rfl) (by kernel_rfl) ?_; intro K hK; go_big_quiet_op; go_big_quiet_on
            refine Stg.read 0 (by kernel_rfl) (by kernel_rfl) (by kernel_rfl) w15.drew rfl (by kernel_rfl) ?_; intro K hK; go_big_quiet_op; go_big_quiet_on
            refine Stg.read 0 (by kernel_rfl) (by kernel_rfl) (by kernel_rfl) w15.drew rfl (by kernel_rfl) ?_; intro K hK; go_big_quiet_op; go_big_quiet_on
            refine Stg.stepW w15.drew (by kernel_rfl) (by kernel_rfl) rfl (by kernel_rfl) ?_; intro K hK; go_simp
            obtain ⟨w16, hw16⟩ : ∃ w16, (w15.alloc (.cells #[.slice (some ⟨mk, 0, none⟩) ml c11, .slice (some ⟨fb, 0, none⟩) ll c12, .bool pr] 81)).drew = w16 := ⟨_, rfl⟩
            have hb16 : Below w15.heap.size w15 w16 := by rw [← hw16]; exact ((Below.refl _ _).alloc (Nat.le_refl _) _).drew
            have hsl16 : Sl w16 w16.heap.size (some ⟨w15.heap.size, 0, none⟩) [.slice (some ⟨mk, 0, none⟩) ml c11, .slice (some ⟨fb, 0, none⟩) ll c12, .bool pr] := by rw [← hw16]; exact (Rw.At.new w15 81 [.slice (some ⟨mk, 0, none⟩) ml c11, .slice (some ⟨fb, 0, none⟩) ll c12, .bool pr]).slt.sl
            rw [hw16]
            refine hK _ _ (fun q hq => hb16.block q (by rcases hq with rfl | rfl; exact hxlt.2; exact hl1)) ?_
            intro A' hA'; subst hA'
            have hF16 := HF5.out.below hb16
            have h5e : f5 (0, 3) = some ⟨81, 3, .slice AE Ml cE, Ml, Ud.flE T X Mr es⟩ := by rw [HOTH.out _ (by intro e; cases e) (by intro e; cases e) (by intro e; cases e), HROWS4.out.e, HML'.out]
            refine Stg.stepW w16 (by kernel_rfl) (by kernel_rfl) rfl (by kernel_rfl) ?_; intro K hK
            refine Fam.wp_append w16 _ _ _ rfl hF16 (0, 3) _ h5e l0 _ 56 Tryz.underlying72 hl0 ly0 ly1 ly2 rfl (by show 0 < 3; decide) rfl w16.heap.size (some ⟨w15.heap.size, 0, none⟩) 1 1 [.slice (some ⟨mk, 0, none⟩) ml c11, .slice (some ⟨fb, 0, none⟩) ll c12, .bool pr] rfl rfl hsl16 (by simp [Value.oneCell']) (by simp only [maxLen]; omega) (by simp only; omega) (Nat.le_trans hbase15 hb16.size) ?_
            intro v17 w17 hF17 hb17 hg17
            have hneX := hF16.ne (i := (0, 3)) (j := (9, 1)) (by intro e; cases e) h5e H591.out (b := xb) rfl
            have hneD := hF16.low h5e (b := w1.heap.size + 1 + 1) (by omega)
            have hD17 := (HD15'.out.below hb16).grown hg17 hneD
            refine hK _ _ (Stg.Keep.of_grown hg17 (by rintro q (rfl | rfl); exact ⟨Nat.lt_of_lt_of_le hxlt.2 hb16.size, Ne.symm hneX⟩; exact ⟨Nat.lt_of_lt_of_le hl1 hb16.size, Ne.symm hneD⟩)) ?_
            have hown17 : w17.ownsRow (w1.heap.size + 3) 81 3 v17 (Ml + 1) (Ud.flE T X Mr es ++ [.slice (some ⟨mk, 0, none⟩) ml c11, .slice (some ⟨fb, 0, none⟩) ll c12, .bool pr]) := hF17.own _ _ (Fam.set_same _ _ _)
            obtain ⟨A17, c17, rfl⟩ := own_form hown17
            intro A' hA'; simp only [Act.put, List.setIfInBounds_toArray, List.set_cons_succ, List.set_cons_zero] at hA'; subst hA'
            refine Stg.readW (by kernel_rfl) (by kernel_rfl) (by kernel_rfl) ?_; intro K hK; go_big_quiet_op; go_big_quiet_on
            refine Stg.readW (by kernel_rfl) (by kernel_rfl) (by kernel_rfl) ?_; intro K hK; go_big_quiet_op; go_big_quiet_on
            have u0 := hD17.cell 4 rfl
            have u1 := hD17.frozen 4
            have u2 := hD17.lt
            refine Stg.last w17 (by kernel_rfl) (by kernel_rfl) (by kernel_rfl) rfl (by kernel_rfl) ?_; intro K hK; go_simp
            obtain ⟨w18, hw18⟩ : ∃ w18, w17.setCell ⟨w1.heap.size + 1 + 1, 4, none⟩ (.slice A17 (Ml + 1) c17) = w18 := ⟨_, rfl⟩
            rw [hw18]
            refine hK _ _ ?_
            intro A' hA'; subst hA'
            refine Stg.nil w18 rfl ?_
            have hg18 : w17.grownBy w18 (some (w1.heap.size + 1 + 1)) := by rw [← hw18]; exact Rw.grown_set _ _ _
            obtain ⟨f6, hf6⟩ : ∃ f6, f6 = Fam.set f5 (0, 3) ⟨81, 3, .slice A17 (Ml + 1) c17, Ml + 1, Ud.flE T X Mr es ++ [.slice (some ⟨mk, 0, none⟩) ml c11, .slice (some ⟨fb, 0, none⟩) ll c12, .bool pr]⟩ := ⟨_, rfl⟩
            have HF6 : Hid (Fam w18 (w1.heap.size + 3) f6) := Lib.hid (by rw [hf6]; exact hF17.other hg18 (by omega))
            have HD6 : Hid (Rw.At w18 (w1.heap.size + 1 + 1) 76 (Ud.cells (.slice A7 (Kl + 1) c7) XA xn xc (.slice A17 (Ml + 1) c17) w1.heap.size (w1.heap.size + 1))) := Lib.hid (by rw [← hw18]; exact hD17.set 4 _)
            have HM6 := Lib.hid (((HM15.out.below hb16).grown hg17 (Ne.symm (hF16.low h5e (b := w1.heap.size) (by omega)))).grown hg18 (by simp only [ne_eq, Option.some.injEq]; omega))
            have HJ6 := Lib.hid (((HJ15.out.below hb16).grown hg17 (Ne.symm (hF16.low h5e (b := w1.heap.size + 1) (by omega)))).grown hg18 (by simp only [ne_eq, Option.some.injEq]; omega))
            have HB6 : Hid (Below w1.heap.size w1 w18) := Lib.hid (HBW15.out.trans ((hb16.mono (by omega)).trans ((hb17.mono (by omega)).trans (Below.grown (Below.refl _ _) hg18 (by have := hb16.size; have := hb17.size; omega) (by intro k hk; simp only [Option.some.injEq] at hk; omega)))))
            have hbase6 : w1.heap.size + 3 ≤ w18.heap.size := Nat.le_trans hbase15 (Nat.le_trans hb16.size (Nat.le_trans hb17.size hg18.size))
            have H6o : Hid (∀ ix : Ud.Ix, ix ≠ (0, 3) → f6 ix = f5 ix) := Lib.hid fun ix h => by rw [hf6, Fam.set_other _ _ h]
            have H6e : Hid (f6 (0, 3) = some ⟨81, 3, .slice A17 (Ml + 1) c17, Ml + 1, Ud.flE T X Mr es ++ [.slice (some ⟨mk, 0, none⟩) ml c11, .slice (some ⟨fb, 0, none⟩) ll c12, .bool pr]⟩) := Lib.hid (by rw [hf6, Fam.set_same])
            clear hg18 hF17 hD17 hb17 hg17 hneX hneD hF16 hb16 hsl16 hw16 hw18 hown17 hf6 h5e u0 u1 u2 e1 e2 e3 e4 HD15 HD15' HM15 HJ15 HF5 HBW15 hbase15
            have h6p : f6 (0, 2) = some ⟨102, 2, vp, Ml, Pg.fl (Ud.plG 0 Mr)⟩ := by rw [H6o.out _ (by intro e; cases e), HOTH.out _ (by intro e; cases e) (by intro e; cases e) (by intro e; cases e), HROWS4.out.p, HML'.out]
            have h690 : f6 (9, 0) = some ⟨99, 3, .slice (some ⟨wr.heap.size, 0, none⟩) 1 1, 1, [.int .i32 r.1, .int .i64 r.2.1, .slice a.1 ml a.2]⟩ := by rw [H6o.out _ (by intro e; cases e), HOTH.out _ (by intro e; cases e) (by intro e; cases e) (by intro e; cases e), H490.out]
            have h691 : f6 (9, 1) = some ⟨81, 3, .slice (some ⟨xb, 0, none⟩) 1 1, 1, [.slice (some ⟨mk, 0, none⟩) ml c11, .slice (some ⟨fb, 0, none⟩) ll c12, .bool pr]⟩ := by rw [H6o.out _ (by intro e; cases e), H591.out]
            have hoP : w18.ownsRow (w1.heap.size + 3) 102 2 vp Ml (Pg.fl (Ud.plG 0 Mr)) := HF6.out.own _ _ h6p
            obtain ⟨Ap, cp, rfl⟩ := own_form hoP
            have hoR : w18.ownsRow (w1.heap.size + 3) 99 3 (.slice (some ⟨wr.heap.size, 0, none⟩) 1 1) 1 [.int .i32 r.1, .int .i64 r.2.1, .slice a.1 ml a.2] := HF6.out.own _ _ h690
            have hrlt := (own_at hoR (g := wr.heap.size) rfl).2
            have hDlt := HD6.out.lt
            have e1 := Stg.Keep.cells (s := fun q => q = wr.heap.size ∨ q = w1.heap.size + 1 + 1) (w := w18.drew) (HD6.out.cell 4 rfl) (.inr rfl)
            have e2 := Stg.Keep.cells (s := fun q => q = wr.heap.size ∨ q = w1.heap.size + 1 + 1) (w := w18.drew) (own_cell hoR (i := 0) rfl) (.inl rfl)
            have eM : IntKind.u16.wrap ((Ml : Int) + 1) = (Ml : Int) + 1 := by rw [IntKind.wrap_u16]; omega
            clear hoP hoR
            go_wp2_with fail
            refine Stg.wp_region (Stg.Keep fun q => q = wr.heap.size ∨ q = w1.heap.size + 1 + 1) (Stg.Keep.rel _) (by kernel_rfl) (by kernel_rfl) (by decide +kernel) ?_
            refine Stg.readW (by kernel_rfl) (by kernel_rfl) (by kernel_rfl) ?_; intro K hK; go_big_quiet_op; go_big_quiet_on
            refine Stg.readW (by kernel_rfl) (by kernel_rfl) (by kernel_rfl) ?_; intro K hK; go_big_quiet_op; go_big_quiet_on
            refine Stg.read 0 (by kernel_rfl) (by kernel_rfl) (by kernel_rfl) w18.drew rfl (by kernel_rfl) ?_; intro K hK; go_big_quiet_op; go_big_quiet_on
            refine Stg.readW (by kernel_rfl) (by kernel_rfl) (by kernel_rfl) ?_; intro K hK; go_big_quiet_op; go_big_quiet_on
            refine Stg.readW (by kernel_rfl) (by kernel_rfl) (by kernel_rfl) ?_; intro K hK; go_big_quiet_op; go_big_quiet_on
            refine Stg.readW (by kernel_rfl) (by kernel_rfl) (by kernel_rfl) ?_; intro K hK; go_big_quiet_op; go_big_quiet_on
            refine Stg.read 0 (by kernel_rfl) (by kernel_rfl) (by kernel_rfl) w18.drew rfl (by kernel_rfl) ?_; intro K hK; go_big_quiet_op; go_big_quiet_on
            refine Stg.readW (by kernel_rfl) (by kernel_rfl) (by kernel_rfl) ?_; intro K hK; go_big_quiet_op; go_big_quiet_on
            refine Stg.readW (by kernel_rfl) (by kernel_rfl) (by kernel_rfl) ?_; intro K hK; go_big_quiet_op; go_big_quiet_on
            refine Stg.readW (by kernel_rfl) (by kernel_rfl) (by kernel_rfl) ?_; intro K hK; go_big_quiet_op; go_big_quiet_on
            refine Stg.stepW w18.drew (by kernel_rfl) (by kernel_rfl) rfl (by kernel_rfl) ?_; intro K hK; go_simp
            obtain ⟨w19, hw19⟩ : ∃ w19, (w18.alloc (.cells #[.int .i32 r.1, .int .u16 ((Ml : Int) + 1)] 102)).drew = w19 := ⟨_, rfl⟩
            have hb19 : Below w18.heap.size w18 w19 := by rw [← hw19]; exact ((Below.refl _ _).alloc (Nat.le_refl _) _).drew
            have hsl19 : Sl w19 w19.heap.size (some ⟨w18.heap.size, 0, none⟩) [.int .i32 r.1, .int .u16 ((Ml : Int) + 1)] := by rw [← hw19]; exact (Rw.At.new w18 102 [.int .i32 r.1, .int .u16 ((Ml : Int) + 1)]).slt.sl
            rw [hw19]
            refine hK _ _ (fun q hq => hb19.block q (by rcases hq with rfl | rfl; exact hrlt; exact hDlt)) ?_
            intro A' hA'; subst hA'
            have hF19 := HF6.out.below hb19
            refine Stg.stepW w19 (by kernel_rfl) (by kernel_rfl) rfl (by kernel_rfl) ?_; intro K hK
            refine Fam.wp_append w19 _ _ _ rfl hF19 (0, 2) _ h6p k0 _ 8 Tryz.underlying97 hk0 ky0 ky1 ky2 rfl (by show 0 < 2; decide) rfl w19.heap.size (some ⟨w18.heap.size, 0, none⟩) 1 1 [.int .i32 r.1, .int .u16 ((Ml : Int) + 1)] rfl rfl hsl19 (by simp [Value.oneCell']) (by simp only [maxLen]; omega) (by simp only; omega) (Nat.le_trans hbase6 hb19.size) ?_
            intro v20 w20 hF20 hb20 hg20
            have hneR := hF19.ne (i := (0, 2)) (j := (9, 0)) (by intro e; cases e) h6p h690 (b := wr.heap.size) rfl
            have hneD := fun b (hb : b < w1.heap.size + 3) => hF19.low h6p (b := b) hb
            refine hK _ _ (Stg.Keep.of_grown hg20 (by rintro q (rfl | rfl); exact ⟨Nat.lt_of_lt_of_le hrlt hb19.size, Ne.symm hneR⟩; exact ⟨Nat.lt_of_lt_of_le hDlt hb19.size, Ne.symm (hneD _ (by omega))⟩)) ?_
            have hown20 : w20.ownsRow (w1.heap.size + 3) 102 2 v20 (Ml + 1) (Pg.fl (Ud.plG 0 Mr) ++ [.int .i32 r.1, .int .u16 ((Ml : Int) + 1)]) := hF20.own _ _ (Fam.set_same _ _ _)
            obtain ⟨A20, c20, rfl⟩ := own_form hown20
            intro A' hA'; simp only [Act.put, List.setIfInBounds_toArray, List.set_cons_succ, List.set_cons_zero] at hA'; subst hA'
            refine Stg.readW (by kernel_rfl) (by kernel_rfl) (by kernel_rfl) ?_; intro K hK; go_big_quiet_op; go_big_quiet_on
            refine Stg.nil w20 rfl ?_
            obtain ⟨f7, hf7⟩ : ∃ f7, f7 = Fam.set f6 (0, 2) ⟨102, 2, .slice A20 (Ml + 1) c20, Ml + 1, Pg.fl (Ud.plG 0 Mr) ++ [.int .i32 r.1, .int .u16 ((Ml : Int) + 1)]⟩ := ⟨_, rfl⟩
            have HF7 : Hid (Fam w20 (w1.heap.size + 3) f7) := Lib.hid (by rw [hf7]; exact hF20)
            have HD7 := Lib.hid ((HD6.out.below hb19).grown hg20 (hneD _ (by omega)))
            have HM7 := Lib.hid ((HM6.out.below hb19).grown hg20 (Ne.symm (hneD _ (by omega))))
            have HJ7 := Lib.hid ((HJ6.out.below hb19).grown hg20 (Ne.symm (hneD _ (by omega))))
            have HB7 : Hid (Below w1.heap.size w1 w20) := Lib.hid (HB6.out.trans ((hb19.mono (by omega)).trans (hb20.mono (by omega))))
            have hbase7 := Nat.le_trans hbase6 (Nat.le_trans hb19.size hb20.size)
            have H7o : Hid (∀ ix : Ud.Ix, ix ≠ (0, 2) → f7 ix = f6 ix) := Lib.hid fun ix h => by rw [hf7, Fam.set_other _ _ h]
            have H7p : Hid (f7 (0, 2) = some ⟨102, 2, .slice A20 (Ml + 1) c20, Ml + 1, Pg.fl (Ud.plG 0 Mr) ++ [.int .i32 r.1, .int .u16 ((Ml : Int) + 1)]⟩) := Lib.hid (by rw [hf7, Fam.set_same])
            clear hF20 hb20 hg20 hneR hneD hF19 hb19 hsl19 hw19 hown20 hf7 h6p e1 e2 HF6 HD6 HM6 HJ6 HB6 hbase6
            have hUh : (Ud.full T r.1).headD 0 = hd := by rw [HUF.out, HLF.out]; rfl
            have hdb : -2147483648 ≤ hd ∧ hd ≤ 2147483647 := HLB.out hd (by rw [HLF.out]; exact List.mem_cons_self)
            obtain ⟨nb, hnb⟩ : ∃ k, (Ud.begM T Mr hd).length = k := ⟨_, rfl⟩
            have hnb2 : nb ≤ 10000 := by rw [← hnb]; unfold Ud.begM; rw [List.length_map]; exact Nat.le_trans (List.length_filter_le _ _) (by rw [HML'.out]; exact hMl2)
            obtain ⟨f8, v0, hF8, h81, h8o, hv0⟩ : ∃ f8 v0, Fam w20 (w1.heap.size + 3) f8 ∧ f8 (1, hd) = some (Ud.rowV v0 (Ud.begM T Mr hd)) ∧ (∀ ix : Ud.Ix, ix ≠ (1, hd) → f8 ix = f7 ix) ∧ (G (.int .i32 hd)).getD (.slice none 0 0) = v0 := by
              rcases HBEG4.out hd with ⟨g1, g2⟩ | ⟨v, g1, g2⟩
              · exact ⟨Fam.set f7 (1, hd) (Ud.rowV (.slice none 0 0) []), .slice none 0 0, HF7.out.new (Below.refl _ _) _ (World.ownsRow_nil _ _ _ _) (fun g hg => by simp [Ud.rowV, Value.ownBlock] at hg), by rw [Fam.set_same, g1], fun ix h => Fam.set_other _ _ h, by rw [g2]; rfl⟩
              · exact ⟨f7, v, HF7.out, by rw [H7o.out _ (by intro e; cases e), H6o.out _ (by intro e; cases e), HOTH.out _ (by intro e; cases e) (by intro e; cases e) (by intro e; cases e), g2], fun _ _ => rfl, by rw [g1]; rfl⟩
            have hoB : w20.ownsRow (w1.heap.size + 3) 21 1 v0 (Ud.begM T Mr hd).length (Ud.ints (Ud.begM T Mr hd)) := hF8.own _ _ h81
            rw [hnb] at hoB
            obtain ⟨Ab, cb, rfl⟩ := own_form hoB
            have h890 := (h8o (9, 0) (by intro e; cases e)).trans ((H7o.out _ (by intro e; cases e)).trans h690)
            have h891 := (h8o (9, 1) (by intro e; cases e)).trans ((H7o.out _ (by intro e; cases e)).trans h691)
            have h84 := (h8o (4, (Ml : Int)) (by intro e; cases e)).trans ((H7o.out _ (by intro e; cases e)).trans ((H6o.out _ (by intro e; cases e)).trans H54.out))
            have hoR : w20.ownsRow (w1.heap.size + 3) 99 3 (.slice (some ⟨wr.heap.size, 0, none⟩) 1 1) 1 [.int .i32 r.1, .int .i64 r.2.1, .slice a.1 ml a.2] := hF8.own _ _ h890
            have hoX : w20.ownsRow (w1.heap.size + 3) 81 3 (.slice (some ⟨xb, 0, none⟩) 1 1) 1 [.slice (some ⟨mk, 0, none⟩) ml c11, .slice (some ⟨fb, 0, none⟩) ll c12, .bool pr] := hF8.own _ _ h891
            have hoF : w20.ownsRow (w1.heap.size + 3) 21 1 (.slice (some ⟨fb, 0, none⟩) ll c12) ll (Ud.ints lf) := hF8.own _ _ h84
            have hrlt := (own_at hoR (g := wr.heap.size) rfl).2
            have hxlt' := (own_at hoX (g := xb) rfl).2
            have hflt := (own_at hoF (g := fb) rfl).2
            have hDlt := HD7.out.lt
            have hmlt := HM7.out.lt
            have e1 := Stg.Keep.cells (s := fun q => q = xb ∨ q = w1.heap.size + 1 + 1 ∨ q = wr.heap.size ∨ q = fb ∨ q = w1.heap.size) (w := w20.drew) (HD7.out.cell 5 rfl) (.inr (.inl rfl))
            have e2 := Stg.Keep.cells (s := fun q => q = xb ∨ q = w1.heap.size + 1 + 1 ∨ q = wr.heap.size ∨ q = fb ∨ q = w1.heap.size) (w := w20.drew) (own_cell hoX (i := 1) rfl) (.inl rfl)
            have e3 := Stg.Keep.cells (s := fun q => q = xb ∨ q = w1.heap.size + 1 + 1 ∨ q = wr.heap.size ∨ q = fb ∨ q = w1.heap.size) (w := w20.drew) (own_cell hoF (i := 0) (u := .int .i32 hd) (by rw [HLF.out]; rfl)) (.inr (.inr (.inr (.inl rfl))))
            have e4 := Stg.Keep.cells (s := fun q => q = xb ∨ q = w1.heap.size + 1 + 1 ∨ q = wr.heap.size ∨ q = fb ∨ q = w1.heap.size) (w := w20.drew) (own_cell hoR (i := 0) rfl) (.inr (.inr (.inl rfl)))
            have e5 : ∀ x : Stg.Later (Stg.Keep fun q => q = xb ∨ q = w1.heap.size + 1 + 1 ∨ q = wr.heap.size ∨ q = fb ∨ q = w1.heap.size) w20.drew, (Instr.lookup 73 (.map (some w1.heap.size)) (.int .i32 hd) false).run Tryz.prog x.val = .ok (.slice Ab nb cb) x.val := fun x => Ud.look32 (HM7.out.same (x.rel _ (.inr (.inr (.inr (.inr rfl)))))) hdb hv0
            have hll0 : (0 : Int) < ll := by omega
            have HF8 := Lib.hid hF8
            have H8o := Lib.hid h8o
            have HUH := Lib.hid hUh
            have HNB := Lib.hid hnb
            clear hoR hoX hoF hoB hF8 h8o hv0 hUh hnb
            go_wp2_with fail
            refine Stg.wp_region (Stg.Keep fun q => q = xb ∨ q = w1.heap.size + 1 + 1 ∨ q = wr.heap.size ∨ q = fb ∨ q = w1.heap.size) (Stg.Keep.rel _) (by kernel_rfl) (by kernel_rfl) (by decide +kernel) ?_
            refine Stg.readW (by kernel_rfl) (by kernel_rfl) (by kernel_rfl) ?_; intro K hK; go_big_quiet_op; go_big_quiet_on
            refine Stg.readW (by kernel_rfl) (by kernel_rfl) (by kernel_rfl) ?_; intro K hK; go_big_quiet_op; go_big_quiet_on
            refine Stg.readW (by kernel_rfl) (by kernel_rfl) (by kernel_rfl) ?_; intro K hK; go_big_quiet_op; go_big_quiet_on
            refine Stg.read 0 (by kernel_rfl) (by kernel_rfl) (by kernel_rfl) w20.drew rfl (by kernel_rfl) ?_; intro K hK; go_big_quiet_op; go_big_quiet_on
            refine Stg.readW (by kernel_rfl) (by kernel_rfl) (by kernel_rfl) ?_; intro K hK; go_big_quiet_op; go_big_quiet_on
            refine Stg.read 0 (by kernel_rfl) (by kernel_rfl) (by kernel_rfl) w20.drew rfl (by kernel_rfl) ?_; intro K hK; go_big_quiet_op; go_big_quiet_on
            refine Stg.readW (by kernel_rfl) (by kernel_rfl) (by kernel_rfl) ?_; intro K hK; go_big_quiet_op; go_big_quiet_on
            refine Stg.read 0 (by kernel_rfl) (by kernel_rfl) (by kernel_rfl) w20.drew rfl (by kernel_rfl) ?_; intro K hK; go_big_quiet_op; go_big_quiet_on
            refine Stg.readW (by kernel_rfl) (by kernel_rfl) (by kernel_rfl) ?_; intro K hK; go_big_quiet_op; go_big_quiet_on
            refine Stg.readW (by kernel_rfl) (by kernel_rfl) (by kernel_rfl) ?_; intro K hK; go_big_quiet_op; go_big_quiet_on
            refine Stg.readW (by kernel_rfl) (by kernel_rfl) (by kernel_rfl) ?_; intro K hK; go_big_quiet_op; go_big_quiet_on
            refine Stg.read 0 (by kernel_rfl) (by kernel_rfl) (by kernel_rfl) w20.drew rfl (by kernel_rfl) ?_; intro K hK; go_big_quiet_op; go_big_quiet_on
            refine Stg.readW (by kernel_rfl) (by kernel_rfl) (by kernel_rfl) ?_; intro K hK; go_big_quiet_op; go_big_quiet_on
            refine Stg.read 0 (by kernel_rfl) (by kernel_rfl) (by kernel_rfl) w20.drew rfl (by kernel_rfl) ?_; intro K hK; go_big_quiet_op; go_big_quiet_on
            refine Stg.readW (by kernel_rfl) (by kernel_rfl) (by kernel_rfl) ?_; intro K hK; go_big_quiet_op; go_big_quiet_on
            refine Stg.read 0 (by kernel_rfl) (by kernel_rfl) (by kernel_rfl) w20.drew rfl (by kernel_rfl) ?_; intro K hK; go_big_quiet_op; go_big_quiet_on
            refine Stg.read 0 (by kernel_rfl) (by kernel_rfl) (by kernel_rfl) w20.drew rfl (by kernel_rfl) ?_; intro K hK; go_big_quiet_op; go_big_quiet_on
            refine Stg.readW (by kernel_rfl) (by kernel_rfl) (by kernel_rfl) ?_; intro K hK; go_big_quiet_op; go_big_quiet_on
            refine Stg.read 0 (by kernel_rfl) (by kernel_rfl) (by kernel_rfl) w20.drew rfl (by kernel_rfl) ?_; intro K hK; go_big_quiet_op; go_big_quiet_on
            refine Stg.stepW w20.drew (by kernel_rfl) (by kernel_rfl) rfl (by kernel_rfl) ?_; intro K hK; go_simp
            obtain ⟨w21, hw21⟩ : ∃ w21, (w20.alloc (.cells #[.int .i32 r.1] 21)).drew = w21 := ⟨_, rfl⟩
            have hb21 : Below w20.heap.size w20 w21 := by rw [← hw21]; exact ((Below.refl _ _).alloc (Nat.le_refl _) _).drew
            have hsl21 : Sl w21 w21.heap.size (some ⟨w20.heap.size, 0, none⟩) [.int .i32 r.1] := by rw [← hw21]; exact (Rw.At.new w20 21 [.int .i32 r.1]).slt.sl
            rw [hw21]
            refine hK _ _ (fun q hq => hb21.block q (by rcases hq with rfl | rfl | rfl | rfl | rfl; exact hxlt'; exact hDlt; exact hrlt; exact hflt; exact hmlt)) ?_
            intro A' hA'; subst hA'
            have hF21 := HF8.out.below hb21
            have h81' : f8 (1, hd) = some ⟨21, 1, .slice Ab nb cb, nb, Ud.ints (Ud.begM T Mr hd)⟩ := by rw [h81]; unfold Ud.rowV; rw [HNB.out]
            refine Stg.stepW w21 (by kernel_rfl) (by kernel_rfl) rfl (by kernel_rfl) ?_; intro K hK
            refine Fam.wp_append w21 _ _ _ rfl hF21 (1, hd) _ h81' p0 _ 4 Tryz.underlying36 hp0 py0 py1 py2 rfl (by show 0 < 1; decide) rfl w21.heap.size (some ⟨w20.heap.size, 0, none⟩) 1 1 [.int .i32 r.1] rfl rfl hsl21 (by simp [Value.oneCell']) (by simp only [maxLen]; omega) (by simp only; omega) (Nat.le_trans hbase7 hb21.size) ?_
            intro v22 w22 hF22 hb22 hg22
            have hneR := hF21.ne (i := (1, hd)) (j := (9, 0)) (by intro e; cases e) h81' h890 (b := wr.heap.size) rfl
            have hneX := hF21.ne (i := (1, hd)) (j := (9, 1)) (by intro e; cases e) h81' h891 (b := xb) rfl
            have hneF := hF21.ne (i := (1, hd)) (j := (4, (Ml : Int))) (by intro e; cases e) h81' h84 (b := fb) rfl
            have hneD := fun b (hb : b < w1.heap.size + 3) => hF21.low h81' (b := b) hb
            refine hK _ _ (Stg.Keep.of_grown hg22 (by rintro q (rfl | rfl | rfl | rfl | rfl); exact ⟨Nat.lt_of_lt_of_le hxlt' hb21.size, Ne.symm hneX⟩; exact ⟨Nat.lt_of_lt_of_le hDlt hb21.size, Ne.symm (hneD _ (by omega))⟩; exact ⟨Nat.lt_of_lt_of_le hrlt hb21.size, Ne.symm hneR⟩; exact ⟨Nat.lt_of_lt_of_le hflt hb21.size, Ne.symm hneF⟩; exact ⟨Nat.lt_of_lt_of_le hmlt hb21.size, Ne.symm (hneD _ (by omega))⟩)) ?_
            have hown22 : w22.ownsRow (w1.heap.size + 3) 21 1 v22 (nb + 1) (Ud.ints (Ud.begM T Mr hd) ++ [.int .i32 r.1]) := hF22.own _ _ (Fam.set_same _ _ _)
            obtain ⟨A22, c22, rfl⟩ := own_form hown22
            intro A' hA'; simp only [Act.put, List.setIfInBounds_toArray, List.set_cons_succ, List.set_cons_zero] at hA'; subst hA'
            obtain ⟨w23, G', hput, hM23, hG1, hG2, hg23⟩ := Ud.put32 ((HM7.out.below hb21).grown hg22 (Ne.symm (hneD _ (by omega)))) hdb (.slice A22 (nb + 1) c22)
            refine Stg.last w22 (by kernel_rfl) (by kernel_rfl) (by kernel_rfl) rfl (by kernel_rfl) ?_; intro K hK; go_simp
            refine hK _ _ ?_
            intro A' hA'; subst hA'
            refine Stg.nil w23 rfl ?_
            obtain ⟨f9, hf9⟩ : ∃ f9, f9 = Fam.set f8 (1, hd) ⟨21, 1, .slice A22 (nb + 1) c22, nb + 1, Ud.ints (Ud.begM T Mr hd) ++ [.int .i32 r.1]⟩ := ⟨_, rfl⟩
            have HF9 : Hid (Fam w23 (w1.heap.size + 3) f9) := Lib.hid (by rw [hf9]; exact hF22.other hg23 (by omega))
            have HD9 := Lib.hid (((HD7.out.below hb21).grown hg22 (hneD _ (by omega))).grown hg23 (by simp only [ne_eq, Option.some.injEq]; omega))
            have HM9 := Lib.hid hM23
            have HJ9 := Lib.hid (((HJ7.out.below hb21).grown hg22 (Ne.symm (hneD _ (by omega)))).grown hg23 (by simp only [ne_eq, Option.some.injEq]; omega))
            have HB9 : Hid (Below w1.heap.size w1 w23) := Lib.hid (HB7.out.trans ((hb21.mono (by omega)).trans ((hb22.mono (by omega)).trans (Below.grown (Below.refl _ _) hg23 (by have := hb21.size; have := hb22.size; omega) (by intro k hk; simp only [Option.some.injEq] at hk; omega)))))
            have hbase9 : w1.heap.size + 3 ≤ w23.heap.size := Nat.le_trans hbase7 (Nat.le_trans hb21.size (Nat.le_trans hb22.size hg23.size))
            have H9o : Hid (∀ ix : Ud.Ix, ix ≠ (1, hd) → f9 ix = f7 ix) := Lib.hid fun ix h => by rw [hf9, Fam.set_other _ _ h, H8o.out _ h]
            have H9b : Hid (f9 (1, hd) = some (Ud.rowV (.slice A22 (nb + 1) c22) (Ud.begM T Mr hd ++ [r.1]))) := Lib.hid (by
              rw [hf9, Fam.set_same]
              unfold Ud.rowV Ud.ints
              rw [List.length_append, List.map_append, HNB.out]; rfl)
            have HBEG9 : Hid (Ud.BegI T (Mr ++ [r]) f9 G') := Lib.hid ((HBEG4.out.keep (f' := f7) fun c => by rw [H7o.out _ (by intro e; cases e), H6o.out _ (by intro e; cases e), HOTH.out _ (by intro e; cases e) (by intro e; cases e) (by intro e; cases e)]).add (r := r) (v := .slice A22 (nb + 1) c22) (by rw [HUH.out]; exact hG1) (by rw [HUH.out]; exact hG2) (by rw [HUH.out]; exact H9b.out) (fun c hc => H9o.out _ (by rw [HUH.out] at hc; intro e; simp only [Prod.mk.injEq, true_and] at e; exact hc e)))
            clear hF22 hb22 hg22 hneR hneX hneF hneD hF21 hb21 hsl21 hw21 hown22 hf9 h81 h81' h84 h890 h891 e1 e2 e3 e4 e5 HF7 HD7 HM7 HJ7 HB7 hbase7 hput hM23 hG1 hG2 hg23 HF8 H8o
            have h9s : ∀ ix : Ud.Ix, ix ≠ (1, hd) → ix ≠ (0, 2) → ix ≠ (0, 3) → ix ≠ (3, (Ml : Int)) → ix ≠ (4, (Ml : Int)) → ix ≠ (9, 1) → f9 ix = f4 ix := fun ix k1 k2 k3 k4 k5 k6 => by rw [H9o.out _ k1, H7o.out _ k2, H6o.out _ k3, HOTH.out _ k4 k5 k6]
            have h9i : f9 (0, 4) = some (Ud.rowV vi (Ud.innM T Mr)) := by rw [h9s _ (by intro e; cases e) (by intro e; cases e) (by intro e; cases e) (by intro e; cases e) (by intro e; cases e) (by intro e; cases e)]; exact HROWS4.out.i
            have h9m : f9 (0, 6) = some (Ud.rowV vm (Ud.mpdM Mr)) := by rw [h9s _ (by intro e; cases e) (by intro e; cases e) (by intro e; cases e) (by intro e; cases e) (by intro e; cases e) (by intro e; cases e)]; exact HROWS4.out.m
            have h990 : f9 (9, 0) = some ⟨99, 3, .slice (some ⟨wr.heap.size, 0, none⟩) 1 1, 1, [.int .i32 r.1, .int .i64 r.2.1, .slice a.1 ml a.2]⟩ := (H9o.out (9, 0) (by intro e; cases e)).trans ((H7o.out _ (by intro e; cases e)).trans h690)
            have h991 : f9 (9, 1) = some ⟨81, 3, .slice (some ⟨xb, 0, none⟩) 1 1, 1, [.slice (some ⟨mk, 0, none⟩) ml c11, .slice (some ⟨fb, 0, none⟩) ll c12, .bool pr]⟩ := (H9o.out (9, 1) (by intro e; cases e)).trans ((H7o.out _ (by intro e; cases e)).trans h691)
            have h94 : f9 (4, (Ml : Int)) = some ⟨21, 1, .slice (some ⟨fb, 0, none⟩) ll c12, ll, Ud.ints lf⟩ := (H9o.out _ (by intro e; cases e)).trans ((H7o.out _ (by intro e; cases e)).trans ((H6o.out _ (by intro e; cases e)).trans H54.out))
            have h93 : f9 (3, (Ml : Int)) = some ⟨21, 1, .slice (some ⟨mk, 0, none⟩) ml c11, ml, Ud.ints r.2.2⟩ := (H9o.out _ (by intro e; cases e)).trans ((H7o.out _ (by intro e; cases e)).trans ((H6o.out _ (by intro e; cases e)).trans H53.out))
            obtain ⟨ni, hni⟩ : ∃ k, (Ud.innM T Mr).length = k := ⟨_, rfl⟩
            have hni2 : ni ≤ 310000 := by have := Ud.inn_len (T := T) Ud.full_le Mr; rw [hni] at this; omega
            have hmm' : (Ud.mpdM Mr).length = Ml := by unfold Ud.mpdM; rw [List.length_map, HML'.out]
            have hoI : w23.ownsRow (w1.heap.size + 3) 21 1 vi (Ud.innM T Mr).length (Ud.ints (Ud.innM T Mr)) := HF9.out.own _ _ h9i
            have hoMm : w23.ownsRow (w1.heap.size + 3) 21 1 vm (Ud.mpdM Mr).length (Ud.ints (Ud.mpdM Mr)) := HF9.out.own _ _ h9m
            rw [hni] at hoI
            rw [hmm'] at hoMm
            obtain ⟨Ai, ci, rfl⟩ := own_form hoI
            obtain ⟨Am, cm, rfl⟩ := own_form hoMm
            have h9i' : f9 (0, 4) = some ⟨21, 1, .slice Ai ni ci, ni, Ud.ints (Ud.innM T Mr)⟩ := by rw [h9i]; unfold Ud.rowV; rw [hni]
            have h9m' : f9 (0, 6) = some ⟨21, 1, .slice Am Ml cm, Ml, Ud.ints (Ud.mpdM Mr)⟩ := by rw [h9m]; unfold Ud.rowV; rw [hmm']
            have hoF : w23.ownsRow (w1.heap.size + 3) 21 1 (.slice (some ⟨fb, 0, none⟩) ll c12) ll (Ud.ints lf) := HF9.out.own _ _ h94
            have hcap : ll ≤ c12 := own_cap hoF
            obtain ⟨Ad, hsli, hslD⟩ : ∃ Ad, (∀ W, (Instr.sliceAt 36 (.slice (some ⟨fb, 0, none⟩) ll c12) (some (.int .i64 1)) none none).run Tryz.prog W = .ok (.slice Ad (ll - 1) (c12 - 1)) W) ∧ ∀ W : World, W.ownsRow (w1.heap.size + 3) 21 1 (.slice (some ⟨fb, 0, none⟩) ll c12) ll (Ud.ints lf) → Sl W W.heap.size Ad ((Ud.ints lf).drop 1) := by
              have hu := Tryz.underlying36
              have hone : (1 : Int) ≤ ll := by omega
              have hone' : (ll : Int) ≤ c12 := by omega
              clear HOTH HROWS4 HBEG4 HJOI H490 HKEEP HBEG9
              by_cases hc1 : c12 = 1
              · refine ⟨some ⟨fb, 0, none⟩, fun W => ?_, fun W _ => ?_⟩
                · go_simp
                · have : (Ud.ints lf).drop 1 = [] := List.drop_eq_nil_of_le (by unfold Ud.ints; rw [List.length_map, HLL.out]; omega)
                  rw [this]
                  exact Sl.nil _ _ _
              · refine ⟨some ⟨fb, 1, none⟩, fun W => ?_, fun W h => own_tail h⟩
                go_simp
            have hoR : w23.ownsRow (w1.heap.size + 3) 99 3 (.slice (some ⟨wr.heap.size, 0, none⟩) 1 1) 1 [.int .i32 r.1, .int .i64 r.2.1, .slice a.1 ml a.2] := HF9.out.own _ _ h990
            have hoX : w23.ownsRow (w1.heap.size + 3) 81 3 (.slice (some ⟨xb, 0, none⟩) 1 1) 1 [.slice (some ⟨mk, 0, none⟩) ml c11, .slice (some ⟨fb, 0, none⟩) ll c12, .bool pr] := HF9.out.own _ _ h991
            have hrlt3 := (own_at hoR (g := wr.heap.size) rfl).2
            have hxlt3 := (own_at hoX (g := xb) rfl).2
            have hdl : ((Ud.ints lf).drop 1).length = (ll - 1) * 1 := by rw [List.length_drop]; unfold Ud.ints; rw [List.length_map, HLL.out]; omega
            have HSLD := Lib.hid hslD
            have HSLI := Lib.hid hsli
            have HOR := Lib.hid hoR
            have HOX := Lib.hid hoX
            have hcap1 : ni + (ll - 1) ≤ maxLen := by simp only [maxLen]; omega
            have hcap2 : (ni + (ll - 1)) * 4 ≤ 140737488355328 := by omega
            have hcap3 : Ml + 1 ≤ maxLen := by simp only [maxLen]; omega
            have hcap4 : (Ml + 1) * 4 ≤ 140737488355328 := by omega
            have hone1 : ∀ u ∈ (Ud.ints lf).drop 1, u.oneCell' = true := by intro u hu; unfold Ud.ints at hu; rw [← List.map_drop] at hu; obtain ⟨y, _, rfl⟩ := List.mem_map.1 hu; rfl
            clear hslD hsli hoR hoX hoF hoI hoMm h690 h691 h9i h9m
            go_upto_region 19 with (fail)
            go_cut [8, 10] (fun x y wx => ∃ (Ai' : Option Addr) (ci' : Nat) (Am' : Option Addr) (cm' : Nat) (g : Ud.Ix → Option Fam.Row), x = .slice Ai' (ni + (ll - 1)) ci' ∧ y = .slice Am' (Ml + 1) cm' ∧ Fam wx (w1.heap.size + 3) g ∧
                g (0, 4) = some ⟨21, 1, .slice Ai' (ni + (ll - 1)) ci', ni + (ll - 1), Ud.ints (Ud.innM T Mr) ++ (Ud.ints lf).drop 1⟩ ∧ g (0, 6) = some ⟨21, 1, .slice Am' (Ml + 1) cm', Ml + 1, Ud.ints (Ud.mpdM Mr) ++ [.int .i32 r.1]⟩ ∧ (∀ ix : Ud.Ix, ix ≠ (0, 4) → ix ≠ (0, 6) → ix ≠ (9, 2) → g ix = f9 ix) ∧ Below (w1.heap.size + 3) w23 wx)
            case first =>
              go_wp2_with fail
              have e2 := Stg.Keep.cells (s := fun q => q = xb ∨ q = wr.heap.size) (w := w23.drew) (own_cell HOX.out (i := 1) rfl) (.inl rfl)
              have e4 := Stg.Keep.cells (s := fun q => q = xb ∨ q = wr.heap.size) (w := w23.drew) (own_cell HOR.out (i := 0) rfl) (.inr rfl)
              have e5 := HSLI.out
              refine Stg.wp_regionX (Stg.Keep fun q => q = xb ∨ q = wr.heap.size) (Stg.Keep.rel _) (by kernel_rfl) ?_
              refine Stg.takeX (Stg.Keep.rel _) 0 _ rfl (by kernel_rfl) (by kernel_rfl) (by kernel_rfl) (by kernel_rfl) (by kernel_rfl) ?_; intro K hK; go_big_quiet_op; go_big_quiet_on
              refine Stg.takeX (Stg.Keep.rel _) 1 _ rfl (by kernel_rfl) (by kernel_rfl) (by kernel_rfl) (by kernel_rfl) (by kernel_rfl) ?_; intro K hK; go_big_quiet_op; go_big_quiet_on
              refine Stg.takeX (Stg.Keep.rel _) 2 _ rfl (by kernel_rfl) (by kernel_rfl) (by kernel_rfl) (by kernel_rfl) (by kernel_rfl) ?_; intro K hK; go_big_quiet_op; go_big_quiet_on
              refine Stg.takeX (Stg.Keep.rel _) 3 _ rfl (by kernel_rfl) (by kernel_rfl) (by kernel_rfl) (by kernel_rfl) (by kernel_rfl) ?_; intro K hK; go_big_quiet_op; go_big_quiet_on
              refine Stg.takeX (Stg.Keep.rel _) 5 _ rfl (by kernel_rfl) (by kernel_rfl) (by kernel_rfl) (by kernel_rfl) (by kernel_rfl) ?_; intro K hK; go_big_quiet_op; go_big_quiet_on
              refine Stg.takeX (Stg.Keep.rel _) 6 _ rfl (by kernel_rfl) (by kernel_rfl) (by kernel_rfl) (by kernel_rfl) (by kernel_rfl) ?_; intro K hK; go_big_quiet_op; go_big_quiet_on
              refine Stg.takeX (Stg.Keep.rel _) 7 _ rfl (by kernel_rfl) (by kernel_rfl) (by kernel_rfl) (by kernel_rfl) (by kernel_rfl) ?_; intro K hK; go_big_quiet_op; go_big_quiet_on
              clear e2 e4 e5
              have hr23 : Below w23.heap.size w23 w23.drew := (Below.refl _ _).drew
              have hF0 := HF9.out.below hr23
              refine Stg.two 4 8 (by kernel_rfl) ?_ ?_
              · skip
                refine Stg.stepX 4 _ rfl (by kernel_rfl) (by kernel_rfl) (by kernel_rfl) ?_; intro K hK
                refine Fam.wp_append w23.drew _ _ _ rfl hF0 (0, 4) _ h9i' p0 _ 4 Tryz.underlying36 hp0 py0 py1 py2 rfl Nat.one_pos rfl w23.drew.heap.size Ad (ll - 1) (c12 - 1) ((Ud.ints lf).drop 1) rfl hdl (HSLD.out _ (hF0.own _ _ h94)) hone1 hcap1 hcap2 (Nat.le_trans hbase9 (Nat.le_refl _)) ?_
                intro vi1 wi1 hFi1 hbi1 hgi1
                have hown1 : wi1.ownsRow (w1.heap.size + 3) 21 1 vi1 (ni + (ll - 1)) (Ud.ints (Ud.innM T Mr) ++ (Ud.ints lf).drop 1) := hFi1.own _ _ (Fam.set_same _ _ _)
                obtain ⟨Ai1, ci1, rfl⟩ := own_form hown1
                have hnx1 := hF0.ne (i := (0, 4)) (j := (9, 1)) (by intro e; cases e) h9i' h991 (b := xb) rfl
                have hnr1 := hF0.ne (i := (0, 4)) (j := (9, 0)) (by intro e; cases e) h9i' h990 (b := wr.heap.size) rfl
                refine hK _ _ (Stg.Keep.of_grown hgi1 (by rintro q (rfl | rfl); exact ⟨Nat.lt_of_lt_of_le hxlt3 (Nat.le_refl _), Ne.symm hnx1⟩; exact ⟨Nat.lt_of_lt_of_le hrlt3 (Nat.le_refl _), Ne.symm hnr1⟩)) ?_
                intro A' hA'; simp only [Act.put, List.setIfInBounds_toArray, List.set_cons_succ, List.set_cons_zero] at hA'; subst hA'
                have hsz1 : w23.heap.size ≤ wi1.heap.size := Nat.le_trans (Nat.le_refl _) hbi1.size
                have hbb1 : Below (w1.heap.size + 3) w23 wi1 := (hr23.mono hbase9).trans hbi1
                refine Stg.one 8 (by kernel_rfl) ?_
                refine Stg.stepX 8 _ rfl (by kernel_rfl) (by kernel_rfl) (by kernel_rfl) ?_; intro K hK; go_simp
                obtain ⟨wl2, hwl2⟩ : ∃ wl, wi1.alloc (.cells #[.int .i32 r.1] 21) = wl := ⟨_, rfl⟩
                have hbl2 : Below wi1.heap.size wi1 wl2 := by rw [← hwl2]; exact (Below.refl _ wi1).alloc (Nat.le_refl _) _
                have hFl2 := hFi1.box (Nat.le_trans hbase9 hsz1) (9, 2) [.int .i32 r.1] 21 1 1 rfl (by decide)
                rw [hwl2] at hFl2
                rw [hwl2]
                refine hK _ _ (Stg.Keep.of_below hbl2 (by rintro q (rfl | rfl); exact Nat.lt_of_lt_of_le hxlt3 hsz1; exact Nat.lt_of_lt_of_le hrlt3 hsz1)) ?_
                intro A' hA'; subst hA'
                have hsz2 : w23.heap.size ≤ wl2.heap.size := Nat.le_trans hsz1 hbl2.size
                have hbb2 : Below (w1.heap.size + 3) w23 wl2 := hbb1.trans (hbl2.mono (Nat.le_trans hbase9 hsz1))
                refine Stg.one 9 (by kernel_rfl) ?_
                refine Stg.stepX 9 _ rfl (by kernel_rfl) (by kernel_rfl) (by kernel_rfl) ?_; intro K hK
                refine Fam.wp_append wl2 _ _ _ rfl hFl2 (0, 6) _ ((Fam.set_other _ _ (by intro e; cases e)).trans ((Fam.set_other _ _ (by intro e; cases e)).trans h9m')) p0 _ 4 Tryz.underlying36 hp0 py0 py1 py2 rfl Nat.one_pos rfl wl2.heap.size (some ⟨wi1.heap.size, 0, none⟩) 1 1 [.int .i32 r.1] rfl rfl (Sl.of_own (hFl2.own _ _ (Fam.set_same _ _ _))) (by simp [Value.oneCell']) hcap3 hcap4 (Nat.le_trans hbase9 hsz2) ?_
                intro vm3 wm3 hFm3 hbm3 hgm3
                have hown3 : wm3.ownsRow (w1.heap.size + 3) 21 1 vm3 (Ml + 1) (Ud.ints (Ud.mpdM Mr) ++ [.int .i32 r.1]) := hFm3.own _ _ (Fam.set_same _ _ _)
                obtain ⟨Am3, cm3, rfl⟩ := own_form hown3
                have hnx3 := hFl2.ne (i := (0, 6)) (j := (9, 1)) (by intro e; cases e) ((Fam.set_other _ _ (by intro e; cases e)).trans ((Fam.set_other _ _ (by intro e; cases e)).trans h9m')) ((Fam.set_other _ _ (by intro e; cases e)).trans ((Fam.set_other _ _ (by intro e; cases e)).trans h991)) (b := xb) rfl
                have hnr3 := hFl2.ne (i := (0, 6)) (j := (9, 0)) (by intro e; cases e) ((Fam.set_other _ _ (by intro e; cases e)).trans ((Fam.set_other _ _ (by intro e; cases e)).trans h9m')) ((Fam.set_other _ _ (by intro e; cases e)).trans ((Fam.set_other _ _ (by intro e; cases e)).trans h990)) (b := wr.heap.size) rfl
                refine hK _ _ (Stg.Keep.of_grown hgm3 (by rintro q (rfl | rfl); exact ⟨Nat.lt_of_lt_of_le hxlt3 hsz2, Ne.symm hnx3⟩; exact ⟨Nat.lt_of_lt_of_le hrlt3 hsz2, Ne.symm hnr3⟩)) ?_
                intro A' hA'; simp only [Act.put, List.setIfInBounds_toArray, List.set_cons_succ, List.set_cons_zero] at hA'; subst hA'
                have hsz3 : w23.heap.size ≤ wm3.heap.size := Nat.le_trans hsz2 hbm3.size
                have hbb3 : Below (w1.heap.size + 3) w23 wm3 := hbb2.trans hbm3
                refine Stg.takeX (Stg.Keep.rel _) 10 _ rfl (by kernel_rfl) (by kernel_rfl) (by kernel_rfl) (by kernel_rfl) (by kernel_rfl) ?_; intro K hK; go_big_quiet_op; go_big_quiet_on
                refine Stg.takeX (Stg.Keep.rel _) 11 _ rfl (by kernel_rfl) (by kernel_rfl) (by kernel_rfl) (by kernel_rfl) (by kernel_rfl) ?_; intro K hK; go_big_quiet_op; go_big_quiet_on
                refine Stg.endX (by kernel_rfl) ?_
                go_wp2_with fail
                go_meet
                exact ⟨Ai1, ci1, Am3, cm3, _, rfl, rfl, hFm3, by simp [Fam.set], by simp [Fam.set], fun ix h1 h2 h3 => by simp [Fam.set, h1, h2, h3], hbb3⟩
              · skip
                refine Stg.stepX 8 _ rfl (by kernel_rfl) (by kernel_rfl) (by kernel_rfl) ?_; intro K hK; go_simp
                obtain ⟨wl4, hwl4⟩ : ∃ wl, (w23.alloc (.cells #[.int .i32 r.1] 21)).drew = wl := ⟨_, rfl⟩
                have hbl4 : Below w23.drew.heap.size w23.drew wl4 := by rw [← hwl4]; exact (Below.refl _ w23.drew).alloc (Nat.le_refl _) _
                have hFl4 : Fam wl4 (w1.heap.size + 3) (Fam.set f9 (9, 2) ⟨21, 1, .slice (some ⟨w23.heap.size, 0, none⟩) 1 1, 1, [.int .i32 r.1]⟩) := by rw [← hwl4]; exact hF0.box hbase9 (9, 2) [.int .i32 r.1] 21 1 1 rfl (by decide)
                rw [hwl4]
                refine hK _ _ (Stg.Keep.of_below hbl4 (by rintro q (rfl | rfl); exact Nat.lt_of_lt_of_le hxlt3 (Nat.le_refl _); exact Nat.lt_of_lt_of_le hrlt3 (Nat.le_refl _))) ?_
                intro A' hA'; subst hA'
                have hsz4 : w23.heap.size ≤ wl4.heap.size := Nat.le_trans (Nat.le_refl _) hbl4.size
                have hbb4 : Below (w1.heap.size + 3) w23 wl4 := (hr23.mono hbase9).trans (hbl4.mono (Nat.le_trans hbase9 (Nat.le_refl _)))
                refine Stg.one 4 (by kernel_rfl) ?_
                refine Stg.stepX 4 _ rfl (by kernel_rfl) (by kernel_rfl) (by kernel_rfl) ?_; intro K hK
                refine Fam.wp_append wl4 _ _ _ rfl hFl4 (0, 4) _ ((Fam.set_other _ _ (by intro e; cases e)).trans h9i') p0 _ 4 Tryz.underlying36 hp0 py0 py1 py2 rfl Nat.one_pos rfl wl4.heap.size Ad (ll - 1) (c12 - 1) ((Ud.ints lf).drop 1) rfl hdl (HSLD.out _ (hFl4.own _ _ ((Fam.set_other _ _ (by intro e; cases e)).trans h94))) hone1 hcap1 hcap2 (Nat.le_trans hbase9 hsz4) ?_
                intro vi5 wi5 hFi5 hbi5 hgi5
                have hown5 : wi5.ownsRow (w1.heap.size + 3) 21 1 vi5 (ni + (ll - 1)) (Ud.ints (Ud.innM T Mr) ++ (Ud.ints lf).drop 1) := hFi5.own _ _ (Fam.set_same _ _ _)
                obtain ⟨Ai5, ci5, rfl⟩ := own_form hown5
                have hnx5 := hFl4.ne (i := (0, 4)) (j := (9, 1)) (by intro e; cases e) ((Fam.set_other _ _ (by intro e; cases e)).trans h9i') ((Fam.set_other _ _ (by intro e; cases e)).trans h991) (b := xb) rfl
                have hnr5 := hFl4.ne (i := (0, 4)) (j := (9, 0)) (by intro e; cases e) ((Fam.set_other _ _ (by intro e; cases e)).trans h9i') ((Fam.set_other _ _ (by intro e; cases e)).trans h990) (b := wr.heap.size) rfl
                refine hK _ _ (Stg.Keep.of_grown hgi5 (by rintro q (rfl | rfl); exact ⟨Nat.lt_of_lt_of_le hxlt3 hsz4, Ne.symm hnx5⟩; exact ⟨Nat.lt_of_lt_of_le hrlt3 hsz4, Ne.symm hnr5⟩)) ?_
                intro A' hA'; simp only [Act.put, List.setIfInBounds_toArray, List.set_cons_succ, List.set_cons_zero] at hA'; subst hA'
                have hsz5 : w23.heap.size ≤ wi5.heap.size := Nat.le_trans hsz4 hbi5.size
                have hbb5 : Below (w1.heap.size + 3) w23 wi5 := hbb4.trans hbi5
                refine Stg.one 9 (by kernel_rfl) ?_
                refine Stg.stepX 9 _ rfl (by kernel_rfl) (by kernel_rfl) (by kernel_rfl) ?_; intro K hK
                refine Fam.wp_append wi5 _ _ _ rfl hFi5 (0, 6) _ ((Fam.set_other _ _ (by intro e; cases e)).trans ((Fam.set_other _ _ (by intro e; cases e)).trans h9m')) p0 _ 4 Tryz.underlying36 hp0 py0 py1 py2 rfl Nat.one_pos rfl wi5.heap.size (some ⟨w23.heap.size, 0, none⟩) 1 1 [.int .i32 r.1] rfl rfl (Sl.of_own (hFi5.own _ _ ((Fam.set_other _ _ (by intro e; cases e)).trans (Fam.set_same _ _ _)))) (by simp [Value.oneCell']) hcap3 hcap4 (Nat.le_trans hbase9 hsz5) ?_
                intro vm6 wm6 hFm6 hbm6 hgm6
                have hown6 : wm6.ownsRow (w1.heap.size + 3) 21 1 vm6 (Ml + 1) (Ud.ints (Ud.mpdM Mr) ++ [.int .i32 r.1]) := hFm6.own _ _ (Fam.set_same _ _ _)
                obtain ⟨Am6, cm6, rfl⟩ := own_form hown6
                have hnx6 := hFi5.ne (i := (0, 6)) (j := (9, 1)) (by intro e; cases e) ((Fam.set_other _ _ (by intro e; cases e)).trans ((Fam.set_other _ _ (by intro e; cases e)).trans h9m')) ((Fam.set_other _ _ (by intro e; cases e)).trans ((Fam.set_other _ _ (by intro e; cases e)).trans h991)) (b := xb) rfl
                have hnr6 := hFi5.ne (i := (0, 6)) (j := (9, 0)) (by intro e; cases e) ((Fam.set_other _ _ (by intro e; cases e)).trans ((Fam.set_other _ _ (by intro e; cases e)).trans h9m')) ((Fam.set_other _ _ (by intro e; cases e)).trans ((Fam.set_other _ _ (by intro e; cases e)).trans h990)) (b := wr.heap.size) rfl
                refine hK _ _ (Stg.Keep.of_grown hgm6 (by rintro q (rfl | rfl); exact ⟨Nat.lt_of_lt_of_le hxlt3 hsz5, Ne.symm hnx6⟩; exact ⟨Nat.lt_of_lt_of_le hrlt3 hsz5, Ne.symm hnr6⟩)) ?_
                intro A' hA'; simp only [Act.put, List.setIfInBounds_toArray, List.set_cons_succ, List.set_cons_zero] at hA'; subst hA'
                have hsz6 : w23.heap.size ≤ wm6.heap.size := Nat.le_trans hsz5 hbm6.size
                have hbb6 : Below (w1.heap.size + 3) w23 wm6 := hbb5.trans hbm6
                refine Stg.takeX (Stg.Keep.rel _) 10 _ rfl (by kernel_rfl) (by kernel_rfl) (by kernel_rfl) (by kernel_rfl) (by kernel_rfl) ?_; intro K hK; go_big_quiet_op; go_big_quiet_on
                refine Stg.takeX (Stg.Keep.rel _) 11 _ rfl (by kernel_rfl) (by kernel_rfl) (by kernel_rfl) (by kernel_rfl) (by kernel_rfl) ?_; intro K hK; go_big_quiet_op; go_big_quiet_on
                refine Stg.endX (by kernel_rfl) ?_
                go_wp2_with fail
                go_meet
                exact ⟨Ai5, ci5, Am6, cm6, _, rfl, rfl, hFm6, by simp [Fam.set], by simp [Fam.set], fun ix h1 h2 h3 => by simp [Fam.set, h1, h2, h3], hbb6⟩
            case rest =>
              obtain ⟨Ai', ci', Am', cm', f10, rfl, rfl, hF10', h10i, h10m, h10o, hb24⟩ := hcut
              obtain ⟨w24, rfl⟩ : ∃ q : World, q = wc := ⟨_, rfl⟩
              have HF10' := Lib.hid hF10'
              have HD24 := Lib.hid (HD9.out.below' hb24 (by omega))
              have HM24 := Lib.hid (HM9.out.same (hb24.block _ (by omega)))
              have HJ24 := Lib.hid (HJ9.out.same (hb24.block _ (by omega)))
              have HB24 := Lib.hid (HB9.out.trans (hb24.mono (by omega)))
              have hbase24 := Nat.le_trans hbase9 hb24.size
              have h10s : ∀ ix : Ud.Ix, ix ≠ (0, 4) → ix ≠ (0, 6) → ix ≠ (9, 2) → ix ≠ (1, hd) → ix ≠ (0, 2) → ix ≠ (0, 3) → ix ≠ (3, (Ml : Int)) → ix ≠ (4, (Ml : Int)) → ix ≠ (9, 1) → f10 ix = f4 ix := fun ix k1 k2 k3 k4 k5 k6 k7 k8 k9 => by rw [h10o _ k1 k2 k3, h9s _ k4 k5 k6 k7 k8 k9]
              have H10S := Lib.hid h10s
              have H10O := Lib.hid h10o
              have H10I := Lib.hid h10i
              have H10M := Lib.hid h10m
              have H991 := Lib.hid ((h10o (9, 1) (by intro e; cases e) (by intro e; cases e) (by intro e; cases e)).trans h991)
              have H990 := Lib.hid ((h10o (9, 0) (by intro e; cases e) (by intro e; cases e) (by intro e; cases e)).trans h990)
              have H93 := Lib.hid ((h10o (3, (Ml : Int)) (by intro e; cases e) (by intro e; cases e) (by intro e; cases e)).trans h93)
              have H94 := Lib.hid ((h10o (4, (Ml : Int)) (by intro e; cases e) (by intro e; cases e) (by intro e; cases e)).trans h94)
              have H910 := Lib.hid ((h10o (1, hd) (by intro e; cases e) (by intro e; cases e) (by intro e; cases e)).trans H9b.out)
              have H92 := Lib.hid ((h10o (0, 2) (by intro e; cases e) (by intro e; cases e) (by intro e; cases e)).trans ((H9o.out (0, 2) (by intro e; cases e)).trans H7p.out))
              have H9e := Lib.hid ((h10o (0, 3) (by intro e; cases e) (by intro e; cases e) (by intro e; cases e)).trans ((H9o.out (0, 3) (by intro e; cases e)).trans ((H7o.out (0, 3) (by intro e; cases e)).trans H6e.out)))
              have HNI := Lib.hid hni
              have HMM := Lib.hid hmm'
              have hoX2 : w24.ownsRow (w1.heap.size + 3) 81 3 (.slice (some ⟨xb, 0, none⟩) 1 1) 1 [.slice (some ⟨mk, 0, none⟩) ml c11, .slice (some ⟨fb, 0, none⟩) ll c12, .bool pr] := HF10'.out.own _ _ H991.out
              have x2 := own_cell hoX2 (i := 2) rfl
              have x3 := (own_at hoX2 (g := xb) rfl).2
              have HOX2 := Lib.hid hoX2
              clear hF10' h10i h10m h10o h10s hb24 hoX2 h9s h990 h991 h93 h94 h9i' h9m' HSLD HSLI HOR HOX hdl hcap1 hcap2 hcap3 hcap4 hone1 hrlt3 hxlt3 HF9 HD9 HM9 HJ9 HB9 hbase9 H9o H9b H7o H7p H6o H6e hni hmm'
              have hmr : Ud.mr (T.take (j + 1)) = Mr ++ [r] := by rw [HTK.out, Ud.add_map (by rw [HMLE.out]; exact hml1), HM'.out]
              have HMR := Lib.hid hmr
              have hrows : ∀ (f' : Ud.Ix → Option Fam.Row) (vs' : Value), (∀ ix : Ud.Ix, ix.1 ≤ 5 → ix ≠ (0, 5) → f' ix = f10 ix) → f' (0, 5) = some (Ud.rowV vs' (Ud.secM T X (Mr ++ [r]))) →
                  Ud.Rows T X (Kr ++ [r]) (Mr ++ [r]) f' (.slice A7 (Kl + 1) c7) (.slice A10 (Kl + 1) c10) (.slice A20 (Ml + 1) c20) (.slice A17 (Ml + 1) c17) (.slice Ai' (ni + (ll - 1)) ci') vs' (.slice Am' (Ml + 1) cm') (ads ++ [(A5, c5)]) (es ++ [⟨some ⟨mk, 0, none⟩, c11, some ⟨fb, 0, none⟩, c12⟩]) := by
                intro f' vs' hs h5
                refine HROWS4.out.addM (r := r) (a := ⟨some ⟨mk, 0, none⟩, c11, some ⟨fb, 0, none⟩, c12⟩) ?_ ?_ ?_ ?_ h5 ?_ ?_ ?_ ?_ (fun q => ?_) (fun q hq => ?_) (fun q hq => ?_)
                · rw [hs _ (Nat.zero_le _) (by intro e; cases e), HML'.out]; exact H92.out
                · rw [hs _ (Nat.zero_le _) (by intro e; cases e), HML'.out, HMLE.out, HUF.out, HLL.out, HPRM.out]; exact H9e.out
                · rw [hs _ (Nat.zero_le _) (by intro e; cases e), H10I.out, HUF.out]
                  unfold Ud.rowV Ud.ints
                  rw [List.length_append, HNI.out, List.length_drop, HLL.out, List.map_append, List.map_drop]
                · rw [hs _ (Nat.zero_le _) (by intro e; cases e), H10M.out]
                  unfold Ud.rowV Ud.ints
                  rw [List.length_append, HMM.out, List.map_append]; rfl
                · rw [hs _ (by show (3 : Nat) ≤ 5; decide) (by intro e; cases e), HML'.out, H93.out]
                  unfold Ud.rowOf
                  rw [HMLE.out]
                · rw [hs _ (by show (4 : Nat) ≤ 5; decide) (by intro e; cases e), HML'.out, H94.out]
                  unfold Ud.rowOf
                  rw [HUF.out, HLL.out]
                · rw [hs _ (Nat.zero_le _) (by intro e; cases e), H10S.out _ (by intro e; cases e) (by intro e; cases e) (by intro e; cases e) (by intro e; cases e) (by intro e; cases e) (by intro e; cases e) (by intro e; cases e) (by intro e; cases e) (by intro e; cases e)]
                · rw [hs _ (Nat.zero_le _) (by intro e; cases e), H10S.out _ (by intro e; cases e) (by intro e; cases e) (by intro e; cases e) (by intro e; cases e) (by intro e; cases e) (by intro e; cases e) (by intro e; cases e) (by intro e; cases e) (by intro e; cases e)]
                · rw [hs _ (by show (2 : Nat) ≤ 5; decide) (by intro e; cases e), H10S.out _ (by intro e; cases e) (by intro e; cases e) (by intro e; cases e) (by intro e; cases e) (by intro e; cases e) (by intro e; cases e) (by intro e; cases e) (by intro e; cases e) (by intro e; cases e)]
                · rw [HML'.out] at hq
                  rw [hs _ (by show (3 : Nat) ≤ 5; decide) (by intro e; cases e), H10S.out _ (by intro e; cases e) (by intro e; cases e) (by intro e; cases e) (by intro e; cases e) (by intro e; cases e) (by intro e; cases e) (by intro e; simp only [Prod.mk.injEq, true_and] at e; exact hq e) (by intro e; cases e) (by intro e; cases e)]
                · rw [HML'.out] at hq
                  rw [hs _ (by show (4 : Nat) ≤ 5; decide) (by intro e; cases e), H10S.out _ (by intro e; cases e) (by intro e; cases e) (by intro e; cases e) (by intro e; cases e) (by intro e; cases e) (by intro e; cases e) (by intro e; cases e) (by intro e; simp only [Prod.mk.injEq, true_and] at e; exact hq e) (by intro e; cases e)]
              have h10v : f10 (0, 5) = some (Ud.rowV vs (Ud.secM T X Mr)) := by rw [H10S.out _ (by intro e; cases e) (by intro e; cases e) (by intro e; cases e) (by intro e; cases e) (by intro e; cases e) (by intro e; cases e) (by intro e; cases e) (by intro e; cases e) (by intro e; cases e)]; exact HROWS4.out.s
              have hbeg : ∀ f' : Ud.Ix → Option Fam.Row, (∀ ix : Ud.Ix, ix.1 ≤ 5 → ix ≠ (0, 5) → f' ix = f10 ix) → Ud.BegI T (Mr ++ [r]) f' G' := fun f' hs => HBEG9.out.keep fun c => by rw [hs _ (by show (1 : Nat) ≤ 5; decide) (by intro e; cases e), H10O.out _ (by intro e; cases e) (by intro e; cases e) (by intro e; cases e)]
              have HRWS := Lib.hid hrows
              have HBGS := Lib.hid hbeg
              have H10V := Lib.hid h10v
              clear hmr hrows hbeg h10v HROWS4 HBEG4 HBEG9 H10S H10O H10I H10M H92 H9e H910
              cases pr with
              | false =>
                have hsec : Ud.secM T X (Mr ++ [r]) = Ud.secM T X Mr := by rw [Ud.secM_app, HPRM.out]; rfl
                have hinv' : Ud.Inv T X (Ud.keep (T.take (j + 1))) (Ud.mr (T.take (j + 1))) w24 (w1.heap.size + 3) (w1.heap.size + 1 + 1) w1.heap.size (w1.heap.size + 1) XA xn xc (.slice A10 (Kl + 1) c10) (.slice A20 (Ml + 1) c20) (.slice Ai' (ni + (ll - 1)) ci') vs (.slice Am' (Ml + 1) cm') := by
                  rw [HKEEP.out, HMR.out]
                  exact ⟨f10, _, _, _, _, G', J, HF10'.out, HD24.out, HM24.out, HJ24.out, hbase24, HRWS.out f10 vs (fun _ _ _ => rfl) (by rw [hsec]; exact H10V.out), HBGS.out f10 (fun _ _ _ => rfl), HJOI.out.no HPRM.out⟩
                have HI' := Lib.hid hinv'
                clear hinv' hsec
                go_wp2_with fail
                exact ⟨⟨j + 1, _, _, _, _, _, by omega, by go_num, rfl, rfl, rfl, rfl, rfl, HI'.out, HB24.out⟩, by simp [intOf]; omega⟩
              | true =>
                obtain ⟨m0, m1, hm2⟩ := Ud.prim_two HRG.out HUOK.out.rises HRM.out HPRM.out
                have hml2 : ml = 2 := by rw [← HMLE.out, hm2]; rfl
                have hm0b := HRB.out.2 m0 (by rw [hm2]; simp)
                have hm1b := HRB.out.2 m1 (by rw [hm2]; simp)
                have hoM2 : w24.ownsRow (w1.heap.size + 3) 21 1 (.slice (some ⟨mk, 0, none⟩) ml c11) ml (Ud.ints r.2.2) := HF10'.out.own _ _ H93.out
                have hmk2 := (own_at hoM2 (g := mk) rfl).2
                have hoR2 : w24.ownsRow (w1.heap.size + 3) 99 3 (.slice (some ⟨wr.heap.size, 0, none⟩) 1 1) 1 [.int .i32 r.1, .int .i64 r.2.1, .slice a.1 ml a.2] := HF10'.out.own _ _ H990.out
                have y0 : w24.cell? ⟨mk, 0, none⟩ = some (.int .i32 m0) := own_cell hoM2 (by rw [hm2]; rfl)
                have y1 : w24.cell? ⟨mk, 1, none⟩ = some (.int .i32 m1) := own_cell hoM2 (by rw [hm2]; rfl)
                have e1 := Stg.Keep.cells (s := fun q => q = xb ∨ q = w1.heap.size + 1 + 1 ∨ q = wr.heap.size ∨ q = mk) (w := w24.drew) (HD24.out.cell 6 rfl) (.inr (.inl rfl))
                have e2 := Stg.Keep.cells (s := fun q => q = xb ∨ q = w1.heap.size + 1 + 1 ∨ q = wr.heap.size ∨ q = mk) (w := w24.drew) (own_cell HOX2.out (i := 0) rfl) (.inl rfl)
                have e3 := Stg.Keep.cells (s := fun q => q = xb ∨ q = w1.heap.size + 1 + 1 ∨ q = wr.heap.size ∨ q = mk) (w := w24.drew) y0 (.inr (.inr (.inr rfl)))
                have e4 := Stg.Keep.cells (s := fun q => q = xb ∨ q = w1.heap.size + 1 + 1 ∨ q = wr.heap.size ∨ q = mk) (w := w24.drew) y1 (.inr (.inr (.inr rfl)))
                have e5 := Stg.Keep.cells (s := fun q => q = xb ∨ q = w1.heap.size + 1 + 1 ∨ q = wr.heap.size ∨ q = mk) (w := w24.drew) (own_cell hoR2 (i := 0) rfl) (.inr (.inr (.inl rfl)))
                have hi0 : (0 : Int) < ml := by omega
                have hi1 : (1 : Int) < ml := by omega
                obtain ⟨w25, J', hput, hJ25, hJ1, hJ2, hg25⟩ := Ud.putP (w := w24.drew) (HJ24.out.same rfl) hm0b hm1b (.int .i32 r.1)
                clear hoR2 hoM2 y0 y1
                go_wp2_with fail
                refine Stg.wp_region (Stg.Keep fun q => q = xb ∨ q = w1.heap.size + 1 + 1 ∨ q = wr.heap.size ∨ q = mk) (Stg.Keep.rel _) (by kernel_rfl) (by kernel_rfl) (by decide +kernel) ?_
                refine Stg.readW (by kernel_rfl) (by kernel_rfl) (by kernel_rfl) ?_; intro K hK; go_big_quiet_op; go_big_quiet_on
                refine Stg.readW (by kernel_rfl) (by kernel_rfl) (by kernel_rfl) ?_; intro K hK; go_big_quiet_op; go_big_quiet_on
                refine Stg.readW (by kernel_rfl) (by kernel_rfl) (by kernel_rfl) ?_; intro K hK; go_big_quiet_op; go_big_quiet_on
                refine Stg.read 0 (by kernel_rfl) (by kernel_rfl) (by kernel_rfl) w24.drew rfl (by kernel_rfl) ?_; intro K hK; go_big_quiet_op; go_big_quiet_on
                refine Stg.readW (by kernel_rfl) (by kernel_rfl) (by kernel_rfl) ?_; intro K hK; go_big_quiet_op; go_big_quiet_on
                refine Stg.read 0 (by kernel_rfl) (by kernel_rfl) (by kernel_rfl) w24.drew rfl (by kernel_rfl) ?_; intro K hK; go_big_quiet_op; go_big_quiet_on
                refine Stg.readW (by kernel_rfl) (by kernel_rfl) (by kernel_rfl) ?_; intro K hK; go_big_quiet_op; go_big_quiet_on
                refine Stg.read 0 (by kernel_rfl) (by kernel_rfl) (by kernel_rfl) w24.drew rfl (by kernel_rfl) ?_; intro K hK; go_big_quiet_op; go_big_quiet_on
                refine Stg.readW (by kernel_rfl) (by kernel_rfl) (by kernel_rfl) ?_; intro K hK; go_big_quiet_op; go_big_quiet_on
                refine Stg.read 0 (by kernel_rfl) (by kernel_rfl) (by kernel_rfl) w24.drew rfl (by kernel_rfl) ?_; intro K hK; go_big_quiet_op; go_big_quiet_on
                refine Stg.readW (by kernel_rfl) (by kernel_rfl) (by kernel_rfl) ?_; intro K hK; go_big_quiet_op; go_big_quiet_on
                refine Stg.read 0 (by kernel_rfl) (by kernel_rfl) (by kernel_rfl) w24.drew rfl (by kernel_rfl) ?_; intro K hK; go_big_quiet_op; go_big_quiet_on
                refine Stg.readW (by kernel_rfl) (by kernel_rfl) (by kernel_rfl) ?_; intro K hK; go_big_quiet_op; go_big_quiet_on
                refine Stg.readW (by kernel_rfl) (by kernel_rfl) (by kernel_rfl) ?_; intro K hK; go_big_quiet_op; go_big_quiet_on
                refine Stg.read 0 (by kernel_rfl) (by kernel_rfl) (by kernel_rfl) w24.drew rfl (by kernel_rfl) ?_; intro K hK; go_big_quiet_op; go_big_quiet_on
                refine Stg.last w24.drew (by kernel_rfl) (by kernel_rfl) (by kernel_rfl) rfl (by kernel_rfl) ?_; intro K hK; go_simp
                refine hK _ _ ?_
                intro A' hA'; subst hA'
                refine Stg.nil w25 rfl ?_
                have hbd : Below w24.heap.size w24 w24.drew := (Below.refl _ _).drew
                have HF25 : Hid (Fam w25 (w1.heap.size + 3) f10) := Lib.hid ((HF10'.out.below hbd).other hg25 (by omega))
                have HD25 := Lib.hid ((HD24.out.below hbd).grown hg25 (by simp only [ne_eq, Option.some.injEq]; omega))
                have HM25 := Lib.hid ((HM24.out.below hbd).grown hg25 (by simp only [ne_eq, Option.some.injEq]; omega))
                have HJ25 := Lib.hid hJ25
                have HB25 : Hid (Below w1.heap.size w1 w25) := Lib.hid (HB24.out.trans ((hbd.mono (by omega)).trans (grown_belowB hg25 (Nat.le_trans (by omega) hbase24) (by omega))))
                have hbase25 := Nat.le_trans hbase24 hg25.size
                have HJOI2 : Hid (Ud.JoiI T X (Mr ++ [r]) J') := Lib.hid (HJOI.out.add HPRM.out (by rw [hm2]; exact hJ1) (by rw [hm2]; exact hJ2))
                have hsec : Ud.secM T X (Mr ++ [r]) = Ud.secM T X Mr ++ [m1] := by rw [Ud.secM_app, HPRM.out, if_pos rfl, hm2]; rfl
                have HSEC := Lib.hid hsec
                have hoX3 : w25.ownsRow (w1.heap.size + 3) 81 3 (.slice (some ⟨xb, 0, none⟩) 1 1) 1 [.slice (some ⟨mk, 0, none⟩) ml c11, .slice (some ⟨fb, 0, none⟩) ll c12, .bool true] := HF25.out.own _ _ H991.out
                have hoM3 : w25.ownsRow (w1.heap.size + 3) 21 1 (.slice (some ⟨mk, 0, none⟩) ml c11) ml (Ud.ints r.2.2) := HF25.out.own _ _ H93.out
                obtain ⟨ns, hns⟩ : ∃ k, (Ud.secM T X Mr).length = k := ⟨_, rfl⟩
                have hns2 : ns ≤ 10000 := by rw [← hns]; unfold Ud.secM Ud.prsM; rw [List.length_map]; exact Nat.le_trans (List.length_filter_le _ _) (by rw [HML'.out]; exact hMl2)
                have hoS : w25.ownsRow (w1.heap.size + 3) 21 1 vs (Ud.secM T X Mr).length (Ud.ints (Ud.secM T X Mr)) := HF25.out.own _ _ H10V.out
                rw [hns] at hoS
                obtain ⟨As, cs, rfl⟩ := own_form hoS
                have h5s : f10 (0, 5) = some ⟨21, 1, .slice As ns cs, ns, Ud.ints (Ud.secM T X Mr)⟩ := by rw [H10V.out]; unfold Ud.rowV; rw [hns]
                have x0 := own_cell hoX3 (i := 0) rfl
                have y1 : w25.cell? ⟨mk, 1, none⟩ = some (.int .i32 m1) := own_cell hoM3 (by rw [hm2]; rfl)
                have x4 := (own_at hoX3 (g := xb) rfl).2
                have y4 := (own_at hoM3 (g := mk) rfl).2
                obtain ⟨w26, hw26⟩ : ∃ w26, w25.alloc (.cells #[.int .i32 m1] 21) = w26 := ⟨_, rfl⟩
                have hb26 : Below w25.heap.size w25 w26 := by rw [← hw26]; exact (Below.refl _ _).alloc (Nat.le_refl _) _
                have hsl26 : Sl w26 w26.heap.size (some ⟨w25.heap.size, 0, none⟩) [.int .i32 m1] := by rw [← hw26]; exact (Rw.At.new w25 21 [.int .i32 m1]).slt.sl
                have HF26 := Lib.hid (HF25.out.below hb26)
                have HB26 := Lib.hid hb26
                have HW26 := Lib.hid hw26
                have HSL26 := Lib.hid hsl26
                have hbase26 := Nat.le_trans hbase25 hb26.size
                have HNS := Lib.hid hns
                clear hput hJ25 hJ1 hJ2 hg25 hbd hsec hoX3 hoM3 hoS hns hb26 hw26 hsl26 e1 e2 e3 e4 e5 x2 x3 hmk2
                go_upto_region 23 with (first | (at_builtin; rw [HW26.out]; refine Fam.wpList_append w26 rfl _ _ _ rfl HF26.out (0, 5) _ h5s p0 _ 4 Tryz.underlying36 hp0 py0 py1 py2 rfl Nat.one_pos rfl w26.heap.size (some ⟨w25.heap.size, 0, none⟩) 1 1 [.int .i32 m1] rfl rfl HSL26.out (by simp [Value.oneCell']) (by simp only [maxLen]; omega) (by simp only; omega) hbase26 ?_; intro v27 w27 hF27 hb27 hg27) | fail)
                have hneD := fun b (hb : b < w1.heap.size + 3) => HF26.out.low h5s (b := b) hb
                have hown27 : w27.ownsRow (w1.heap.size + 3) 21 1 v27 (ns + 1) (Ud.ints (Ud.secM T X Mr) ++ [.int .i32 m1]) := hF27.own _ _ (Fam.set_same _ _ _)
                have hinv' : Ud.Inv T X (Ud.keep (T.take (j + 1))) (Ud.mr (T.take (j + 1))) w27 (w1.heap.size + 3) (w1.heap.size + 1 + 1) w1.heap.size (w1.heap.size + 1) XA xn xc (.slice A10 (Kl + 1) c10) (.slice A20 (Ml + 1) c20) (.slice Ai' (ni + (ll - 1)) ci') v27 (.slice Am' (Ml + 1) cm') := by
                  rw [HKEEP.out, HMR.out]
                  refine ⟨_, _, _, _, _, G', J', hF27, (HD25.out.below HB26.out).grown hg27 (hneD _ (by omega)), (HM25.out.below HB26.out).grown hg27 (Ne.symm (hneD _ (by omega))), (HJ25.out.below HB26.out).grown hg27 (Ne.symm (hneD _ (by omega))), Nat.le_trans hbase26 hb27.size, HRWS.out _ v27 (fun ix _ h => Fam.set_other _ _ h) ?_, HBGS.out _ (fun ix _ h => Fam.set_other _ _ h), HJOI2.out⟩
                  rw [Fam.set_same, HSEC.out]
                  unfold Ud.rowV Ud.ints
                  rw [List.length_append, HNS.out, List.map_append]; rfl
                have HI' := Lib.hid hinv'
                have HB27 : Hid (Below w1.heap.size w1 w27) := Lib.hid (HB25.out.trans ((HB26.out.mono (by omega)).trans (hb27.mono (by omega))))
                obtain ⟨A27, c27, rfl⟩ := own_form hown27
                clear hinv' hF27 hb27 hg27 hneD hown27 x0 y1
                go_wp2_with fail
                exact ⟨⟨j + 1, _, _, _, _, _, by omega, by go_num, rfl, rfl, rfl, rfl, rfl, HI'.out, HB27.out⟩, by simp [intOf]; omega⟩
        · have hml0 : ml = 0 := by have := beq_iff_eq.1 hz; omega
          have hnil : r.2.2 = [] := List.eq_nil_of_length_eq_zero (by rw [HMLE.out]; exact hml0)
          have hmr : Ud.mr (T.take (j + 1)) = Mr := by rw [HTK.out, Ud.add_plain hnil, HM'.out]
          have hinv' : Ud.Inv T X (Ud.keep (T.take (j + 1))) (Ud.mr (T.take (j + 1))) w10 (w1.heap.size + 3) (w1.heap.size + 1 + 1) w1.heap.size (w1.heap.size + 1) XA xn xc (.slice A10 (Kl + 1) c10) vp vi vs vm := by
            rw [HKEEP.out, hmr]
            exact ⟨f4, _, ve, _, es, G, J, HF10.out, HD10.out, HM10.out, HJ10.out, hbase10, HROWS4.out, HBEG4.out, HJOI.out⟩
          have HI' := Lib.hid hinv'
          clear hinv' hmr hnil hml0
          go_wp2_with fail
          exact ⟨⟨j + 1, _, _, _, _, _, by omega, by go_num, rfl, rfl, rfl, rfl, rfl, HI'.out, HB10.out⟩, by simp [intOf]; omega⟩
    · obtain rfl : n = j := by omega
      have htn : T.take n = T := List.take_of_length_le (by rw [HN.out]; exact Nat.le_refl _)
      obtain ⟨f, vT, ve, ads, es, G, J, hF, hD, hM, hJ, hbase, hRows, hBeg, hJoi⟩ := HINVR.out
      rw [htn] at hRows hBeg hJoi
      obtain ⟨Kr, hKr⟩ : ∃ K, Ud.keep T = K := ⟨_, rfl⟩
      obtain ⟨Mr, hMr⟩ : ∃ M, Ud.mr T = M := ⟨_, rfl⟩
      have hKl : Kr.length ≤ 10000 := by rw [← hKr]; unfold Ud.keep; exact Nat.le_trans (List.length_filter_le _ _) (by rw [HN.out]; exact hn4)
      have hMl : Mr.length ≤ 10000 := by rw [← hMr]; unfold Ud.mr; exact Nat.le_trans (List.length_filter_le _ _) (by rw [HN.out]; exact hn4)
      have hcK : Pg.cellsOk (Ud.clK Kr) := by
        intro x hx
        unfold Ud.clK at hx
        obtain ⟨r, hr, rfl⟩ := List.mem_map.1 hx
        rw [← hKr] at hr
        have hrT := (Ud.mem_keep.1 hr).1
        have h1 := (HBD.out r hrT).1
        have h2 := HGOOD.out r hrT
        exact ⟨h1.1, h1.2, h2.2.1, by have := h2.2.2.1; show r.2.1 ≤ 65535; omega⟩
      have hcM : Pg.cellsOk (Ud.plG 0 Mr) := by
        intro x hx
        obtain ⟨q, hq⟩ := List.mem_iff_getElem?.1 hx
        rw [Ud.plG_get] at hq
        cases hr : Mr[q]? with
        | none => rw [hr] at hq; cases hq
        | some r =>
          rw [hr, Option.map_some, Option.some.injEq] at hq
          subst hq
          have hl := (List.getElem?_eq_some_iff.1 hr).1
          have hrM := List.mem_of_getElem? hr
          rw [← hMr] at hrM
          have h1 := (HBD.out r (Ud.mem_mr.1 hrM).1).1
          exact ⟨h1.1, h1.2, by show (0 : Int) ≤ ((0 + q : Nat) : Int) + 1; omega, by show ((0 + q : Nat) : Int) + 1 ≤ 65535; omega⟩
      rw [hKr, hMr] at hRows
      rw [hMr] at hBeg hJoi
      have hoC : wr.ownsRow (w1.heap.size + 3) 102 2 vc Kr.length (Pg.fl (Ud.clK Kr)) := hF.own _ _ hRows.c
      obtain ⟨Ac, cc, rfl⟩ := own_form hoC
      have hoP : wr.ownsRow (w1.heap.size + 3) 102 2 vp Mr.length (Pg.fl (Ud.plG 0 Mr)) := hF.own _ _ hRows.p
      obtain ⟨Ap, cp, rfl⟩ := own_form hoP
      have hPN1 := fun W (hW : Below wr.heap.size wr W) => Pg.new_lo Ac Kr.length cc (Ud.clK Kr) W (by unfold Ud.clK; rw [List.length_map]) hcK ((Sl.of_own hoC).below hW hW.size) (by simp only [maxLen]; omega)
      have hplen : (Ud.plG 0 Mr).length = Mr.length := by
        have h1 := congrArg List.length (List.map_congr_left (f := fun (x : Int × Int) => x.1) (l := Ud.plG 0 Mr) fun x _ => rfl)
        have : ∀ (l : List Rw.Row) (k : Nat), (Ud.plG k l).length = l.length := by
          intro l
          induction l with
          | nil => intro k; rfl
          | cons r l ih => intro k; simp [Ud.plG, ih]
        exact this _ _
      have hPN2 := fun W (hW : Below wr.heap.size wr W) => Pg.new_lo Ap Mr.length cp (Ud.plG 0 Mr) W hplen hcM ((Sl.of_own hoP).below hW hW.size) (by simp only [maxLen]; omega)
      have HPN1 := Lib.hid hPN1
      have HPN2 := Lib.hid hPN2
      have HF := Lib.hid hF
      have HD := Lib.hid hD
      have HM := Lib.hid hM
      have HJ := Lib.hid hJ
      have HROWS := Lib.hid hRows
      have HBEG := Lib.hid hBeg
      have HJOI := Lib.hid hJoi
      have HKR := Lib.hid hKr
      have HMR := Lib.hid hMr
      have hlD := hD.lt
      clear hPN1 hPN2 hF hD hM hJ hRows hBeg hJoi hKr hMr hoC hoP hcK hcM hplen htn hATr hbel
      go_wp2_with fail
      refine (HPN1.out wr (Below.refl _ _)).mono ?_
      rintro e wp1 ⟨pc, rfl, hpc, hbp1⟩
      have hpc' := hpc
      obtain ⟨gc, Agc, cgc, rfl, _⟩ := hpc'
      have HPC := Lib.hid hpc
      have HBP1 := Lib.hid hbp1
      clear hpc hbp1
      go_wp2_with fail
      refine (HPN2.out wp1 HBP1.out).mono ?_
      rintro e wp2 ⟨pp, rfl, hpp, hbp2⟩
      have hpp' := hpp
      obtain ⟨gp, Agp, cgp, rfl, _⟩ := hpp'
      have HPP := Lib.hid hpp
      have HBP2 := Lib.hid hbp2
      have HBP := Lib.hid (HBP1.out.trans (hbp2.mono HBP1.out.size))
      clear hpp hbp2
      have hDp := HD.out.below HBP.out
      have u0 := hDp.cell 2 rfl
      have u1 := hDp.cell 3 rfl
      have u2 := hDp.frozen 2
      have u3 := hDp.frozen 3
      have u4 := hDp.lt
      obtain ⟨w30, hw30⟩ : ∃ w30, (wp2.setCell ⟨w1.heap.size + 1 + 1, 2, none⟩ (.pointer (some ⟨gc, 0, none⟩))).setCell ⟨w1.heap.size + 1 + 1, 3, none⟩ (.pointer (some ⟨gp, 0, none⟩)) = w30 := ⟨_, rfl⟩
      have HW30 := Lib.hid hw30
      have hg30 : wp2.grownBy w30 (some (w1.heap.size + 1 + 1)) := by rw [← hw30]; exact Rw.grown_trans (Rw.grown_set _ _ _) (Rw.grown_set _ _ _)
      have HD30 : Hid (Rw.At w30 (w1.heap.size + 1 + 1) 76 [vT, .slice XA xn xc, .pointer (some ⟨gc, 0, none⟩), .pointer (some ⟨gp, 0, none⟩), ve, .map (some w1.heap.size), .map (some (w1.heap.size + 1)), .slice none 0 0, .slice none 0 0, .slice none 0 0]) := Lib.hid (by rw [← hw30]; exact (hDp.set 2 _).set 3 _)
      have HG30 := Lib.hid hg30
      have HF30 := Lib.hid ((HF.out.below HBP.out).other hg30 (by omega))
      have HM30 := Lib.hid ((HM.out.below HBP.out).grown hg30 (by simp only [ne_eq, Option.some.injEq]; omega))
      have HJ30 := Lib.hid ((HJ.out.below HBP.out).grown hg30 (by simp only [ne_eq, Option.some.injEq]; omega))
      have HPC30 := Lib.hid (((Pg.IsL.below HPC.out HBP2.out).grown hg30 hlD))
      have HPP30 := Lib.hid ((Pg.IsL.grown HPP.out hg30 (Nat.lt_of_lt_of_le hlD HBP1.out.size)))
      have hsz30 : wr.heap.size ≤ w30.heap.size := Nat.le_trans HBP.out.size hg30.size
      have HB30 : Hid (Below w1.heap.size w1 w30) := Lib.hid (HBEL.out.trans ((HBP.out.mono HBEL.out.size).trans (grown_belowB hg30 (Nat.le_trans HBEL.out.size HBP.out.size) (by omega))))
      have hoI : w30.ownsRow (w1.heap.size + 3) 21 1 vi (Ud.innM T Mr).length (Ud.ints (Ud.innM T Mr)) := HF30.out.own _ _ HROWS.out.i
      have hoS : w30.ownsRow (w1.heap.size + 3) 21 1 vs (Ud.secM T X Mr).length (Ud.ints (Ud.secM T X Mr)) := HF30.out.own _ _ HROWS.out.s
      have hoM : w30.ownsRow (w1.heap.size + 3) 21 1 vm (Ud.mpdM Mr).length (Ud.ints (Ud.mpdM Mr)) := HF30.out.own _ _ HROWS.out.m
      obtain ⟨Ai, ci, rfl⟩ := own_form hoI
      obtain ⟨As, cs, rfl⟩ := own_form hoS
      obtain ⟨Am, cm, rfl⟩ := own_form hoM
      have hni := Ud.inn_len (T := T) Ud.full_le Mr
      have hns : (Ud.secM T X Mr).length ≤ 10000 := by unfold Ud.secM Ud.prsM; rw [List.length_map]; exact Nat.le_trans (List.length_filter_le _ _) hMl
      have hnm : (Ud.mpdM Mr).length ≤ 10000 := by unfold Ud.mpdM; rw [List.length_map]; exact hMl
      have HCI := Lib.hid fun W (hW : Below w30.heap.size w30 W) => C.chars_any Ai (Ud.innM T Mr).length ci W.heap.size (Ud.innM T Mr) W rfl (by omega) (Nat.le_refl _) ((Sl.of_own hoI).below hW hW.size)
      have HCS := Lib.hid fun W (hW : Below w30.heap.size w30 W) => C.chars_any As (Ud.secM T X Mr).length cs W.heap.size (Ud.secM T X Mr) W rfl (by omega) (Nat.le_refl _) ((Sl.of_own hoS).below hW hW.size)
      have HCM := Lib.hid fun W (hW : Below w30.heap.size w30 W) => C.chars_any Am (Ud.mpdM Mr).length cm W.heap.size (Ud.mpdM Mr) W rfl (by omega) (Nat.le_refl _) ((Sl.of_own hoM).below hW hW.size)
      clear hw30
      go_upto_region 25 with (fail)
      rw [HW30.out]
      clear hg30 hDp u0 u1 u2 u3 u4 hoI hoS hoM HPC HPP HPN1 HPN2 HD HM HJ HF
      go_wp2_with fail
      refine (HCI.out w30 (Below.refl _ _)).mono ?_
      rintro e w31 ⟨A4, c4, rfl, hI4, hb31⟩
      have HI4 := Lib.hid hI4
      have HB31 := Lib.hid hb31
      clear hI4 hb31
      go_wp2_with fail
      refine (HCS.out w31 HB31.out).mono ?_
      rintro e w32 ⟨A5, c5, rfl, hI5, hb32⟩
      have HI5 := Lib.hid hI5
      have HB32' := Lib.hid hb32
      have HB32 := Lib.hid (HB31.out.trans (hb32.mono HB31.out.size))
      clear hI5 hb32
      go_wp2_with fail
      refine (HCM.out w32 HB32.out).mono ?_
      rintro e w33 ⟨A6, c6, rfl, hI6, hb33⟩
      have HI6 := Lib.hid hI6
      have HB33' := Lib.hid hb33
      have HB33 := Lib.hid (HB32.out.trans (hb33.mono HB32.out.size))
      clear hI6 hb33
      have hD33 := HD30.out.below HB33.out
      have q7 := hD33.cell 7 rfl
      have q8 := hD33.cell 8 rfl
      have q9 := hD33.cell 9 rfl
      have f7 := hD33.frozen 7
      have f8 := hD33.frozen 8
      have f9 := hD33.frozen 9
      have ql := hD33.lt
      obtain ⟨w34, hw34⟩ : ∃ w34, ((w33.setCell ⟨w1.heap.size + 1 + 1, 7, none⟩ (.slice A4 (C.chars (Ud.innM T Mr)).length c4)).setCell ⟨w1.heap.size + 1 + 1, 8, none⟩ (.slice A5 (C.chars (Ud.secM T X Mr)).length c5)).setCell ⟨w1.heap.size + 1 + 1, 9, none⟩ (.slice A6 (C.chars (Ud.mpdM Mr)).length c6) = w34 := ⟨_, rfl⟩
      have HW34 := Lib.hid hw34
      have hg34 : w33.grownBy w34 (some (w1.heap.size + 1 + 1)) := by rw [← hw34]; exact Rw.grown_trans (Rw.grown_trans (Rw.grown_set _ _ _) (Rw.grown_set _ _ _)) (Rw.grown_set _ _ _)
      have HD34 : Hid (Rw.At w34 (w1.heap.size + 1 + 1) 76 [vT, .slice XA xn xc, .pointer (some ⟨gc, 0, none⟩), .pointer (some ⟨gp, 0, none⟩), ve, .map (some w1.heap.size), .map (some (w1.heap.size + 1)), .slice A4 (C.chars (Ud.innM T Mr)).length c4, .slice A5 (C.chars (Ud.secM T X Mr)).length c5, .slice A6 (C.chars (Ud.mpdM Mr)).length c6]) := Lib.hid (by rw [← hw34]; exact ((hD33.set 7 _).set 8 _).set 9 _)
      have HG34 := Lib.hid hg34
      clear hw34 hg34
      go_upto_region 26 with (fail)
      rw [HW34.out]
      clear q7 q8 q9 f7 f8 f9 ql hD33
      go_wp2_with fail
      go_ret2
      refine ⟨.pointer (some ⟨w1.heap.size + 1 + 1, 0, none⟩), rfl, ⟨?_⟩, ?_⟩
      · have hk := HKR.out
        have hm := HMR.out
        subst hk; subst hm
        have hF34 := (HF30.out.below HB33.out).other HG34.out (by omega)
        have hoT : w34.ownsRow (w1.heap.size + 3) 99 3 vT (Ud.keep T).length (Rw.fl (Ud.keep T) ads) := hF34.own _ _ HROWS.out.t
        have hoE : w34.ownsRow (w1.heap.size + 3) 81 3 ve (Ud.mr T).length (Ud.flE T X (Ud.mr T) es) := hF34.own _ _ HROWS.out.e
        obtain ⟨A0, c0, rfl⟩ := own_form hoT
        obtain ⟨A3, c3, rfl⟩ := own_form hoE
        have hX := HXX.out
        subst hX
        have e1 : Ud.inn T T = Ud.innM T (Ud.mr T) := rfl
        have e2 : Ud.sec T (C.mem S) T = Ud.secM T (C.mem S) (Ud.mr T) := rfl
        have e3 : Ud.mpd T = Ud.mpdM (Ud.mr T) := rfl
        have e4 : Ud.cl T = Ud.clK (Ud.keep T) := rfl
        have e5 : Ud.pl T = Ud.plG 0 (Ud.mr T) := rfl
        have e6 : ∀ q, Ud.beg T T q = Ud.begM T (Ud.mr T) q := fun _ => rfl
        have e7 : ∀ q q', Ud.joi T (C.mem S) T q q' = Ud.joiM T (C.mem S) (Ud.mr T) q q' := fun _ _ => rfl
        have hgb : Below (w1.heap.size) w33 w34 := grown_belowB HG34.out (Nat.le_trans (Nat.le_trans HBEL.out.size hsz30) HB33.out.size) (by omega)
        have hB34 : Below w1.heap.size w1 w34 := HB30.out.trans ((HB33.out.mono HB30.out.size).trans hgb)
        refine ⟨w1.heap.size + 1 + 1, A0, c0, XA, xc, Value.pointer (some ⟨gc, 0, none⟩), Value.pointer (some ⟨gp, 0, none⟩), A3, c3, w1.heap.size, w1.heap.size + 1, A4, c4, A5, c5, A6, c6, es, rfl, ?_, ?_, ?_, ?_, ?_, ?_, ?_, ?_, ?_, ?_, ?_⟩
        · rw [HXN.out, e1, e2, e3]; exact HD34.out
        · exact ⟨ads, HROWS.out.la, Sl.of_own hoT, fun i r a h1 h2 => Sl.of_own (hF34.own _ _ (HROWS.out.rm i r a h1 h2))⟩
        · exact (HX1.out.below hB34 hB34.size)
        · rw [e4]; exact (Pg.IsL.grown (Pg.IsL.below HPC30.out HB33.out) HG34.out hlD).is
        · rw [e5]; exact (Pg.IsL.grown (Pg.IsL.below HPP30.out HB33.out) HG34.out (Nat.lt_of_lt_of_le hlD HBP1.out.size)).is
        · exact ⟨HROWS.out.le, Sl.of_own hoE, fun i r a h1 h2 => ⟨Sl.of_own (hF34.own _ _ (HROWS.out.em i r a h1 h2).1), Sl.of_own (hF34.own _ _ (HROWS.out.em i r a h1 h2).2)⟩⟩
        · refine ⟨G, (HM30.out.below HB33.out).grown HG34.out (by simp only [ne_eq, Option.some.injEq]; omega), fun q => ?_⟩
          rw [e6 q]
          rcases HBEG.out q with h | ⟨v, h1, h2⟩
          · exact .inl h
          · have ho : w34.ownsRow (w1.heap.size + 3) 21 1 v (Ud.begM T (Ud.mr T) q).length (Ud.ints (Ud.begM T (Ud.mr T) q)) := hF34.own _ _ h2
            obtain ⟨Aq, cq, rfl⟩ := own_form ho
            exact .inr ⟨Aq, cq, h1, Sl.of_own ho⟩
        · exact ⟨J, (HJ30.out.below HB33.out).grown HG34.out (by simp only [ne_eq, Option.some.injEq]; omega), fun q q' => by rw [e7]; exact HJOI.out q q'⟩
        · rw [e1]; exact Sl.of_own ((own_mono (own_below (own_below HI4.out HB32'.out (Nat.le_refl _)) HB33'.out (Nat.le_refl _)) (Nat.le_trans hbase hsz30)).kept HG34.out (.inr fun e => by have := (own_at HI4.out e).1; omega))
        · rw [e2]; exact Sl.of_own ((own_mono (own_below HI5.out HB33'.out (Nat.le_refl _)) (Nat.le_trans hbase (Nat.le_trans hsz30 HB31.out.size))).kept HG34.out (.inr fun e => by have := (own_at HI5.out e).1; have := HB31.out.size; omega))
        · rw [e3]; exact Sl.of_own ((own_mono HI6.out (Nat.le_trans hbase (Nat.le_trans hsz30 HB32.out.size))).kept HG34.out (.inr fun e => by have := (own_at HI6.out e).1; have := HB32.out.size; omega))
      · have hgb : Below (w1.heap.size) w33 w34 := grown_belowB HG34.out (Nat.le_trans (Nat.le_trans HBEL.out.size hsz30) HB33.out.size) (by omega)
        exact HB1.out.trans ((HB30.out.trans ((HB33.out.mono HB30.out.size).trans hgb)).mono HB1.out.size)
end Go.Proofs.YtkmfegamblmpeaaGreatDoor
