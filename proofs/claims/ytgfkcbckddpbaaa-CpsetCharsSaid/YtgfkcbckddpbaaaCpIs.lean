/- The law's Is, by walking its text. -/
import Derived.Test.YtgfkcbckddpbaaaCpIsPlain3
import Derived.Test.YtgfkcbckddpbaaaCpSet
import Derived.Test.YtgfkcbckddpbaaaCpFind
import Derived.Deep.DeepCutAuto
namespace Go.Proofs.Ytgfkcbckddpbaaa
open Go.RowKit
set_option linter.unusedSimpArgs false
set_option linter.unusedVariables false

theorem C.fl_set2 (k : IntKind) : ∀ (rs : List (Int × Int)) (i : Nat) (r : Int × Int) (y : Int), rs[i]? = some r → (C.fl k rs).set (i * 2 + 1) (.int k y) = C.fl k (rs.set i (r.1, y))
  | [], i, r, y, h => by simp at h
  | (x, z) :: t, 0, r, y, h => by simp at h; subst h; rfl
  | (x, z) :: t, i + 1, r, y, h => by
    rw [show (i + 1) * 2 + 1 = (i * 2 + 1) + 1 + 1 by omega]
    show _ :: _ :: (C.fl k t).set (i * 2 + 1) _ = _
    rw [C.fl_set2 k t i r y (by simpa using h)]
    rfl

set_option maxRecDepth 100000 in
set_option maxHeartbeats 4000000 in
theorem C.is_any (g : FuncId) (cap : Array Value) (p : Int → Bool) (A AM : Option Addr) (c n cM m B : Nat) (S M : List Int) (w : World)
    (hen : ∀ (args : Array Value) (w : World), (callFunc g args).run Try.prog w = .ok (.enter g args) w)
    (hf : ∀ (d : Int) (w' : World), Below w.heap.size w w' → Calls Try.prog g (#[.int .i64 d] ++ cap) w' fun e w'' => e = .returned (.bool (p d)) ∧ Below w'.heap.size w' w'')
    (hn : S.length = n) (hn' : n ≤ 1000000) (hok : C.ok S) (hM : M.length = m) (hm1 : 1 ≤ m) (hm' : m ≤ 1000000) (hMb : ∀ z ∈ M, 0 ≤ z ∧ z ≤ 1114112) (hMs : C.srt M)
    (hup0 : C.upto p [] (M.getD 0 0)) (hupS : ∀ (acc : List Int) (a b : Int) (k : Nat), M[k]? = some a → M[k + 1]? = some b → C.upto p acc a → C.upto p (C.step p acc a b) b) (hw : C.wantK p M (m - 1) = S) (hp : ∀ d, C.mem S d = p d) (hwb : ∀ k, k < m → ∀ x ∈ C.wantK p M k, 0 ≤ x ∧ x ≤ 1114112) (hx1 : C.mem S (-1) = false) (hx2 : C.mem S 1114112 = false) (hx3 : C.mem S 55552 = false) (hB : B ≤ w.heap.size) (hA : Sl w B A (S.map (Value.int .i32))) (hAM : Sl w B AM (M.map (Value.int .i64))) :
    Calls Try.prog 6 #[.agg #[.slice A n c], .slice AM m cM, .func (.func g) #[] cap] w fun e w' => e = .returned (.bool true) ∧ Below w.heap.size w w' := by
  have HEN := Lib.hid hen
  have HF := Lib.hid hf
  have HN := Lib.hid hn
  have HM := Lib.hid hM
  have HOK := Lib.hid hok
  have HMB := Lib.hid hMb
  have HMS := Lib.hid hMs
  have HW := Lib.hid hw
  have HUP0 := Lib.hid hup0
  have HUPS := Lib.hid hupS
  have HP := Lib.hid hp
  have HWB := Lib.hid hwb
  have HX1 := Lib.hid hx1
  have HX2 := Lib.hid hx2
  have HX3 := Lib.hid hx3
  clear hup0 hupS hen hf hn hM hok hMb hMs hw hp hwb hx1 hx2 hx3
  obtain ⟨j0, hj0, hy0, hy1, hy2⟩ := info_parts infoPair
  go_enter Try.func6, Try.ntmps6
  go_wp2
  go_loopw [7, 8, 9] (fun vw vc vi wr => ∃ (k : Nat) (acc : List Int) (cnt : Int), k + 1 ≤ m ∧ vi = .int .i64 k ∧ acc = C.wantK p M k ∧ C.upto p acc (M.getD k 0) ∧ acc.length ≤ 2 * k ∧ cnt = C.count acc ∧ vc = .int .i64 cnt ∧ wr.ownsRow (w.heap.size + 1) 29 2 vw (C.rngs acc).length (C.fl .i64 (C.rngs acc)) ∧ Below (w.heap.size + 1) (w.alloc (.cells #[.slice A n c] 25)) wr) (fun _ _ vi _ => m - (intOf vi).toNat)
  case atStart =>
    exact ⟨0, [], 0, by omega, rfl, rfl, HUP0.out, Nat.le_refl _, rfl, rfl, World.ownsRow_nil _ _ _ _, Below.refl _ _⟩
  case round =>
    obtain ⟨k, acc, cnt, hk, rfl, hacc, hup, hal, hcnt0, rfl, hown, hbel⟩ := hrel
    have HACC := Lib.hid hacc
    have HUP := Lib.hid hup
    have hokA : C.ok acc := ⟨hup.1, by rw [hacc]; exact HWB.out k (by omega), hup.2.1⟩
    have hcbd := C.count_bd hokA
    rw [← hcnt0] at hcbd
    obtain ⟨cn1, cn2⟩ := hcbd
    have HCN := Lib.hid hcnt0
    clear hacc hup hokA hcnt0
    obtain ⟨rl, hrl⟩ : ∃ rl, (C.rngs acc).length = rl := ⟨_, rfl⟩
    rw [hrl] at hown
    have HRL := Lib.hid hrl
    clear hrl
    obtain ⟨A7, c7, rfl⟩ := own_form hown
    have hsz : w.heap.size + 1 ≤ wr.heap.size := by have := hbel.size; simpa using this
    by_cases hlt : (k : Int) + 1 < m
    · obtain ⟨a, ha⟩ : ∃ a, M[k]? = some a := ⟨_, List.getElem?_eq_getElem (by rw [HM.out]; omega)⟩
      obtain ⟨b, hb⟩ : ∃ b, M[k + 1]? = some b := ⟨_, List.getElem?_eq_getElem (by rw [HM.out]; omega)⟩
      obtain ⟨bm, om, rfl, hbm, hca, hcj⟩ := hAM.ints ha
      have hcb := hcj _ _ hb
      have hbw := (ret_blk hbel).2
      rw [← (bcell hbw).1 _ _ (by omega)] at hca hcb
      clear hcj
      have k0 : (0 : Int) ≤ (k : Int) := by omega
      have k1 : (k : Int) < m := by omega
      have k2 : (0 : Int) ≤ (k : Int) + 1 := by omega
      have k3 : ((k : Int) + 1).toNat = k + 1 := by omega
      have ew1 : IntKind.i64.wrap ((k : Int) + 1) = (k : Int) + 1 := by rw [IntKind.wrap_i64]; omega
      have HA := Lib.hid ha
      have HB := Lib.hid hb
      clear ha hb
      go_wp2
      go_quiet (fail)
      clear ew1 k3
      have hga : M.getD k 0 = a := by simp [List.getD, HA.out]
      have hgb : M.getD (k + 1) 0 = b := by simp [List.getD, HB.out]
      have hup := HUP.out
      rw [hga] at hup
      have hst := HUPS.out acc a b k HA.out HB.out hup
      have hwk : C.wantK p M (k + 1) = C.step p acc a b := by
        show C.step p (C.wantK p M k) (M.getD k 0) (M.getD (k + 1) 0) = _
        rw [hga, hgb, ← HACC.out]
      have hct := C.step_count (p := p) (a := a) (b := b) hup.2.1
      have HGB := Lib.hid hgb
      have HUPA := Lib.hid hup
      have HST := Lib.hid hst
      have HWK := Lib.hid hwk
      have HCT := Lib.hid hct
      have hma := HMB.out a (List.mem_of_getElem? HA.out)
      have hmb := HMB.out b (List.mem_of_getElem? HB.out)
      obtain ⟨ma1, ma2⟩ := hma
      obtain ⟨mb1, mb2⟩ := hmb
      clear hga hgb hup hst hwk hct
      have hbd := below_drewN hbw nq
      go_wp2_with fail
      rw [HEN.out, Oper.upon_enter]
      refine (HF.out a _ hbd).mono ?_
      rintro e w1 ⟨rfl, hb1⟩
      have hownd : (wr.drewN nq).ownsRow (w.heap.size + 1) 29 2 (.slice A7 rl c7) rl (C.fl .i64 (C.rngs acc)) := hown
      have hown1 := own_below hownd hb1 (Nat.le_refl _)
      have hbel1 := (below_drewN hbel nq).trans (hb1.mono hsz)
      rcases hpa : p a with _ | _
      · have hno := C.step_no (acc := acc) (b := b) hpa
        have HNO := Lib.hid hno
        clear hno hpa
        go_wp2
        refine ⟨⟨k + 1, acc, cnt, by omega, by go_num, by rw [HWK.out, HNO.out], ?_, by omega, HCN.out, rfl, by rw [HRL.out]; exact hown1, hbel1⟩, by simp [intOf]; omega⟩
        rw [HGB.out, ← HNO.out]
        exact HST.out
      · have hrl2 := C.rngs_len acc
        rw [HRL.out] at hrl2
        have hs1 : w.heap.size + 1 ≤ w1.heap.size := by have := hbel1.size; simpa using this
        rcases Nat.eq_zero_or_pos rl with hz | hz
        · subst hz
          have hnil : acc.length = 0 := by have := HUPA.out.2.1; omega
          have hnew := C.step_new (p := p) (acc := acc) (b := b) hpa (by rw [List.eq_nil_of_length_eq_zero hnil]; simp)
          have HNEW := Lib.hid hnew
          have hZ := Lib.hid (Sl.lit (w := w1.alloc (.cells #[.int .i64 a, .int .i64 (b - 1)] 29)) (A := some ⟨w1.heap.size, 0, none⟩) (xs := [.int .i64 a, .int .i64 (b - 1)]) rfl 29 (0, 0) (heap_alloc_new w1 _))
          have hown2 := Lib.hid (own_below hown1 ((Below.refl _ _).alloc (Nat.le_refl _) (.cells #[.int .i64 a, .int .i64 (b - 1)] 29)) (Nat.le_refl _))
          have hs2 : w.heap.size + 1 ≤ (w1.alloc (.cells #[.int .i64 a, .int .i64 (b - 1)] 29)).heap.size := by simp; omega
          clear hnew hrl2 hnil hpa
          go_wp2_with (at_builtin; refine wpList_appendSl _ rfl _ _ _ rfl (w.heap.size + 1) 29 j0 _ 2 16 Try.underlying27 hj0 hy0 hy1 hy2 rfl (by omega) _ 0 _ rfl hown2.out _ (some ⟨w1.heap.size, 0, none⟩) 1 1 [.int .i64 a, .int .i64 (b - 1)] rfl rfl hZ.out (by simp [Value.oneCell']) (by simp only [maxLen]; omega) (by omega) hs2 ?_; intro v1 w2 hown3 hb2 hgrow)
          have hev := HUPA.out.2.1
          refine ⟨⟨k + 1, acc ++ [a, b], cnt + (b - a), by omega, by go_num, by rw [HWK.out, HNEW.out], ?_, by simp; omega, ?_, by go_num, ?_, (hbel1.alloc hs1 _).trans hb2⟩, by simp [intOf]; omega⟩
          · rw [HGB.out, ← HNEW.out]; exact HST.out
          · rw [C.count_snoc2 _ _ _ hev, HCN.out]
          · rw [C.rngs_snoc2 _ _ _ hev, List.length_append, C.fl_app, HRL.out]; exact hown3
        · obtain ⟨q, rfl⟩ : ∃ q, rl = q + 1 := ⟨rl - 1, by omega⟩
          have hev := HUPA.out.2.1
          obtain ⟨l2, s0, e0, hac, hl2⟩ := C.even_end hev (by rintro rfl; simp at hrl2)
          have hrg : (C.rngs acc)[q]? = some (s0, e0 - 1) := by
            have h5 := C.rngs_snoc2 l2 s0 e0 hl2
            have h6 := C.rngs_len l2
            rw [hac, h5, List.getElem?_append_right (by rw [h6]; rw [hac] at hrl2; simp at hrl2; omega)]
            rw [h6]
            rw [hac] at hrl2
            simp at hrl2
            have : q - l2.length / 2 = 0 := by omega
            rw [this]; rfl
          have hlast : acc.getLast? = some e0 := by rw [hac]; simp
          obtain ⟨g7, o7, rfl, hlb, hc0, hc1⟩ := (Sl.of_own hown1).pair hrg
          obtain ⟨rfl, hgb, hgl, hfz⟩ := own_zero hown1
          simp only [Nat.zero_add] at hc0 hc1
          have hz1 := hfz (q * 2 + 1)
          have q0 : (0 : Int) ≤ (q : Int) := by omega
          have qb : (q : Int) ≤ 1000000 := by omega
          have HQ : q + 1 ≤ 1000000 := by omega
          have HAC := Lib.hid hac
          have HLAST := Lib.hid hlast
          have HL2 := Lib.hid hl2
          have HEV := Lib.hid hev
          have eb := HUPA.out.2.2.1 e0 (by rw [hac]; simp)
          have HRG := Lib.hid hrg
          clear hrg hlast hfz hac hl2 hev hrl2
          by_cases hea : e0 = a
          · subst hea
            go_wp2
            have hstp := C.step_end (p := p) (l2 := l2) (s := s0) (b := b) hpa
            rw [← HAC.out] at hstp
            have hset := own_set hown1 (j := q * 2 + 1) (by rw [C.fl_len, HRL.out]; omega) (.int .i64 (b - 1))
            rw [C.fl_set2 _ _ _ _ _ HRG.out] at hset
            have hr2 := C.rngs_snoc2 l2 s0 b HL2.out
            have hr3 := C.rngs_snoc2 l2 s0 e0 HL2.out
            rw [← HAC.out] at hr3
            have hq2 : (C.rngs l2).length = q := by have := congrArg List.length hr3; rw [HRL.out] at this; simp at this; omega
            have hse : (C.rngs acc).set q (s0, b - 1) = C.rngs (l2 ++ [s0, b]) := by
              rw [hr3, hr2, List.set_append_right _ _ (by omega), hq2, Nat.sub_self]; rfl
            have hct2 := HCT.out
            rw [hstp, if_pos hpa] at hct2
            refine ⟨⟨k + 1, l2 ++ [s0, b], cnt + (b - e0), by omega, by go_num, by rw [HWK.out, hstp], ?_, ?_, ?_, by go_num, ?_, ?_⟩, by simp [intOf]; omega⟩
            · rw [HGB.out, ← hstp]; exact HST.out
            · have := congrArg List.length HAC.out; simp at this ⊢; omega
            · rw [hct2, HCN.out]
            · rw [← hse, List.length_set, HRL.out]; exact hset
            · exact hbel1.setCell (by show w.heap.size + 1 ≤ g7; omega) _
          · have hd : (e0 == a) = false := by simp; exact hea
            have hd2 : (e0 - 1 == a - 1) = false := by simp; omega
            have hnew := C.step_new (p := p) (acc := acc) (b := b) hpa (by rw [HLAST.out]; intro h; exact hea (by simpa using h))
            have HNEW := Lib.hid hnew
            have hZ := Lib.hid (Sl.lit (w := w1.alloc (.cells #[.int .i64 a, .int .i64 (b - 1)] 29)) (A := some ⟨w1.heap.size, 0, none⟩) (xs := [.int .i64 a, .int .i64 (b - 1)]) rfl 29 (0, 0) (heap_alloc_new w1 _))
            have hown2 := Lib.hid (own_below hown1 ((Below.refl _ _).alloc (Nat.le_refl _) (.cells #[.int .i64 a, .int .i64 (b - 1)] 29)) (Nat.le_refl _))
            have hs2 : w.heap.size + 1 ≤ (w1.alloc (.cells #[.int .i64 a, .int .i64 (b - 1)] 29)).heap.size := by simp; omega
            clear hnew hpa
            go_wp2_with (at_builtin; refine wpList_appendSl _ rfl _ _ _ rfl (w.heap.size + 1) 29 j0 _ 2 16 Try.underlying27 hj0 hy0 hy1 hy2 rfl (by omega) _ (q + 1) _ rfl hown2.out _ (some ⟨w1.heap.size, 0, none⟩) 1 1 [.int .i64 a, .int .i64 (b - 1)] rfl rfl hZ.out (by simp [Value.oneCell']) (by simp only [maxLen]; omega) (by omega) hs2 ?_; intro v1 w2 hown3 hb2 hgrow)
            refine ⟨⟨k + 1, acc ++ [a, b], cnt + (b - a), by omega, by go_num, by rw [HWK.out, HNEW.out], ?_, by simp; omega, ?_, by go_num, ?_, (hbel1.alloc hs1 _).trans hb2⟩, by simp [intOf]; omega⟩
            · rw [HGB.out, ← HNEW.out]; exact HST.out
            · rw [C.count_snoc2 _ _ _ HEV.out, HCN.out]
            · rw [C.rngs_snoc2 _ _ _ HEV.out, List.length_append, C.fl_app, HRL.out]; exact hown3
    · obtain rfl : k = m - 1 := by omega
      have eS : acc = S := HACC.out.trans HW.out
      rw [eS] at hown HRL
      have HCS : Hid (C.count S = cnt) := Lib.hid (by rw [HCN.out, eS])
      clear HACC HUP HCN eS
      obtain ⟨hblk, hbw⟩ := ret_blk hbel
      obtain ⟨ec, _⟩ := blk_cell hblk 0
      simp only [List.getElem?_toArray, List.getElem?_cons_zero] at ec
      have hAr := Lib.hid ((hA.belowN hbw hB (Nat.le_refl _)).more (Nat.le_trans hB hbw.size))
      have hev := HOK.out.2.2
      rw [HN.out] at hev
      have hrl2 := C.rngs_len S
      rw [HRL.out, HN.out] at hrl2
      have hrl3 : rl ≤ 1000000 := by omega
      have HRL2 := Lib.hid hrl2
      have HRG := Lib.hid (C.rngs_good S HOK.out)
      have hSw := Lib.hid (Sl.of_own hown)
      clear hrl2 hblk hown
      go_wp2_with fail
      refine (C.ranges_any A c n wr.heap.size S _ HN.out hn' hev HOK.out.2.1 (Nat.le_refl _) hAr.out).mono ?_
      rintro e wg ⟨Ag, cg, rfl, howng, hbg⟩
      rw [HRL.out] at howng ⊢
      have hSg := Lib.hid (Sl.of_own howng)
      have eg := ((bcell hbg).1 w.heap.size 0 (by omega)).trans ec
      clear howng ec
      go_wp2_with fail
      refine (C.count_any A c n wr.heap.size S _ HN.out hn' HOK.out hbg.size (hAr.out.belowN hbg (Nat.le_refl _) (Nat.le_refl _))).mono ?_
      rw [HCS.out]
      rintro e wh ⟨rfl, hbh⟩
      have eh := ((bcell hbh).1 w.heap.size 0 (by have := hbg.size; omega)).trans eg
      have hWh := (hbg.trans (hbh.mono hbg.size))
      have hSw2 := Lib.hid (hSw.out.belowN hWh (Nat.le_refl _) hWh.size)
      have hSg2 := Lib.hid (hSg.out.belowN hbh (Nat.le_refl _) hbh.size)
      have hbwh := hbw.trans (hWh.mono hbw.size)
      have hsh : w.heap.size < wh.heap.size := by have := hWh.size; omega
      clear eg
      go_wp2
      obtain ⟨W, rfl⟩ : ∃ W : World, W = wh := ⟨_, rfl⟩
      have hWW : Below W.heap.size W W := Below.refl _ _
      go_loopw [88] (fun vi w2 => ∃ i : Nat, i ≤ rl ∧ vi = .int .i64 i ∧ Below W.heap.size W w2) (fun vi _ => rl - (intOf vi).toNat)
      case atStart => exact ⟨0, by omega, rfl, hWW⟩
      case round =>
        obtain ⟨i, hi, rfl, hb2⟩ := hrel
        obtain ⟨w2, rfl⟩ : ∃ w2 : World, w2 = wr := ⟨_, rfl⟩
        have hs2 : W.heap.size ≤ w2.heap.size := hb2.size
        have e2 := ((bcell hb2).1 w.heap.size 0 hsh).trans eh
        by_cases hlt : i < rl
        · obtain ⟨⟨x, y⟩, hr0⟩ : ∃ r0, (C.rngs S)[i]? = some r0 := ⟨_, List.getElem?_eq_getElem (by rw [HRL.out]; exact hlt)⟩
          obtain ⟨gw, ow, rfl, hlw, cw0, cw1⟩ := hSw2.out.pair hr0
          obtain ⟨gg, og, rfl, hlg, cg0, cg1⟩ := hSg2.out.pair hr0
          rw [← (bcell hb2).1 _ _ hlw] at cw0 cw1
          rw [← (bcell hb2).1 _ _ hlg] at cg0 cg1
          obtain ⟨⟨x1, x2⟩, y1, y2⟩ := C.good_bd HRG.out _ (List.mem_of_getElem? hr0)
          simp only at cw0 cw1 cg0 cg1 x1 x2 y1 y2
          have n0 : (0 : Int) ≤ (i : Int) := by omega
          have n1 : (i : Int) < rl := by omega
          have wx : IntKind.i64.wrap x = x := IntWalk.i64_in _ (by omega)
          have wy : IntKind.i64.wrap y = y := IntWalk.i64_in _ (by omega)
          clear hr0
          have hbV : Below w2.heap.size w2 (w2.alloc (.cells #[.int .i64 x, .int .i64 y] 29)) := (Below.refl _ _).alloc (Nat.le_refl _) _
          have hV := heap_alloc_new w2 (.cells #[.int .i64 x, .int .i64 y] 29)
          have v0 := (blk_cell hV 0).1
          have v1 := (blk_cell hV 1).1
          simp only [List.getElem?_toArray, List.getElem?_cons_zero, List.getElem?_cons_succ] at v0 v1
          have u0 := ((bcell hbV).1 gg (og + i * 2) (by omega)).trans cg0
          have u1 := ((bcell hbV).1 gg (og + i * 2 + 1) (by omega)).trans cg1
          clear hV
          go_wp2
          have hb2V := hb2.alloc hs2 (.cells #[.int .i64 x, .int .i64 y] 29)
          obtain ⟨V, hVe⟩ : ∃ V : World, w2.alloc (.cells #[.int .i64 x, .int .i64 y] 29) = V := ⟨_, rfl⟩
          rw [hVe] at v0 v1 u0 u1 hb2V ⊢
          clear hVe hbV
          go_region_held3 (fun w' => w'.cell? ⟨gg, og + i * 2, none⟩ = some (.int .i32 x) ∧ w'.cell? ⟨gg, og + i * 2 + 1, none⟩ = some (.int .i32 y) ∧ w'.cell? ⟨w2.heap.size, 0, none⟩ = some (.int .i64 x) ∧ w'.cell? ⟨w2.heap.size, 1, none⟩ = some (.int .i64 y))
            (exact ⟨u0, u1, v0, v1⟩) (fail)
          go_wp2
          refine ⟨⟨i + 1, by omega, by go_num, ?_⟩, by simp [intOf]; omega⟩
          first | exact hb2V.drew | exact hb2V | exact below_drewN hb2V _
        · obtain rfl : i = rl := by omega
          have hbw2 := hbwh.trans (hb2.mono (Nat.le_of_lt hsh))
          go_wp2
          obtain ⟨W2, rfl⟩ : ∃ W2 : World, W2 = w2 := ⟨_, rfl⟩
          have hWW2 : Below W2.heap.size W2 W2 := Below.refl _ _
          have hsh2 : w.heap.size < W2.heap.size := by omega
          go_loopw [116] (fun vi w3 => ∃ j : Nat, j ≤ m ∧ vi = .int .i64 j ∧ Below W2.heap.size W2 w3) (fun vi _ => m - (intOf vi).toNat)
          case atStart => exact ⟨0, by omega, rfl, hWW2⟩
          case round =>
            obtain ⟨j, hj, rfl, hb3⟩ := hrel
            obtain ⟨w3, rfl⟩ : ∃ w3 : World, w3 = wr := ⟨_, rfl⟩
            have hbw3 := hbw2.trans (hb3.mono (Nat.le_of_lt hsh2))
            have e3 := ((bcell hb3).1 w.heap.size 0 hsh2).trans e2
            have hsh3 : w.heap.size < w3.heap.size := by have := hb3.size; omega
            by_cases hlt3 : j < m
            · obtain ⟨z, hz⟩ : ∃ z, M[j]? = some z := ⟨_, List.getElem?_eq_getElem (by rw [HM.out]; omega)⟩
              obtain ⟨z1, z2⟩ := HMB.out z (List.mem_of_getElem? hz)
              obtain ⟨bm, om, rfl, hbm, hcz, _⟩ := hAM.ints hz
              rw [← (bcell hbw3).1 _ _ (by omega)] at hcz
              have n0 : (0 : Int) ≤ (j : Int) := by omega
              have n1 : (j : Int) < m := by omega
              clear hz
              go_wp2
              obtain ⟨W3, rfl⟩ : ∃ W3 : World, W3 = w3 := ⟨_, rfl⟩
              have hWW3 : Below W3.heap.size W3 W3 := Below.refl _ _
              go_loopw [18] (fun vc w4 => ∃ d : Int, z - 1 ≤ d ∧ d ≤ z + 2 ∧ vc = .int .i64 d ∧ Below W3.heap.size W3 w4) (fun vc _ => (z + 2 - intOf vc).toNat)
              case atStart => exact ⟨z - 1, by omega, by omega, rfl, hWW3⟩
              case round =>
                obtain ⟨d, hd1, hd2, rfl, hb4⟩ := hrel
                obtain ⟨w4, rfl⟩ : ∃ w4 : World, w4 = wr := ⟨_, rfl⟩
                have hbw4 := hbw3.trans (hb4.mono (Nat.le_of_lt hsh3))
                have e4 := ((bcell hb4).1 w.heap.size 0 hsh3).trans e3
                have hsh4 : w.heap.size < w4.heap.size := by have := hb4.size; omega
                by_cases hlt4 : d ≤ z + 1
                · have hw1 : IntKind.i32.wrap d = d := by rw [IntKind.wrap_i32]; omega
                  have hA4 := Lib.hid (hA.belowN hbw4 hB (Nat.le_refl _))
                  go_wp2_with fail
                  refine (C.has_any A c n B S d _ HN.out hn' HOK.out.1 (by omega) hA4.out).mono ?_
                  rw [HP.out d]
                  rintro e w5 ⟨rfl, hb5⟩
                  have hbw5 := hbw4.trans (hb5.mono (Nat.le_of_lt hsh4))
                  go_wp2_with fail
                  rw [HEN.out, Oper.upon_enter]
                  refine (HF.out d _ hbw5).mono ?_
                  rintro e w6 ⟨rfl, hb6⟩
                  generalize p d = pb
                  go_wp2
                  refine ⟨⟨d + 1, by omega, by omega, by go_num, (hb4.trans (hb5.mono hb4.size)).trans (hb6.mono (Nat.le_trans hb4.size hb5.size))⟩, by simp [intOf]; omega⟩
                · go_wp2
                  refine ⟨⟨j + 1, by omega, by go_num, hb3.trans (hb4.mono hb3.size)⟩, by simp [intOf]; omega⟩
            · have hA3 := Lib.hid (hA.belowN hbw3 hB (Nat.le_refl _))
              go_wp2_with fail
              refine (C.has_any A c n B S (-1) _ HN.out hn' HOK.out.1 (by omega) hA3.out).mono ?_
              rw [HX1.out]
              rintro e w5 ⟨rfl, hb5⟩
              have hbw5 := hbw3.trans (hb5.mono (Nat.le_of_lt hsh3))
              have e5 := ((bcell hb5).1 w.heap.size 0 hsh3).trans e3
              have hsh5 : w.heap.size < w5.heap.size := by have := hb5.size; omega
              have hA5 := Lib.hid (hA.belowN hbw5 hB (Nat.le_refl _))
              go_wp2_with fail
              refine (C.has_any A c n B S 1114112 _ HN.out hn' HOK.out.1 (by omega) hA5.out).mono ?_
              rw [HX2.out]
              rintro e w6 ⟨rfl, hb6⟩
              have hbw6 := hbw5.trans (hb6.mono (Nat.le_of_lt hsh5))
              have e6 := ((bcell hb6).1 w.heap.size 0 hsh5).trans e5
              have hsh6 : w.heap.size < w6.heap.size := by have := hb6.size; omega
              have hA6 := Lib.hid (hA.belowN hbw6 hB (Nat.le_refl _))
              go_wp2_with fail
              refine (C.has_any A c n B S 55552 _ HN.out hn' HOK.out.1 (by omega) hA6.out).mono ?_
              rw [HX3.out]
              rintro e w7 ⟨rfl, hb7⟩
              have hbw7 := hbw6.trans (hb7.mono (Nat.le_of_lt hsh6))
              go_wp2
              go_ret
              exact ⟨rfl, hbw7⟩
end Go.Proofs.Ytgfkcbckddpbaaa
