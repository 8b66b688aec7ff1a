/- The layer cpset: merge, by walking its text. -/
import Derived.Test.YtkmfegamblmpeaaGreatDoorMap
namespace Go.Proofs.YtkmfegamblmpeaaGreatDoor
open Go.RowKit
set_option linter.unusedSimpArgs false
set_option linter.unusedVariables false

set_option maxRecDepth 100000 in
set_option maxHeartbeats 4000000 in
theorem C.merge_any (g : Nat) (f : Bool → Bool → Bool) (hen : ∀ (args : Array Value) (w : World), (callFunc g args).run Tryz.prog w = .ok (.enter g args) w) (hf : ∀ (x y : Bool) (w : World), Calls Tryz.prog g #[.bool x, .bool y] w fun e w' => e = .returned (.bool (f x y)) ∧ w = w')
    (A A' : Option Addr) (c c' n m B : Nat) (a b : List Int) (w : World) (hn : a.length = n) (hm : b.length = m) (hn' : n ≤ 1000000) (hm' : m ≤ 1000000) (ha : C.srt a) (hb : C.srt b) (hB : B ≤ w.heap.size)
    (hA : Sl w B A (a.map (Value.int .i32))) (hA' : Sl w B A' (b.map (Value.int .i32))) :
    Calls Tryz.prog 73 #[.slice A n c, .slice A' m c', .func (.func g) #[] #[]] w (RetSet (C.mrg f a b) w) := by
  have HF := Lib.hid hf
  have HEN := Lib.hid hen
  clear hen
  have HN := Lib.hid hn
  have HM := Lib.hid hm
  have HSA := Lib.hid ha
  have HSB := Lib.hid hb
  clear hf hn hm ha hb
  obtain ⟨i0, hi0, hz0, hz1, hz2⟩ := info_parts infoRune
  go_enter Tryz.func73, Tryz.ntmps73
  go_wp2
  go_loopw [8, 9, 10, 7] (fun vi vk vw v wr => ∃ (i k N : Nat) (was : Bool) (xs : List Int), i ≤ n ∧ k ≤ m ∧ n + m ≤ N + i + k ∧ vi = .int .i64 i ∧ vk = .int .i64 k ∧ vw = .bool was ∧ xs.length ≤ i + k ∧
      C.mrg f a b = xs ++ C.mrgF f N was (C.par i) (C.par k) (a.drop i) (b.drop k) ∧ wr.ownsRow (w.heap.size + 1) 21 1 v xs.length (xs.map (Value.int .i32)) ∧ Below (w.heap.size + 1) (w.alloc (.cells #[.slice none 0 0] 41)) wr) (fun vi vk _ _ _ => n + m - (intOf vi).toNat - (intOf vk).toNat)
  case atStart =>
    refine ⟨0, 0, n + m, false, [], by omega, by omega, by omega, rfl, rfl, rfl, by simp, ?_, World.ownsRow_nil _ _ _ _, Below.refl _ _⟩
    unfold C.mrg
    rw [HN.out, HM.out]
    rfl
  case round =>
    obtain ⟨i, k, N, was, xs, hi, hk, hN, rfl, rfl, rfl, hxl, hmrg, hown, hbel⟩ := hrel
    have hsz : w.heap.size + 1 ≤ wr.heap.size := by have := hbel.size; simpa using this
    obtain ⟨hblk, hbw⟩ := ret_blk hbel
    obtain ⟨hrc, hrf⟩ := blk_cell hblk 0
    have HBLK := Lib.hid hblk
    clear hblk
    have HMR := Lib.hid hmrg
    clear hmrg
    have hSa := Lib.hid (hA.belowN hbw hB (Nat.le_refl _))
    have hSb := Lib.hid (hA'.belowN hbw hB (Nat.le_refl _))
    have pi := C.par_bits1 i (by omega)
    have pk := C.par_bits1 k (by omega)
    have pi0 := C.par_bits i (by omega)
    have pk0 := C.par_bits k (by omega)
    have n0 : (0 : Int) ≤ (i : Int) := by omega
    have n1 : (0 : Int) ≤ (k : Int) := by omega
    rcases hda : a.drop i with _ | ⟨x, ta⟩ <;> rcases hdb : b.drop k with _ | ⟨y, tb⟩
    · -- both at their ends
      have ei := C.drop_nil hda (by rw [HN.out]; omega)
      have ek := C.drop_nil hdb (by rw [HM.out]; omega)
      rw [HN.out] at ei
      rw [HM.out] at ek
      have hfin : C.mrg f a b = xs := by
        rw [HMR.out, hda, hdb]
        cases N <;> simp [C.mrgF]
      have HFN := Lib.hid hfin
      have g1 : ¬ (i : Int) < n := by omega
      have g2 : ¬ (k : Int) < m := by omega
      clear hfin hda hdb ei ek pi pk pi0 pk0
      obtain ⟨A5, c5, rfl⟩ := own_form hown
      simp only [List.getElem?_toArray, List.getElem?_cons_zero] at hrc
      go_wp2
      have hb2 := set_cell (v := .slice A5 xs.length c5) HBLK.out
      refine bodyPost_ret (results_cell_row rfl _ _ w.heap.size _ _ _ _ rfl hb2 Tryz.underlying41 rfl (by kernel_rfl)) rfl ?_
      rw [HFN.out]
      refine ⟨A5, c5, rfl, ?_, hbw.setCell (Nat.le_refl _) _⟩
      exact own_base (ownsRow_setCell_below hown (by show w.heap.size < _; omega) _) (by omega)
    · -- of the second alone
      have ei := C.drop_nil hda (by rw [HN.out]; omega)
      rw [HN.out] at ei
      have g1 : ¬ (i : Int) < n := by omega
      have g1d : decide (i < n) = false := decide_eq_false (by omega)
      obtain ⟨hkl, hby, hdtb⟩ := C.drop_get hdb
      rw [HM.out] at hkl
      obtain ⟨bb, ob, rfl, hltb, hcb, hcbj⟩ := hSb.out.ints hby
      have HCB := Lib.hid hcbj
      clear hcbj
      have g2 : (k : Int) < m := by omega
      have g5 : ((k : Int) == m) = false := by simp; omega
      obtain ⟨N1, rfl⟩ : ∃ N1, N = N1 + 1 := ⟨N - 1, by omega⟩
      have HST : Hid (C.mrg f a b = xs ++ C.emit was (f (C.par i) (!C.par k)) y (C.mrgF f N1 (f (C.par i) (!C.par k)) (C.par i) (C.par (k + 1)) (a.drop i) (b.drop (k + 1)))) := by
        show C.mrg f a b = _
        rw [HMR.out, hda]
        rw [hdb, hdtb, C.par_succ k]
        rfl
      clear hda ei
      have hsb := C.srt_drop HSB.out k
      rw [hdb] at hsb
      clear hdb hby
      rcases hdnb : b.drop (k + 1) with _ | ⟨ub, tb2⟩
      · have eb := C.drop_nil hdnb (by rw [HM.out]; omega)
        rw [HM.out] at eb
        have geb : ¬ ((k + 1 : Nat) : Int) < m := by omega
        clear hdnb hsb hdtb eb
        go_wp2
        go_quiet (fail)
        go_wp2
        go_loop [8] (fun v => v = .int .i64 i) (fun v => n + 1 - (intOf v).toNat)
        case atStart => exact rfl
        case round =>
          obtain rfl := hrel
          go_wp2
          go_loop [9] (fun v => v = .int .i64 k ∨ v = .int .i64 ((k + 1 : Nat) : Int)) (fun v => m + 1 - (intOf v).toNat)
          case atStart => exact .inl rfl
          case round =>
            rcases hrel with rfl | rfl
            · go_wp2
              exact ⟨.inr (by go_num), by simp [intOf]; omega⟩
            · go_wp2
              go_wp2_with fail
              rw [HEN.out, Oper.upon_enter]
              refine (HF.out _ _ _).mono ?_
              rintro e w1 ⟨rfl, rfl⟩
              have HE := HST.out
              rcases was with _ | _ <;> rcases hfi : f (C.par i) (!C.par k) with _ | _ <;> rw [hfi] at HE <;> clear hfi
              · go_wp2
                exact ⟨⟨i, (k + 1), N1, false, xs, by omega, by omega, by omega, by go_num, by go_num, rfl, by omega, HE, hown, below_drewN hbel _⟩, by simp [intOf]; omega⟩
              · go_wp2_with (at_builtin; refine wpList_push1 _ rfl _ _ _ rfl (w.heap.size + 1) 21 i0 _ 4 Tryz.underlying36 hi0 hz0 hz1 hz2 rfl _ xs.length _ rfl hown _ rfl rfl (by simp only [maxLen]; omega) (by omega) hsz ?_; intro v1 w2 hown2 hb2)
                exact ⟨⟨i, (k + 1), N1, true, xs ++ [y], by omega, by omega, by omega, by go_num, by go_num, rfl, by simp; omega, by rw [HE, List.append_assoc]; rfl, by rw [List.length_append, List.map_append]; exact hown2, (below_drewN hbel _).trans hb2⟩, by simp [intOf]; omega⟩
              · go_wp2_with (at_builtin; refine wpList_push1 _ rfl _ _ _ rfl (w.heap.size + 1) 21 i0 _ 4 Tryz.underlying36 hi0 hz0 hz1 hz2 rfl _ xs.length _ rfl hown _ rfl rfl (by simp only [maxLen]; omega) (by omega) hsz ?_; intro v1 w2 hown2 hb2)
                exact ⟨⟨i, (k + 1), N1, false, xs ++ [y], by omega, by omega, by omega, by go_num, by go_num, rfl, by simp; omega, by rw [HE, List.append_assoc]; rfl, by rw [List.length_append, List.map_append]; exact hown2, (below_drewN hbel _).trans hb2⟩, by simp [intOf]; omega⟩
              · go_wp2
                exact ⟨⟨i, (k + 1), N1, true, xs, by omega, by omega, by omega, by go_num, by go_num, rfl, by omega, HE, hown, below_drewN hbel _⟩, by simp [intOf]; omega⟩
      · obtain ⟨q1b, q2b, q3b⟩ := C.drop_get hdnb
        rw [HM.out] at q1b
        have hcnb := HCB.out _ _ q2b
        have hgtb : y < ub := C.srt_head hsb ub (by rw [← hdtb, hdnb]; simp)
        have hneb : (ub == y) = false := by simp; omega
        have geb : ((k + 1 : Nat) : Int) < m := by omega
        clear hdnb q1b q2b q3b hgtb hsb hdtb
        go_wp2
        go_quiet (fail)
        go_wp2
        go_loop [8] (fun v => v = .int .i64 i) (fun v => n + 1 - (intOf v).toNat)
        case atStart => exact rfl
        case round =>
          obtain rfl := hrel
          go_wp2
          go_loop [9] (fun v => v = .int .i64 k ∨ v = .int .i64 ((k + 1 : Nat) : Int)) (fun v => m + 1 - (intOf v).toNat)
          case atStart => exact .inl rfl
          case round =>
            rcases hrel with rfl | rfl
            · go_wp2
              exact ⟨.inr (by go_num), by simp [intOf]; omega⟩
            · go_wp2
              go_wp2_with fail
              rw [HEN.out, Oper.upon_enter]
              refine (HF.out _ _ _).mono ?_
              rintro e w1 ⟨rfl, rfl⟩
              have HE := HST.out
              rcases was with _ | _ <;> rcases hfi : f (C.par i) (!C.par k) with _ | _ <;> rw [hfi] at HE <;> clear hfi
              · go_wp2
                exact ⟨⟨i, (k + 1), N1, false, xs, by omega, by omega, by omega, by go_num, by go_num, rfl, by omega, HE, hown, below_drewN hbel _⟩, by simp [intOf]; omega⟩
              · go_wp2_with (at_builtin; refine wpList_push1 _ rfl _ _ _ rfl (w.heap.size + 1) 21 i0 _ 4 Tryz.underlying36 hi0 hz0 hz1 hz2 rfl _ xs.length _ rfl hown _ rfl rfl (by simp only [maxLen]; omega) (by omega) hsz ?_; intro v1 w2 hown2 hb2)
                exact ⟨⟨i, (k + 1), N1, true, xs ++ [y], by omega, by omega, by omega, by go_num, by go_num, rfl, by simp; omega, by rw [HE, List.append_assoc]; rfl, by rw [List.length_append, List.map_append]; exact hown2, (below_drewN hbel _).trans hb2⟩, by simp [intOf]; omega⟩
              · go_wp2_with (at_builtin; refine wpList_push1 _ rfl _ _ _ rfl (w.heap.size + 1) 21 i0 _ 4 Tryz.underlying36 hi0 hz0 hz1 hz2 rfl _ xs.length _ rfl hown _ rfl rfl (by simp only [maxLen]; omega) (by omega) hsz ?_; intro v1 w2 hown2 hb2)
                exact ⟨⟨i, (k + 1), N1, false, xs ++ [y], by omega, by omega, by omega, by go_num, by go_num, rfl, by simp; omega, by rw [HE, List.append_assoc]; rfl, by rw [List.length_append, List.map_append]; exact hown2, (below_drewN hbel _).trans hb2⟩, by simp [intOf]; omega⟩
              · go_wp2
                exact ⟨⟨i, (k + 1), N1, true, xs, by omega, by omega, by omega, by go_num, by go_num, rfl, by omega, HE, hown, below_drewN hbel _⟩, by simp [intOf]; omega⟩
    · -- of the first alone
      obtain ⟨hil, hax, hdta⟩ := C.drop_get hda
      rw [HN.out] at hil
      obtain ⟨ba, oa, rfl, hlta, hca, hcaj⟩ := hSa.out.ints hax
      have HCA := Lib.hid hcaj
      clear hcaj
      have g1 : (i : Int) < n := by omega
      have g1d : decide (i < n) = true := decide_eq_true (by omega)
      have ek := C.drop_nil hdb (by rw [HM.out]; omega)
      rw [HM.out] at ek
      have g2 : ¬ (k : Int) < m := by omega
      have g5 : ((k : Int) == m) = true := by simp; omega
      obtain ⟨N1, rfl⟩ : ∃ N1, N = N1 + 1 := ⟨N - 1, by omega⟩
      have HST : Hid (C.mrg f a b = xs ++ C.emit was (f (!C.par i) (C.par k)) x (C.mrgF f N1 (f (!C.par i) (C.par k)) (C.par (i + 1)) (C.par k) (a.drop (i + 1)) (b.drop k))) := by
        show C.mrg f a b = _
        rw [HMR.out, hdb]
        rw [hda, hdta, C.par_succ i]
        rfl
      clear hdb ek
      have hsa := C.srt_drop HSA.out i
      rw [hda] at hsa
      clear hda hax
      rcases hdna : a.drop (i + 1) with _ | ⟨ua, ta2⟩
      · have ea := C.drop_nil hdna (by rw [HN.out]; omega)
        rw [HN.out] at ea
        have gea : ¬ ((i + 1 : Nat) : Int) < n := by omega
        clear hdna hsa hdta ea
        go_wp2
        go_quiet (fail)
        go_wp2
        go_loop [8] (fun v => v = .int .i64 i ∨ v = .int .i64 ((i + 1 : Nat) : Int)) (fun v => n + 1 - (intOf v).toNat)
        case atStart => exact .inl rfl
        case round =>
          rcases hrel with rfl | rfl
          · go_wp2
            exact ⟨.inr (by go_num), by simp [intOf]; omega⟩
          · go_wp2
            go_loop [9] (fun v => v = .int .i64 k) (fun v => m + 1 - (intOf v).toNat)
            case atStart => exact rfl
            case round =>
              obtain rfl := hrel
              go_wp2
              go_wp2_with fail
              rw [HEN.out, Oper.upon_enter]
              refine (HF.out _ _ _).mono ?_
              rintro e w1 ⟨rfl, rfl⟩
              have HE := HST.out
              rcases was with _ | _ <;> rcases hfi : f (!C.par i) (C.par k) with _ | _ <;> rw [hfi] at HE <;> clear hfi
              · go_wp2
                exact ⟨⟨(i + 1), k, N1, false, xs, by omega, by omega, by omega, by go_num, by go_num, rfl, by omega, HE, hown, below_drewN hbel _⟩, by simp [intOf]; omega⟩
              · go_wp2_with (at_builtin; refine wpList_push1 _ rfl _ _ _ rfl (w.heap.size + 1) 21 i0 _ 4 Tryz.underlying36 hi0 hz0 hz1 hz2 rfl _ xs.length _ rfl hown _ rfl rfl (by simp only [maxLen]; omega) (by omega) hsz ?_; intro v1 w2 hown2 hb2)
                exact ⟨⟨(i + 1), k, N1, true, xs ++ [x], by omega, by omega, by omega, by go_num, by go_num, rfl, by simp; omega, by rw [HE, List.append_assoc]; rfl, by rw [List.length_append, List.map_append]; exact hown2, (below_drewN hbel _).trans hb2⟩, by simp [intOf]; omega⟩
              · go_wp2_with (at_builtin; refine wpList_push1 _ rfl _ _ _ rfl (w.heap.size + 1) 21 i0 _ 4 Tryz.underlying36 hi0 hz0 hz1 hz2 rfl _ xs.length _ rfl hown _ rfl rfl (by simp only [maxLen]; omega) (by omega) hsz ?_; intro v1 w2 hown2 hb2)
                exact ⟨⟨(i + 1), k, N1, false, xs ++ [x], by omega, by omega, by omega, by go_num, by go_num, rfl, by simp; omega, by rw [HE, List.append_assoc]; rfl, by rw [List.length_append, List.map_append]; exact hown2, (below_drewN hbel _).trans hb2⟩, by simp [intOf]; omega⟩
              · go_wp2
                exact ⟨⟨(i + 1), k, N1, true, xs, by omega, by omega, by omega, by go_num, by go_num, rfl, by omega, HE, hown, below_drewN hbel _⟩, by simp [intOf]; omega⟩
      · obtain ⟨q1a, q2a, q3a⟩ := C.drop_get hdna
        rw [HN.out] at q1a
        have hcna := HCA.out _ _ q2a
        have hgta : x < ua := C.srt_head hsa ua (by rw [← hdta, hdna]; simp)
        have hnea : (ua == x) = false := by simp; omega
        have gea : ((i + 1 : Nat) : Int) < n := by omega
        clear hdna q1a q2a q3a hgta hsa hdta
        go_wp2
        go_quiet (fail)
        go_wp2
        go_loop [8] (fun v => v = .int .i64 i ∨ v = .int .i64 ((i + 1 : Nat) : Int)) (fun v => n + 1 - (intOf v).toNat)
        case atStart => exact .inl rfl
        case round =>
          rcases hrel with rfl | rfl
          · go_wp2
            exact ⟨.inr (by go_num), by simp [intOf]; omega⟩
          · go_wp2
            go_loop [9] (fun v => v = .int .i64 k) (fun v => m + 1 - (intOf v).toNat)
            case atStart => exact rfl
            case round =>
              obtain rfl := hrel
              go_wp2
              go_wp2_with fail
              rw [HEN.out, Oper.upon_enter]
              refine (HF.out _ _ _).mono ?_
              rintro e w1 ⟨rfl, rfl⟩
              have HE := HST.out
              rcases was with _ | _ <;> rcases hfi : f (!C.par i) (C.par k) with _ | _ <;> rw [hfi] at HE <;> clear hfi
              · go_wp2
                exact ⟨⟨(i + 1), k, N1, false, xs, by omega, by omega, by omega, by go_num, by go_num, rfl, by omega, HE, hown, below_drewN hbel _⟩, by simp [intOf]; omega⟩
              · go_wp2_with (at_builtin; refine wpList_push1 _ rfl _ _ _ rfl (w.heap.size + 1) 21 i0 _ 4 Tryz.underlying36 hi0 hz0 hz1 hz2 rfl _ xs.length _ rfl hown _ rfl rfl (by simp only [maxLen]; omega) (by omega) hsz ?_; intro v1 w2 hown2 hb2)
                exact ⟨⟨(i + 1), k, N1, true, xs ++ [x], by omega, by omega, by omega, by go_num, by go_num, rfl, by simp; omega, by rw [HE, List.append_assoc]; rfl, by rw [List.length_append, List.map_append]; exact hown2, (below_drewN hbel _).trans hb2⟩, by simp [intOf]; omega⟩
              · go_wp2_with (at_builtin; refine wpList_push1 _ rfl _ _ _ rfl (w.heap.size + 1) 21 i0 _ 4 Tryz.underlying36 hi0 hz0 hz1 hz2 rfl _ xs.length _ rfl hown _ rfl rfl (by simp only [maxLen]; omega) (by omega) hsz ?_; intro v1 w2 hown2 hb2)
                exact ⟨⟨(i + 1), k, N1, false, xs ++ [x], by omega, by omega, by omega, by go_num, by go_num, rfl, by simp; omega, by rw [HE, List.append_assoc]; rfl, by rw [List.length_append, List.map_append]; exact hown2, (below_drewN hbel _).trans hb2⟩, by simp [intOf]; omega⟩
              · go_wp2
                exact ⟨⟨(i + 1), k, N1, true, xs, by omega, by omega, by omega, by go_num, by go_num, rfl, by omega, HE, hown, below_drewN hbel _⟩, by simp [intOf]; omega⟩
    · -- of both
      obtain ⟨hil, hax, hdta⟩ := C.drop_get hda
      rw [HN.out] at hil
      obtain ⟨ba, oa, rfl, hlta, hca, hcaj⟩ := hSa.out.ints hax
      have HCA := Lib.hid hcaj
      clear hcaj
      have g1 : (i : Int) < n := by omega
      have g1d : decide (i < n) = true := decide_eq_true (by omega)
      obtain ⟨hkl, hby, hdtb⟩ := C.drop_get hdb
      rw [HM.out] at hkl
      obtain ⟨bb, ob, rfl, hltb, hcb, hcbj⟩ := hSb.out.ints hby
      have HCB := Lib.hid hcbj
      clear hcbj
      have g2 : (k : Int) < m := by omega
      have g5 : ((k : Int) == m) = false := by simp; omega
      rcases Int.lt_trichotomy x y with hxy | hxy | hxy
      · have hle : x ≤ y := by omega
        have hled : decide (x ≤ y) = true := decide_eq_true hle
        have hyx : (y == x) = false := by simp; omega
        obtain ⟨N1, rfl⟩ : ∃ N1, N = N1 + 1 := ⟨N - 1, by omega⟩
        have HST : Hid (C.mrg f a b = xs ++ C.emit was (f (!C.par i) (C.par k)) x (C.mrgF f N1 (f (!C.par i) (C.par k)) (C.par (i + 1)) (C.par k) (a.drop (i + 1)) (b.drop k))) := by
          show C.mrg f a b = _
          rw [HMR.out, hdb]
          rw [hda, hdta, C.par_succ i]
          show xs ++ (if x < y then _ else _) = _
          rw [if_pos hxy]
        clear hdb hby hxy
        have hsa := C.srt_drop HSA.out i
        rw [hda] at hsa
        clear hda hax
        rcases hdna : a.drop (i + 1) with _ | ⟨ua, ta2⟩
        · have ea := C.drop_nil hdna (by rw [HN.out]; omega)
          rw [HN.out] at ea
          have gea : ¬ ((i + 1 : Nat) : Int) < n := by omega
          clear hdna hsa hdta ea
          go_wp2
          go_quiet (fail)
          go_wp2
          go_loop [8] (fun v => v = .int .i64 i ∨ v = .int .i64 ((i + 1 : Nat) : Int)) (fun v => n + 1 - (intOf v).toNat)
          case atStart => exact .inl rfl
          case round =>
            rcases hrel with rfl | rfl
            · go_wp2
              exact ⟨.inr (by go_num), by simp [intOf]; omega⟩
            · go_wp2
              go_loop [9] (fun v => v = .int .i64 k) (fun v => m + 1 - (intOf v).toNat)
              case atStart => exact rfl
              case round =>
                obtain rfl := hrel
                go_wp2
                go_wp2_with fail
                rw [HEN.out, Oper.upon_enter]
                refine (HF.out _ _ _).mono ?_
                rintro e w1 ⟨rfl, rfl⟩
                have HE := HST.out
                rcases was with _ | _ <;> rcases hfi : f (!C.par i) (C.par k) with _ | _ <;> rw [hfi] at HE <;> clear hfi
                · go_wp2
                  exact ⟨⟨(i + 1), k, N1, false, xs, by omega, by omega, by omega, by go_num, by go_num, rfl, by omega, HE, hown, below_drewN hbel _⟩, by simp [intOf]; omega⟩
                · go_wp2_with (at_builtin; refine wpList_push1 _ rfl _ _ _ rfl (w.heap.size + 1) 21 i0 _ 4 Tryz.underlying36 hi0 hz0 hz1 hz2 rfl _ xs.length _ rfl hown _ rfl rfl (by simp only [maxLen]; omega) (by omega) hsz ?_; intro v1 w2 hown2 hb2)
                  exact ⟨⟨(i + 1), k, N1, true, xs ++ [x], by omega, by omega, by omega, by go_num, by go_num, rfl, by simp; omega, by rw [HE, List.append_assoc]; rfl, by rw [List.length_append, List.map_append]; exact hown2, (below_drewN hbel _).trans hb2⟩, by simp [intOf]; omega⟩
                · go_wp2_with (at_builtin; refine wpList_push1 _ rfl _ _ _ rfl (w.heap.size + 1) 21 i0 _ 4 Tryz.underlying36 hi0 hz0 hz1 hz2 rfl _ xs.length _ rfl hown _ rfl rfl (by simp only [maxLen]; omega) (by omega) hsz ?_; intro v1 w2 hown2 hb2)
                  exact ⟨⟨(i + 1), k, N1, false, xs ++ [x], by omega, by omega, by omega, by go_num, by go_num, rfl, by simp; omega, by rw [HE, List.append_assoc]; rfl, by rw [List.length_append, List.map_append]; exact hown2, (below_drewN hbel _).trans hb2⟩, by simp [intOf]; omega⟩
                · go_wp2
                  exact ⟨⟨(i + 1), k, N1, true, xs, by omega, by omega, by omega, by go_num, by go_num, rfl, by omega, HE, hown, below_drewN hbel _⟩, by simp [intOf]; omega⟩
        · obtain ⟨q1a, q2a, q3a⟩ := C.drop_get hdna
          rw [HN.out] at q1a
          have hcna := HCA.out _ _ q2a
          have hgta : x < ua := C.srt_head hsa ua (by rw [← hdta, hdna]; simp)
          have hnea : (ua == x) = false := by simp; omega
          have gea : ((i + 1 : Nat) : Int) < n := by omega
          clear hdna q1a q2a q3a hgta hsa hdta
          go_wp2
          go_quiet (fail)
          go_wp2
          go_loop [8] (fun v => v = .int .i64 i ∨ v = .int .i64 ((i + 1 : Nat) : Int)) (fun v => n + 1 - (intOf v).toNat)
          case atStart => exact .inl rfl
          case round =>
            rcases hrel with rfl | rfl
            · go_wp2
              exact ⟨.inr (by go_num), by simp [intOf]; omega⟩
            · go_wp2
              go_loop [9] (fun v => v = .int .i64 k) (fun v => m + 1 - (intOf v).toNat)
              case atStart => exact rfl
              case round =>
                obtain rfl := hrel
                go_wp2
                go_wp2_with fail
                rw [HEN.out, Oper.upon_enter]
                refine (HF.out _ _ _).mono ?_
                rintro e w1 ⟨rfl, rfl⟩
                have HE := HST.out
                rcases was with _ | _ <;> rcases hfi : f (!C.par i) (C.par k) with _ | _ <;> rw [hfi] at HE <;> clear hfi
                · go_wp2
                  exact ⟨⟨(i + 1), k, N1, false, xs, by omega, by omega, by omega, by go_num, by go_num, rfl, by omega, HE, hown, below_drewN hbel _⟩, by simp [intOf]; omega⟩
                · go_wp2_with (at_builtin; refine wpList_push1 _ rfl _ _ _ rfl (w.heap.size + 1) 21 i0 _ 4 Tryz.underlying36 hi0 hz0 hz1 hz2 rfl _ xs.length _ rfl hown _ rfl rfl (by simp only [maxLen]; omega) (by omega) hsz ?_; intro v1 w2 hown2 hb2)
                  exact ⟨⟨(i + 1), k, N1, true, xs ++ [x], by omega, by omega, by omega, by go_num, by go_num, rfl, by simp; omega, by rw [HE, List.append_assoc]; rfl, by rw [List.length_append, List.map_append]; exact hown2, (below_drewN hbel _).trans hb2⟩, by simp [intOf]; omega⟩
                · go_wp2_with (at_builtin; refine wpList_push1 _ rfl _ _ _ rfl (w.heap.size + 1) 21 i0 _ 4 Tryz.underlying36 hi0 hz0 hz1 hz2 rfl _ xs.length _ rfl hown _ rfl rfl (by simp only [maxLen]; omega) (by omega) hsz ?_; intro v1 w2 hown2 hb2)
                  exact ⟨⟨(i + 1), k, N1, false, xs ++ [x], by omega, by omega, by omega, by go_num, by go_num, rfl, by simp; omega, by rw [HE, List.append_assoc]; rfl, by rw [List.length_append, List.map_append]; exact hown2, (below_drewN hbel _).trans hb2⟩, by simp [intOf]; omega⟩
                · go_wp2
                  exact ⟨⟨(i + 1), k, N1, true, xs, by omega, by omega, by omega, by go_num, by go_num, rfl, by omega, HE, hown, below_drewN hbel _⟩, by simp [intOf]; omega⟩
      · subst hxy
        have hle : x ≤ x := Int.le_refl _
        have hled : decide (x ≤ x) = true := decide_eq_true hle
        obtain ⟨N1, rfl⟩ : ∃ N1, N = N1 + 1 := ⟨N - 1, by omega⟩
        have HST : Hid (C.mrg f a b = xs ++ C.emit was (f (!C.par i) (!C.par k)) x (C.mrgF f N1 (f (!C.par i) (!C.par k)) (C.par (i + 1)) (C.par (k + 1)) (a.drop (i + 1)) (b.drop (k + 1)))) := by
          show C.mrg f a b = _
          rw [HMR.out]
          rw [hda, hdta, C.par_succ i, hdb, hdtb, C.par_succ k]
          show xs ++ (if x < x then _ else if x < x then _ else _) = _
          rw [if_neg (by omega), if_neg (by omega)]
        have hsa := C.srt_drop HSA.out i
        rw [hda] at hsa
        clear hda hax
        rcases hdna : a.drop (i + 1) with _ | ⟨ua, ta2⟩
        · have ea := C.drop_nil hdna (by rw [HN.out]; omega)
          rw [HN.out] at ea
          have gea : ¬ ((i + 1 : Nat) : Int) < n := by omega
          clear hdna hsa hdta ea
          have hsb := C.srt_drop HSB.out k
          rw [hdb] at hsb
          clear hdb hby
          rcases hdnb : b.drop (k + 1) with _ | ⟨ub, tb2⟩
          · have eb := C.drop_nil hdnb (by rw [HM.out]; omega)
            rw [HM.out] at eb
            have geb : ¬ ((k + 1 : Nat) : Int) < m := by omega
            clear hdnb hsb hdtb eb
            go_wp2
            go_quiet (fail)
            go_wp2
            go_loop [8] (fun v => v = .int .i64 i ∨ v = .int .i64 ((i + 1 : Nat) : Int)) (fun v => n + 1 - (intOf v).toNat)
            case atStart => exact .inl rfl
            case round =>
              rcases hrel with rfl | rfl
              · go_wp2
                exact ⟨.inr (by go_num), by simp [intOf]; omega⟩
              · go_wp2
                go_loop [9] (fun v => v = .int .i64 k ∨ v = .int .i64 ((k + 1 : Nat) : Int)) (fun v => m + 1 - (intOf v).toNat)
                case atStart => exact .inl rfl
                case round =>
                  rcases hrel with rfl | rfl
                  · go_wp2
                    exact ⟨.inr (by go_num), by simp [intOf]; omega⟩
                  · go_wp2
                    go_wp2_with fail
                    rw [HEN.out, Oper.upon_enter]
                    refine (HF.out _ _ _).mono ?_
                    rintro e w1 ⟨rfl, rfl⟩
                    have HE := HST.out
                    rcases was with _ | _ <;> rcases hfi : f (!C.par i) (!C.par k) with _ | _ <;> rw [hfi] at HE <;> clear hfi
                    · go_wp2
                      exact ⟨⟨(i + 1), (k + 1), N1, false, xs, by omega, by omega, by omega, by go_num, by go_num, rfl, by omega, HE, hown, below_drewN hbel _⟩, by simp [intOf]; omega⟩
                    · go_wp2_with (at_builtin; refine wpList_push1 _ rfl _ _ _ rfl (w.heap.size + 1) 21 i0 _ 4 Tryz.underlying36 hi0 hz0 hz1 hz2 rfl _ xs.length _ rfl hown _ rfl rfl (by simp only [maxLen]; omega) (by omega) hsz ?_; intro v1 w2 hown2 hb2)
                      exact ⟨⟨(i + 1), (k + 1), N1, true, xs ++ [x], by omega, by omega, by omega, by go_num, by go_num, rfl, by simp; omega, by rw [HE, List.append_assoc]; rfl, by rw [List.length_append, List.map_append]; exact hown2, (below_drewN hbel _).trans hb2⟩, by simp [intOf]; omega⟩
                    · go_wp2_with (at_builtin; refine wpList_push1 _ rfl _ _ _ rfl (w.heap.size + 1) 21 i0 _ 4 Tryz.underlying36 hi0 hz0 hz1 hz2 rfl _ xs.length _ rfl hown _ rfl rfl (by simp only [maxLen]; omega) (by omega) hsz ?_; intro v1 w2 hown2 hb2)
                      exact ⟨⟨(i + 1), (k + 1), N1, false, xs ++ [x], by omega, by omega, by omega, by go_num, by go_num, rfl, by simp; omega, by rw [HE, List.append_assoc]; rfl, by rw [List.length_append, List.map_append]; exact hown2, (below_drewN hbel _).trans hb2⟩, by simp [intOf]; omega⟩
                    · go_wp2
                      exact ⟨⟨(i + 1), (k + 1), N1, true, xs, by omega, by omega, by omega, by go_num, by go_num, rfl, by omega, HE, hown, below_drewN hbel _⟩, by simp [intOf]; omega⟩
          · obtain ⟨q1b, q2b, q3b⟩ := C.drop_get hdnb
            rw [HM.out] at q1b
            have hcnb := HCB.out _ _ q2b
            have hgtb : x < ub := C.srt_head hsb ub (by rw [← hdtb, hdnb]; simp)
            have hneb : (ub == x) = false := by simp; omega
            have geb : ((k + 1 : Nat) : Int) < m := by omega
            clear hdnb q1b q2b q3b hgtb hsb hdtb
            go_wp2
            go_quiet (fail)
            go_wp2
            go_loop [8] (fun v => v = .int .i64 i ∨ v = .int .i64 ((i + 1 : Nat) : Int)) (fun v => n + 1 - (intOf v).toNat)
            case atStart => exact .inl rfl
            case round =>
              rcases hrel with rfl | rfl
              · go_wp2
                exact ⟨.inr (by go_num), by simp [intOf]; omega⟩
              · go_wp2
                go_loop [9] (fun v => v = .int .i64 k ∨ v = .int .i64 ((k + 1 : Nat) : Int)) (fun v => m + 1 - (intOf v).toNat)
                case atStart => exact .inl rfl
                case round =>
                  rcases hrel with rfl | rfl
                  · go_wp2
                    exact ⟨.inr (by go_num), by simp [intOf]; omega⟩
                  · go_wp2
                    go_wp2_with fail
                    rw [HEN.out, Oper.upon_enter]
                    refine (HF.out _ _ _).mono ?_
                    rintro e w1 ⟨rfl, rfl⟩
                    have HE := HST.out
                    rcases was with _ | _ <;> rcases hfi : f (!C.par i) (!C.par k) with _ | _ <;> rw [hfi] at HE <;> clear hfi
                    · go_wp2
                      exact ⟨⟨(i + 1), (k + 1), N1, false, xs, by omega, by omega, by omega, by go_num, by go_num, rfl, by omega, HE, hown, below_drewN hbel _⟩, by simp [intOf]; omega⟩
                    · go_wp2_with (at_builtin; refine wpList_push1 _ rfl _ _ _ rfl (w.heap.size + 1) 21 i0 _ 4 Tryz.underlying36 hi0 hz0 hz1 hz2 rfl _ xs.length _ rfl hown _ rfl rfl (by simp only [maxLen]; omega) (by omega) hsz ?_; intro v1 w2 hown2 hb2)
                      exact ⟨⟨(i + 1), (k + 1), N1, true, xs ++ [x], by omega, by omega, by omega, by go_num, by go_num, rfl, by simp; omega, by rw [HE, List.append_assoc]; rfl, by rw [List.length_append, List.map_append]; exact hown2, (below_drewN hbel _).trans hb2⟩, by simp [intOf]; omega⟩
                    · go_wp2_with (at_builtin; refine wpList_push1 _ rfl _ _ _ rfl (w.heap.size + 1) 21 i0 _ 4 Tryz.underlying36 hi0 hz0 hz1 hz2 rfl _ xs.length _ rfl hown _ rfl rfl (by simp only [maxLen]; omega) (by omega) hsz ?_; intro v1 w2 hown2 hb2)
                      exact ⟨⟨(i + 1), (k + 1), N1, false, xs ++ [x], by omega, by omega, by omega, by go_num, by go_num, rfl, by simp; omega, by rw [HE, List.append_assoc]; rfl, by rw [List.length_append, List.map_append]; exact hown2, (below_drewN hbel _).trans hb2⟩, by simp [intOf]; omega⟩
                    · go_wp2
                      exact ⟨⟨(i + 1), (k + 1), N1, true, xs, by omega, by omega, by omega, by go_num, by go_num, rfl, by omega, HE, hown, below_drewN hbel _⟩, by simp [intOf]; omega⟩
        · obtain ⟨q1a, q2a, q3a⟩ := C.drop_get hdna
          rw [HN.out] at q1a
          have hcna := HCA.out _ _ q2a
          have hgta : x < ua := C.srt_head hsa ua (by rw [← hdta, hdna]; simp)
          have hnea : (ua == x) = false := by simp; omega
          have gea : ((i + 1 : Nat) : Int) < n := by omega
          clear hdna q1a q2a q3a hgta hsa hdta
          have hsb := C.srt_drop HSB.out k
          rw [hdb] at hsb
          clear hdb hby
          rcases hdnb : b.drop (k + 1) with _ | ⟨ub, tb2⟩
          · have eb := C.drop_nil hdnb (by rw [HM.out]; omega)
            rw [HM.out] at eb
            have geb : ¬ ((k + 1 : Nat) : Int) < m := by omega
            clear hdnb hsb hdtb eb
            go_wp2
            go_quiet (fail)
            go_wp2
            go_loop [8] (fun v => v = .int .i64 i ∨ v = .int .i64 ((i + 1 : Nat) : Int)) (fun v => n + 1 - (intOf v).toNat)
            case atStart => exact .inl rfl
            case round =>
              rcases hrel with rfl | rfl
              · go_wp2
                exact ⟨.inr (by go_num), by simp [intOf]; omega⟩
              · go_wp2
                go_loop [9] (fun v => v = .int .i64 k ∨ v = .int .i64 ((k + 1 : Nat) : Int)) (fun v => m + 1 - (intOf v).toNat)
                case atStart => exact .inl rfl
                case round =>
                  rcases hrel with rfl | rfl
                  · go_wp2
                    exact ⟨.inr (by go_num), by simp [intOf]; omega⟩
                  · go_wp2
                    go_wp2_with fail
                    rw [HEN.out, Oper.upon_enter]
                    refine (HF.out _ _ _).mono ?_
                    rintro e w1 ⟨rfl, rfl⟩
                    have HE := HST.out
                    rcases was with _ | _ <;> rcases hfi : f (!C.par i) (!C.par k) with _ | _ <;> rw [hfi] at HE <;> clear hfi
                    · go_wp2
                      exact ⟨⟨(i + 1), (k + 1), N1, false, xs, by omega, by omega, by omega, by go_num, by go_num, rfl, by omega, HE, hown, below_drewN hbel _⟩, by simp [intOf]; omega⟩
                    · go_wp2_with (at_builtin; refine wpList_push1 _ rfl _ _ _ rfl (w.heap.size + 1) 21 i0 _ 4 Tryz.underlying36 hi0 hz0 hz1 hz2 rfl _ xs.length _ rfl hown _ rfl rfl (by simp only [maxLen]; omega) (by omega) hsz ?_; intro v1 w2 hown2 hb2)
                      exact ⟨⟨(i + 1), (k + 1), N1, true, xs ++ [x], by omega, by omega, by omega, by go_num, by go_num, rfl, by simp; omega, by rw [HE, List.append_assoc]; rfl, by rw [List.length_append, List.map_append]; exact hown2, (below_drewN hbel _).trans hb2⟩, by simp [intOf]; omega⟩
                    · go_wp2_with (at_builtin; refine wpList_push1 _ rfl _ _ _ rfl (w.heap.size + 1) 21 i0 _ 4 Tryz.underlying36 hi0 hz0 hz1 hz2 rfl _ xs.length _ rfl hown _ rfl rfl (by simp only [maxLen]; omega) (by omega) hsz ?_; intro v1 w2 hown2 hb2)
                      exact ⟨⟨(i + 1), (k + 1), N1, false, xs ++ [x], by omega, by omega, by omega, by go_num, by go_num, rfl, by simp; omega, by rw [HE, List.append_assoc]; rfl, by rw [List.length_append, List.map_append]; exact hown2, (below_drewN hbel _).trans hb2⟩, by simp [intOf]; omega⟩
                    · go_wp2
                      exact ⟨⟨(i + 1), (k + 1), N1, true, xs, by omega, by omega, by omega, by go_num, by go_num, rfl, by omega, HE, hown, below_drewN hbel _⟩, by simp [intOf]; omega⟩
          · obtain ⟨q1b, q2b, q3b⟩ := C.drop_get hdnb
            rw [HM.out] at q1b
            have hcnb := HCB.out _ _ q2b
            have hgtb : x < ub := C.srt_head hsb ub (by rw [← hdtb, hdnb]; simp)
            have hneb : (ub == x) = false := by simp; omega
            have geb : ((k + 1 : Nat) : Int) < m := by omega
            clear hdnb q1b q2b q3b hgtb hsb hdtb
            go_wp2
            go_quiet (fail)
            go_wp2
            go_loop [8] (fun v => v = .int .i64 i ∨ v = .int .i64 ((i + 1 : Nat) : Int)) (fun v => n + 1 - (intOf v).toNat)
            case atStart => exact .inl rfl
            case round =>
              rcases hrel with rfl | rfl
              · go_wp2
                exact ⟨.inr (by go_num), by simp [intOf]; omega⟩
              · go_wp2
                go_loop [9] (fun v => v = .int .i64 k ∨ v = .int .i64 ((k + 1 : Nat) : Int)) (fun v => m + 1 - (intOf v).toNat)
                case atStart => exact .inl rfl
                case round =>
                  rcases hrel with rfl | rfl
                  · go_wp2
                    exact ⟨.inr (by go_num), by simp [intOf]; omega⟩
                  · go_wp2
                    go_wp2_with fail
                    rw [HEN.out, Oper.upon_enter]
                    refine (HF.out _ _ _).mono ?_
                    rintro e w1 ⟨rfl, rfl⟩
                    have HE := HST.out
                    rcases was with _ | _ <;> rcases hfi : f (!C.par i) (!C.par k) with _ | _ <;> rw [hfi] at HE <;> clear hfi
                    · go_wp2
                      exact ⟨⟨(i + 1), (k + 1), N1, false, xs, by omega, by omega, by omega, by go_num, by go_num, rfl, by omega, HE, hown, below_drewN hbel _⟩, by simp [intOf]; omega⟩
                    · go_wp2_with (at_builtin; refine wpList_push1 _ rfl _ _ _ rfl (w.heap.size + 1) 21 i0 _ 4 Tryz.underlying36 hi0 hz0 hz1 hz2 rfl _ xs.length _ rfl hown _ rfl rfl (by simp only [maxLen]; omega) (by omega) hsz ?_; intro v1 w2 hown2 hb2)
                      exact ⟨⟨(i + 1), (k + 1), N1, true, xs ++ [x], by omega, by omega, by omega, by go_num, by go_num, rfl, by simp; omega, by rw [HE, List.append_assoc]; rfl, by rw [List.length_append, List.map_append]; exact hown2, (below_drewN hbel _).trans hb2⟩, by simp [intOf]; omega⟩
                    · go_wp2_with (at_builtin; refine wpList_push1 _ rfl _ _ _ rfl (w.heap.size + 1) 21 i0 _ 4 Tryz.underlying36 hi0 hz0 hz1 hz2 rfl _ xs.length _ rfl hown _ rfl rfl (by simp only [maxLen]; omega) (by omega) hsz ?_; intro v1 w2 hown2 hb2)
                      exact ⟨⟨(i + 1), (k + 1), N1, false, xs ++ [x], by omega, by omega, by omega, by go_num, by go_num, rfl, by simp; omega, by rw [HE, List.append_assoc]; rfl, by rw [List.length_append, List.map_append]; exact hown2, (below_drewN hbel _).trans hb2⟩, by simp [intOf]; omega⟩
                    · go_wp2
                      exact ⟨⟨(i + 1), (k + 1), N1, true, xs, by omega, by omega, by omega, by go_num, by go_num, rfl, by omega, HE, hown, below_drewN hbel _⟩, by simp [intOf]; omega⟩
      · have hle : ¬ x ≤ y := by omega
        have hled : decide (x ≤ y) = false := decide_eq_false hle
        have hxy' : (x == y) = false := by simp; omega
        obtain ⟨N1, rfl⟩ : ∃ N1, N = N1 + 1 := ⟨N - 1, by omega⟩
        have HST : Hid (C.mrg f a b = xs ++ C.emit was (f (C.par i) (!C.par k)) y (C.mrgF f N1 (f (C.par i) (!C.par k)) (C.par i) (C.par (k + 1)) (a.drop i) (b.drop (k + 1)))) := by
          show C.mrg f a b = _
          rw [HMR.out, hda]
          rw [hdb, hdtb, C.par_succ k]
          show xs ++ (if x < y then _ else if y < x then _ else _) = _
          rw [if_neg (by omega), if_pos hxy]
        clear hda hax hxy
        have hsb := C.srt_drop HSB.out k
        rw [hdb] at hsb
        clear hdb hby
        rcases hdnb : b.drop (k + 1) with _ | ⟨ub, tb2⟩
        · have eb := C.drop_nil hdnb (by rw [HM.out]; omega)
          rw [HM.out] at eb
          have geb : ¬ ((k + 1 : Nat) : Int) < m := by omega
          clear hdnb hsb hdtb eb
          go_wp2
          go_quiet (fail)
          go_wp2
          go_loop [8] (fun v => v = .int .i64 i) (fun v => n + 1 - (intOf v).toNat)
          case atStart => exact rfl
          case round =>
            obtain rfl := hrel
            go_wp2
            go_loop [9] (fun v => v = .int .i64 k ∨ v = .int .i64 ((k + 1 : Nat) : Int)) (fun v => m + 1 - (intOf v).toNat)
            case atStart => exact .inl rfl
            case round =>
              rcases hrel with rfl | rfl
              · go_wp2
                exact ⟨.inr (by go_num), by simp [intOf]; omega⟩
              · go_wp2
                go_wp2_with fail
                rw [HEN.out, Oper.upon_enter]
                refine (HF.out _ _ _).mono ?_
                rintro e w1 ⟨rfl, rfl⟩
                have HE := HST.out
                rcases was with _ | _ <;> rcases hfi : f (C.par i) (!C.par k) with _ | _ <;> rw [hfi] at HE <;> clear hfi
                · go_wp2
                  exact ⟨⟨i, (k + 1), N1, false, xs, by omega, by omega, by omega, by go_num, by go_num, rfl, by omega, HE, hown, below_drewN hbel _⟩, by simp [intOf]; omega⟩
                · go_wp2_with (at_builtin; refine wpList_push1 _ rfl _ _ _ rfl (w.heap.size + 1) 21 i0 _ 4 Tryz.underlying36 hi0 hz0 hz1 hz2 rfl _ xs.length _ rfl hown _ rfl rfl (by simp only [maxLen]; omega) (by omega) hsz ?_; intro v1 w2 hown2 hb2)
                  exact ⟨⟨i, (k + 1), N1, true, xs ++ [y], by omega, by omega, by omega, by go_num, by go_num, rfl, by simp; omega, by rw [HE, List.append_assoc]; rfl, by rw [List.length_append, List.map_append]; exact hown2, (below_drewN hbel _).trans hb2⟩, by simp [intOf]; omega⟩
                · go_wp2_with (at_builtin; refine wpList_push1 _ rfl _ _ _ rfl (w.heap.size + 1) 21 i0 _ 4 Tryz.underlying36 hi0 hz0 hz1 hz2 rfl _ xs.length _ rfl hown _ rfl rfl (by simp only [maxLen]; omega) (by omega) hsz ?_; intro v1 w2 hown2 hb2)
                  exact ⟨⟨i, (k + 1), N1, false, xs ++ [y], by omega, by omega, by omega, by go_num, by go_num, rfl, by simp; omega, by rw [HE, List.append_assoc]; rfl, by rw [List.length_append, List.map_append]; exact hown2, (below_drewN hbel _).trans hb2⟩, by simp [intOf]; omega⟩
                · go_wp2
                  exact ⟨⟨i, (k + 1), N1, true, xs, by omega, by omega, by omega, by go_num, by go_num, rfl, by omega, HE, hown, below_drewN hbel _⟩, by simp [intOf]; omega⟩
        · obtain ⟨q1b, q2b, q3b⟩ := C.drop_get hdnb
          rw [HM.out] at q1b
          have hcnb := HCB.out _ _ q2b
          have hgtb : y < ub := C.srt_head hsb ub (by rw [← hdtb, hdnb]; simp)
          have hneb : (ub == y) = false := by simp; omega
          have geb : ((k + 1 : Nat) : Int) < m := by omega
          clear hdnb q1b q2b q3b hgtb hsb hdtb
          go_wp2
          go_quiet (fail)
          go_wp2
          go_loop [8] (fun v => v = .int .i64 i) (fun v => n + 1 - (intOf v).toNat)
          case atStart => exact rfl
          case round =>
            obtain rfl := hrel
            go_wp2
            go_loop [9] (fun v => v = .int .i64 k ∨ v = .int .i64 ((k + 1 : Nat) : Int)) (fun v => m + 1 - (intOf v).toNat)
            case atStart => exact .inl rfl
            case round =>
              rcases hrel with rfl | rfl
              · go_wp2
                exact ⟨.inr (by go_num), by simp [intOf]; omega⟩
              · go_wp2
                go_wp2_with fail
                rw [HEN.out, Oper.upon_enter]
                refine (HF.out _ _ _).mono ?_
                rintro e w1 ⟨rfl, rfl⟩
                have HE := HST.out
                rcases was with _ | _ <;> rcases hfi : f (C.par i) (!C.par k) with _ | _ <;> rw [hfi] at HE <;> clear hfi
                · go_wp2
                  exact ⟨⟨i, (k + 1), N1, false, xs, by omega, by omega, by omega, by go_num, by go_num, rfl, by omega, HE, hown, below_drewN hbel _⟩, by simp [intOf]; omega⟩
                · go_wp2_with (at_builtin; refine wpList_push1 _ rfl _ _ _ rfl (w.heap.size + 1) 21 i0 _ 4 Tryz.underlying36 hi0 hz0 hz1 hz2 rfl _ xs.length _ rfl hown _ rfl rfl (by simp only [maxLen]; omega) (by omega) hsz ?_; intro v1 w2 hown2 hb2)
                  exact ⟨⟨i, (k + 1), N1, true, xs ++ [y], by omega, by omega, by omega, by go_num, by go_num, rfl, by simp; omega, by rw [HE, List.append_assoc]; rfl, by rw [List.length_append, List.map_append]; exact hown2, (below_drewN hbel _).trans hb2⟩, by simp [intOf]; omega⟩
                · go_wp2_with (at_builtin; refine wpList_push1 _ rfl _ _ _ rfl (w.heap.size + 1) 21 i0 _ 4 Tryz.underlying36 hi0 hz0 hz1 hz2 rfl _ xs.length _ rfl hown _ rfl rfl (by simp only [maxLen]; omega) (by omega) hsz ?_; intro v1 w2 hown2 hb2)
                  exact ⟨⟨i, (k + 1), N1, false, xs ++ [y], by omega, by omega, by omega, by go_num, by go_num, rfl, by simp; omega, by rw [HE, List.append_assoc]; rfl, by rw [List.length_append, List.map_append]; exact hown2, (below_drewN hbel _).trans hb2⟩, by simp [intOf]; omega⟩
                · go_wp2
                  exact ⟨⟨i, (k + 1), N1, true, xs, by omega, by omega, by omega, by go_num, by go_num, rfl, by omega, HE, hown, below_drewN hbel _⟩, by simp [intOf]; omega⟩
end Go.Proofs.YtkmfegamblmpeaaGreatDoor
