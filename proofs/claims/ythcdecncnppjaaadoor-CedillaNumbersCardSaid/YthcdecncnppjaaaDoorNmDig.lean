/- The package digits, by walking its text: right; Uint64; bytes copied and turned round. -/
import Derived.Test.YthcdecncnppjaaaDoorNmDiv
import Derived.BigRegion
namespace Go.Proofs.YthcdecncnppjaaaDoor
open Go.RowKit
set_option linter.unusedSimpArgs false
set_option linter.unusedVariables false
def Nm.u8s (l : List Nat) : List Value := l.map fun d => Value.int .u8 (d : Nat)
theorem Nm.u8s_len (l : List Nat) : (Nm.u8s l).length = l.length := by simp [Nm.u8s]
theorem Nm.u8s_one (l : List Nat) : ∀ u ∈ Nm.u8s l, u.oneCell' = true := by
  intro u hu
  obtain ⟨d, _, rfl⟩ := List.mem_map.1 hu
  rfl
/-- A text's bytes. -/
def Nm.ds (s : ByteArray) : List Nat := s.data.toList.map UInt8.toNat
theorem Nm.ds_len (s : ByteArray) : (Nm.ds s).length = s.size := by simp [Nm.ds]
theorem Nm.ds_lt (s : ByteArray) : ∀ d ∈ Nm.ds s, d < 256 := by
  intro d hd
  obtain ⟨b, _, rfl⟩ := List.mem_map.1 hd
  exact UInt8.toNat_lt b
theorem Nm.ds_drop (s : ByteArray) (k : Nat) : Nm.ds (s.extract k s.size) = (Nm.ds s).drop k := by
  unfold Nm.ds
  rw [← List.map_drop]
  congr 1
  have h : s.data.toList.length = s.size := by simp
  simp only [ByteArray.data_extract, Array.toList_extract]
  rw [List.extract_eq_take_drop, List.take_of_length_le (by rw [List.length_drop]; omega)]
theorem Nm.ds_inj {s t : ByteArray} (h : Nm.ds s = Nm.ds t) : s = t := by
  unfold Nm.ds at h
  have : s.data.toList = t.data.toList := by
    refine List.map_inj_right (f := UInt8.toNat) (fun a b e => UInt8.toNat_inj.1 e) |>.1 h
  exact ByteArray.ext (Array.toList_inj.1 this)
theorem Nm.idx (s : ByteArray) (k d : Nat) (h : (Nm.ds s)[k]? = some d) (W : World) : (Instr.index 9 (.string s) (.int .i64 (k : Int))).run Tryd.prog W = .ok (.int .u8 (d : Int)) W := by
  have hk : k < s.size := by rw [← Nm.ds_len]; exact (List.getElem?_eq_some_iff.1 h).1
  rw [run_index_string W 9 s .i64 _ Tryd.underlying9, dif_pos ⟨by omega, by omega⟩]
  have e : ((k : Int)).toNat = k := by omega
  simp only [e]
  congr 2
  obtain ⟨h1, h2⟩ := List.getElem?_eq_some_iff.1 h
  rw [← h2]
  simp [Nm.ds, ByteArray.getElem_eq_getElem_data]
/-- A number as it is written. -/
def Nm.Dec (l : List Nat) : Prop := (∀ d ∈ l, 48 ≤ d ∧ d ≤ 57) ∧ (l = [48] ∨ (l ≠ [] ∧ l.head? ≠ some 48))
set_option maxRecDepth 100000 in
set_option maxHeartbeats 2000000 in
theorem Nm.rightD_any (s : ByteArray) (w : World) (hs : s.size ≤ 1000000) (h : Nm.Dec (Nm.ds s)) : Calls Tryd.prog 23 #[.string s] w fun e w' => e = .returned (.bool true) ∧ w' = w := by
  obtain ⟨hd, ho⟩ := h
  have HD := hy' hd
  have HO := hy' ho
  obtain ⟨n, hn⟩ : ∃ n, s.size = n := ⟨_, rfl⟩
  have HN := hy' hn
  have hn2 : n ≤ 1000000 := by omega
  clear hd ho hs
  go_enter Tryd.func23, Tryd.ntmps23
  go_wp2_with fail
  go_loopw [6] (fun vi wr => ∃ k : Nat, k ≤ n ∧ vi = .int .i64 (k : Int) ∧ wr = w) (fun vi _ => n - (intOf vi).toNat)
  case atStart => exact ⟨0, by omega, rfl, rfl⟩
  case round =>
    obtain ⟨k, hk, rfl, rfl⟩ := hrel
    by_cases hlt : k < n
    · have kI : (k : Int) < n := by omega
      have hg : (Nm.ds s)[k]? = some ((Nm.ds s).getD k 0) := Nm.get_of (by rw [Nm.ds_len, HN.o]; exact hlt)
      obtain ⟨d, hd⟩ : ∃ d, (Nm.ds s).getD k 0 = d := ⟨_, rfl⟩
      rw [hd] at hg
      obtain ⟨h1, h2⟩ := HD.o d (List.mem_of_getElem? hg)
      have hi := Nm.idx s k d hg
      have d1 : ¬ (d : Int) < 48 := by omega
      have d2 : ¬ (57 : Int) < d := by omega
      clear hg hd hn
      go_wp2_with fail
      exact ⟨⟨k + 1, by omega, by first | rfl | go_num, by first | rfl | trivial⟩, by first | (simp [intOf]; done) | (simp [intOf]; omega)⟩
    · obtain rfl : k = n := by omega
      have kI : ¬ (k : Int) < k := by omega
      by_cases h0 : Nm.ds s = [48]
      · have he : s = ⟨#[48]⟩ := Nm.ds_inj h0
        have HE := hy' he
        clear hn he h0
        have hb : (s.toList == (⟨#[48]⟩ : ByteArray).toList) = true := by rw [HE.o]; simp
        have hb2 : (s.toList == [48]) = true := by rw [HE.o, ByteArray.toList_eq]; rfl
        go_wp2_with fail
        go_ret
        first | exact ⟨rfl, rfl⟩ | (simp [hb, hb2]; done)
      · obtain ⟨hne, hh⟩ : Nm.ds s ≠ [] ∧ (Nm.ds s).head? ≠ some 48 := by
          rcases HO.o with h | h
          · exact absurd h h0
          · exact h
        have hk0 : 0 < k := by
          rw [← HN.o, ← Nm.ds_len]
          rcases hl : Nm.ds s with _ | ⟨x, r⟩
          · exact absurd hl hne
          · simp
        have hg : (Nm.ds s)[0]? = some ((Nm.ds s).getD 0 0) := Nm.get_of (by rw [Nm.ds_len, HN.o]; exact hk0)
        obtain ⟨d, hd⟩ : ∃ d, (Nm.ds s).getD 0 0 = d := ⟨_, rfl⟩
        rw [hd] at hg
        have hdn : d ≠ 48 := by
          intro e
          subst e
          rw [List.head?_eq_getElem?] at hh
          exact hh hg
        have hi : ∀ W, (Instr.index 9 (.string s) (.int .i64 0)).run Tryd.prog W = .ok (.int .u8 (d : Int)) W := Nm.idx s 0 d hg
        have hb2 : (s.toList == [48]) = false := by
          rw [ByteArray.toList_eq]
          refine Bool.eq_false_iff.2 fun e => h0 ?_
          have := eq_of_beq e
          unfold Nm.ds
          rw [this]
          rfl
        have hemp : s.toList.isEmpty = false := by
          rw [ByteArray.toList_eq]
          cases hl : s.data.toList with
          | nil => exact absurd (by unfold Nm.ds; rw [hl]; rfl) hne
          | cons x r => rfl
        have dI : ((d : Int) != 48) = true := by simp; omega
        have dI2 : ((d : Int) == 48) = false := by simp; omega
        clear hg hd hn hh hne h0
        go_wp2_with fail
        go_ret
        exact ⟨rfl, rfl⟩
set_option maxRecDepth 100000 in
set_option maxHeartbeats 1000000 in
/-- slices.Clone of digits that are read: a row of the call's own. -/
theorem Nm.cloneB_any (A : Option Addr) (n c B : Nat) (l : List Nat) (w : World) (hn : l.length = n) (hn' : n ≤ 1000000) (hB : B ≤ w.heap.size) (hA : Sl w B A (Nm.u8s l)) :
    Calls Tryd.prog 22 #[.slice A n c] w fun r w' => ∃ A' c', r = .returned (.slice A' n c') ∧ w'.ownsRow w.heap.size 5 1 (.slice A' n c') n (Nm.u8s l) ∧ Go.RowKit.Below w.heap.size w w' := by
  obtain ⟨j0, hj0, hy0, hy1, hy2⟩ := info_parts infoByte
  have HN := hy' hn
  clear hn
  rcases A with _ | ad
  · have hl : l = [] := by
      rcases l with _ | ⟨x, t⟩
      · rfl
      · obtain ⟨b, o, h, _⟩ := hA (by simp [Nm.u8s])
        cases h
    subst hl
    obtain rfl : 0 = n := HN.o
    have heq : ∀ w, (binOp .eql 23 (.slice none 0 c) (.slice none 0 0)).run Tryd.prog w = .ok (.bool true) w := fun w => by kernel_rfl
    go_enter Tryd.func22, Tryd.ntmps22
    go_wp2
    go_ret
    exact ⟨none, 0, rfl, World.ownsRow_nil _ _ _ _, Go.RowKit.Below.refl _ _⟩
  · have hal : Go.RowKit.Below w.heap.size w (w.alloc (.cells #[] 5)) := (Go.RowKit.Below.refl _ _).alloc (Nat.le_refl _) _
    have hS := hy' (hA.belowN hal hB (Nat.le_refl _))
    have heq : ∀ w, (binOp .eql 23 (.slice (some ad) n c) (.slice none 0 0)).run Tryd.prog w = .ok (.bool false) w := fun w => by first | exact Lib.run_eql_slice_nil w _ _ _ _ _ Tryd.underlying23 | kernel_rfl
    have hown0 : (w.alloc (.cells #[] 5)).ownsRow w.heap.size 5 1 (.slice (some ⟨w.heap.size, 0, none⟩) 0 0) 0 [] := ⟨rfl, .inr ⟨w.heap.size, 0, #[], rfl, Nat.le_refl _, heap_alloc_new w _, Nat.le_refl _, by decide, rfl, rfl⟩⟩
    go_enter Tryd.func22, Tryd.ntmps22
    go_wp2_with (at_builtin; refine wpList_appendSl _ rfl _ _ _ rfl w.heap.size 5 j0 _ 1 1 Tryd.underlying23 hj0 hy0 hy1 hy2 rfl (by omega) _ 0 _ rfl hown0 _ (some ad) n c (Nm.u8s l) rfl (by rw [Nm.u8s_len, HN.o]; omega) hS.out (Nm.u8s_one _) (by simp only [maxLen]; omega) (by omega) (by simp) ?_; intro v1 w2 hown2 hb2 _)
    obtain ⟨A5, c5, rfl⟩ := own_form hown2
    go_wp2
    go_ret
    rw [Nat.zero_add] at hown2
    exact ⟨A5, c5, by simp, by simpa using hown2, hal.trans hb2⟩
set_option maxRecDepth 100000 in
set_option maxHeartbeats 2000000 in
theorem Nm.uint64_any (v : Value) (n L : Nat) (w : World) (hn : n < 18446744073709551616) (hL : L ≤ 100000) (h : Nm.Is w v n L) :
    Calls Tryd.prog 24 #[v] w fun e w' => e = .returned (.tuple #[.int .u64 (n : Int), .bool true]) ∧ Below w.heap.size w w' := by
  have HLB := hy' (fun W (hW : Below w.heap.size w W) (i : Nat) (hi : i ≤ 1000000) => Nm.limb_any v n L i W hi (by omega) (h.below hW))
  obtain ⟨A, m, c, l, rfl, hm, hsl, hcan, hval, hmL⟩ := h
  have hm2 : m ≤ 2 := by
    refine Nat.le_of_not_lt fun h => ?_
    have h1 := Nm.can_len hcan (by omega)
    rw [hval, hm] at h1
    have h2 : 4294967296 ^ 2 ≤ 4294967296 ^ (m - 1) := Nat.pow_le_pow_right (by decide) (by omega)
    rw [show (4294967296 : Nat) ^ 2 = 18446744073709551616 by decide] at h2
    omega
  have mI : ¬ (2 : Int) < m := by omega
  have hal : Below w.heap.size w (w.alloc (.cells #[.slice A m c] 27)) := (Below.refl _ _).alloc (Nat.le_refl _) _
  have hat := Rw.At.new w 27 [.slice A m c]
  obtain ⟨w1, hw1⟩ : ∃ w1, w.alloc (.cells #[.slice A m c] 27) = w1 := ⟨_, rfl⟩
  rw [show w.alloc (.cells [Value.slice A m c].toArray 27) = w1 from hw1] at hat
  rw [hw1] at hal
  obtain ⟨p1, hp1⟩ : ∃ p, n / 4294967296 ^ 1 % 4294967296 = p := ⟨_, rfl⟩
  obtain ⟨p0, hp0⟩ : ∃ p, n / 4294967296 ^ 0 % 4294967296 = p := ⟨_, rfl⟩
  have hp1l : p1 < 4294967296 := by rw [← hp1]; exact Nat.mod_lt _ (by decide)
  have hp0l : p0 < 4294967296 := by rw [← hp0]; exact Nat.mod_lt _ (by decide)
  have hsum : p1 * 4294967296 + p0 = n := by
    rw [Nat.pow_one] at hp1
    rw [Nat.pow_zero, Nat.div_one] at hp0
    omega
  have hor := Nm.two64 hp0l hp1l hsum
  have HAT := hy' hat
  have HAL := hy' hal
  have HW := hy' hw1
  have C1 := hy' (Ext.call fun W hW => HLB.o W (HAL.o.trans (hW.mono HAL.o.size)) 1 (by omega))
  have C0 := hy' (Ext.call fun W hW => HLB.o W (HAL.o.trans (hW.mono HAL.o.size)) 0 (by omega))
  rw [hp1, show ((1 : Nat) : Int) = 1 from rfl] at C1
  rw [hp0, show ((0 : Nat) : Int) = 0 from rfl] at C0
  have e0 := Ext.cells (HAT.o.cell 0 rfl) HAT.o.lt
  have r0 : (0 : Int) ≤ p1 := by omega
  have r1 : (p1 : Int) < 4294967296 := by omega
  have r2 : (p1 : Int) * 4294967296 < 18446744073709551616 := by omega
  have hk := HAT.o.cell 0 rfl
  have hl := HAT.o.lt
  clear hm hsl hcan hval hat hal hw1 hp1 hp0 hsum
  go_enter Tryd.func24, Tryd.ntmps24
  go_upto_region 1 with (fail)
  rw [HW.o]
  go_upto_region 3 with (fail)
  refine wp_region_ext (by kernel_rfl) (by kernel_rfl) ?_
  repeat (go_big_quiet_step ((go_at_call 19; first | with_reducible exact C1.o _ | with_reducible exact C0.o _)))
  refine wpQuiet_nil ?_
  intro xw
  have HBX := hy' (HAL.o.trans (xw.below.mono HAL.o.size))
  go_wp2_with fail
  go_ret2
  exact ⟨rfl, HBX.o⟩
theorem Nm.own_set {w : World} {base : Nat} {e : TypeId} {size n c g j : Nat} {xs : List Value} (h : w.ownsRow base e size (.slice (some ⟨g, 0, none⟩) n c) n xs) (hj : j < xs.length) (u : Value) :
    (w.setCell ⟨g, j, none⟩ u).ownsRow base e size (.slice (some ⟨g, 0, none⟩) n c) n (xs.set j u) := by
  obtain ⟨h1, h2⟩ := h
  refine ⟨by rw [List.length_set]; exact h1, ?_⟩
  rcases h2 with ⟨h2, _⟩ | ⟨g', cap, cur, hv, hg, hc, hn, hm, hs, ht⟩
  · cases h2
  · cases hv
    refine .inr ⟨g, c, cur.set! j u, rfl, hg, ?_, hn, hm, by simp [hs], ?_⟩
    · simp [World.setCell, Array.getElem?_modify, hc]
    · rw [← ht]
      apply List.ext_getElem?
      intro i
      simp only [List.getElem?_take, List.getElem?_set, Array.toList_set!, List.length_take, Array.length_toList]
      have hl : n * size ≤ cur.size := by rw [hs]; exact Nat.mul_le_mul_right _ hn
      rw [h1] at hj
      by_cases h3 : j = i
      · subst h3
        simp [hj, show j < cur.size by omega]
        omega
      · simp [h3]
theorem Nm.own_zero {w : World} {base : Nat} {e : TypeId} {size n c b o : Nat} {xs : List Value} (h : w.ownsRow base e size (.slice (some ⟨b, o, none⟩) n c) n xs) : o = 0 ∧ base ≤ b ∧ b < w.heap.size ∧ ∀ j, w.frozen? ⟨b, j, none⟩ = false := by
  rcases h.2 with ⟨h2, _⟩ | ⟨g', cap, cur, hv, hg, hc, hn, hm, hs, ht⟩
  · cases h2
  · cases hv
    exact ⟨rfl, hg, heap_lt hc, fun j => by simp [World.frozen?, hc]⟩
/-- What Reverse leaves. -/
def Nm.RevPost (base g n c : Nat) (l : List Nat) (w : World) (e : Ending) (w' : World) : Prop :=
  e = .returned (.tuple #[]) ∧ w'.ownsRow base 5 1 (.slice (some ⟨g, 0, none⟩) n c) n (Nm.u8s l.reverse) ∧ w.grownBy w' (some g)
theorem Nm.u8s_set (l : List Nat) (i d : Nat) : (Nm.u8s l).set i (.int .u8 (d : Nat)) = Nm.u8s (l.set i d) := by simp [Nm.u8s, List.map_set]
set_option maxRecDepth 100000 in
set_option maxHeartbeats 2000000 in
theorem Nm.reverse_any (base g n c : Nat) (l : List Nat) (w : World) (hn : l.length = n) (hm : n ≤ 1000000) (h : w.ownsRow base 5 1 (.slice (some ⟨g, 0, none⟩) n c) n (Nm.u8s l)) :
    Calls Tryd.prog 25 #[.slice (some ⟨g, 0, none⟩) n c] w (Nm.RevPost base g n c l w) := by
  have HN := hy' hn
  have HO := hy' h
  clear hn h
  go_enter Tryd.func25, Tryd.ntmps25
  go_wp2_with fail
  go_loopw [2, 3] (fun vi vj wr => ∃ (i : Nat) (O : List Nat), vi = .int .i64 (i : Int) ∧ vj = .int .i64 ((n : Int) - 1 - i) ∧ 2 * i ≤ n + 1 ∧ O.length = n ∧ (∀ p, p < n → O.getD p 0 = if p < i ∨ n ≤ p + i then l.getD (n - 1 - p) 0 else l.getD p 0) ∧ wr.ownsRow base 5 1 (.slice (some ⟨g, 0, none⟩) n c) n (Nm.u8s O) ∧ w.grownBy wr (some g)) (fun vi _ _ => n + 1 - (intOf vi).toNat)
  case atStart => exact ⟨0, l, rfl, by first | rfl | (congr 1; omega), by omega, HN.o, fun p hp => by rw [if_neg (by omega)], HO.o, World.grownBy.refl w _⟩
  case round =>
    obtain ⟨i, O, rfl, rfl, hi, hOl, hOf, hown, hgr⟩ := hrel
    have HOL := hy' hOl
    have HOF := hy' hOf
    have HOW := hy' hown
    have HGR := hy' hgr
    clear hOl hOf hown hgr
    by_cases hlt : 2 * i + 1 < n
    · have iI : (i : Int) < (n : Int) - 1 - i := by omega
      have i0 : (0 : Int) ≤ i := by omega
      have i1 : (i : Int) < n := by omega
      obtain ⟨j, hj⟩ : ∃ j : Nat, j = n - 1 - i := ⟨_, rfl⟩
      have hjI : (n : Int) - 1 - i = j := by omega
      rw [hjI] at iI ⊢
      have j0 : (0 : Int) ≤ j := by omega
      have j1 : (j : Int) < n := by omega
      have hgi : O[i]? = some (O.getD i 0) := Nm.get_of (by rw [HOL.o]; omega)
      have hgj : O[j]? = some (O.getD j 0) := Nm.get_of (by rw [HOL.o]; omega)
      obtain ⟨a, ha⟩ : ∃ a, O.getD i 0 = a := ⟨_, rfl⟩
      obtain ⟨b, hb⟩ : ∃ b, O.getD j 0 = b := ⟨_, rfl⟩
      have ha2 := HOF.o i (by omega)
      have hb2 := HOF.o j (by omega)
      rw [ha, if_neg (by omega)] at ha2
      rw [hb, if_neg (by omega)] at hb2
      rw [ha] at hgi
      rw [hb] at hgj
      have ci := own_cell HOW.o (i := i) (u := .int .u8 (a : Nat)) (by simp [Nm.u8s, hgi])
      have cj := own_cell HOW.o (i := j) (u := .int .u8 (b : Nat)) (by simp [Nm.u8s, hgj])
      obtain ⟨_, _, hgl, hfz⟩ := Nm.own_zero HOW.o
      have fi := hfz i
      have fj := hfz j
      have s1 := Nm.own_set HOW.o (j := i) (by rw [Nm.u8s_len, HOL.o]; omega) (.int .u8 (b : Nat))
      rw [Nm.u8s_set] at s1
      have s2 := Nm.own_set s1 (j := j) (by rw [Nm.u8s_len, List.length_set, HOL.o]; omega) (.int .u8 (a : Nat))
      rw [Nm.u8s_set] at s2
      have HS2 := hy' s2
      have HGR2 := hy' (HGR.o.trans (Rw.grown_trans (Rw.grown_set g i (.int .u8 (b : Int))) (Rw.grown_set g j (.int .u8 (a : Int)))))
      have HA2 := hy' ha2
      have HB2 := hy' hb2
      have ne1 : i ≠ j := by omega
      have ne2 : j ≠ i := by omega
      have HJ := hy' hj
      clear hgi hgj ha hb ha2 hb2 s1 s2 hfz hj
      go_upto_region 3 with (fail)
      go_region
      go_wp2_with fail
      refine ⟨⟨i + 1, (O.set i b).set j a, by first | rfl | go_num, by have := HJ.o; congr 1; omega, by omega, by rw [List.length_set, List.length_set]; exact HOL.o, fun p hp => ?_, HS2.o, ⟨HGR2.o.os, HGR2.o.tape, HGR2.o.output, HGR2.o.size, HGR2.o.block⟩⟩, by first | (simp [intOf]; done) | (simp [intOf]; omega)⟩
      have hj := HJ.o
      by_cases hpj : p = j
      · subst hpj
        rw [List.getD_eq_getElem?_getD, List.getElem?_set_self (by rw [List.length_set, HOL.o]; exact hp), if_pos (by omega), show n - 1 - p = i by omega]
        exact HA2.o
      · rw [Nm.getD_set_ne (by omega)]
        by_cases hpi : p = i
        · subst hpi
          rw [List.getD_eq_getElem?_getD, List.getElem?_set_self (by rw [HOL.o]; exact hp), if_pos (by omega), ← hj]
          exact HB2.o
        · rw [Nm.getD_set_ne (by omega), HOF.o p hp]
          by_cases hc : p < i ∨ n ≤ p + i
          · rw [if_pos hc, if_pos (by omega)]
          · rw [if_neg hc, if_neg (by omega)]
    · have iI : ¬ (i : Int) < (n : Int) - 1 - i := by omega
      have hrev : O = l.reverse := by
        apply List.ext_getElem?
        intro p
        by_cases hp : p < n
        · rw [Nm.get_of (by rw [HOL.o]; exact hp), HOF.o p hp, List.getElem?_reverse (by rw [HN.o]; exact hp), HN.o, Nm.get_of (by rw [HN.o]; omega)]
          by_cases hc : p < i ∨ n ≤ p + i
          · rw [if_pos hc]
          · rw [if_neg hc, show n - 1 - p = p by omega]
        · rw [List.getElem?_eq_none (by rw [HOL.o]; omega), List.getElem?_eq_none (by rw [List.length_reverse, HN.o]; omega)]
      have HREV := hy' hrev
      clear hrev
      go_wp2_with fail
      refine bodyPost_end (results_none rfl _ _ _) rfl ?_
      exact ⟨rfl, by rw [← HREV.o]; exact HOW.o, HGR.o⟩
end Go.Proofs.YthcdecncnppjaaaDoor
