/- strings.Lines, strings.TrimSuffix at a line's end: their contracts, by walking their texts. -/
import Derived.Test.YtppmcnpjglackaaGreatDoorFiSeq
import Derived.Test.YtppmcnpjglackaaGreatDoorRwPlain
import Derived.Test.YtppmcnpjglackaaGreatDoorShelf
import Derived.BigRegionIn
namespace Go.Proofs.YtppmcnpjglackaaGreatDoor
open Go.RowKit
attribute [local go_sem] Oper.semAt_some
set_option linter.unusedSimpArgs false
set_option linter.unusedVariables false

/-- A text's lines with what ends them. -/
def Rw.raw : List UInt8 → List UInt8 → List (List UInt8)
  | w, [] => if w = [] then [] else [w]
  | w, b :: r => if b = 10 then (w ++ [10]) :: Rw.raw [] r else Rw.raw (w ++ [b]) r
def Rw.trimN (x : List UInt8) : List UInt8 := if x.getLast? = some 10 then x.dropLast else x
theorem Rw.raw_app : ∀ (a w r : List UInt8), (10 : UInt8) ∉ a → Rw.raw w (a ++ r) = Rw.raw (w ++ a) r
  | [], w, r, _ => by simp
  | b :: a, w, r, h => by
    have hb : b ≠ 10 := fun e => h (by rw [e]; exact List.mem_cons_self)
    rw [List.cons_append, Rw.raw, if_neg hb, Rw.raw_app a _ r (fun h' => h (List.mem_cons_of_mem _ h')), List.append_assoc]
    rfl
theorem Rw.raw_trim : ∀ (l w : List UInt8), (10 : UInt8) ∉ w → (Rw.raw w l).map Rw.trimN = Rw.lns w l
  | [], w, h => by
    unfold Rw.raw Rw.lns
    split
    · rfl
    · rw [List.map_singleton]
      unfold Rw.trimN
      rw [if_neg]
      intro hl
      exact h (List.mem_of_getLast? hl)
  | b :: r, w, h => by
    unfold Rw.raw Rw.lns
    split
    · rw [List.map_cons, Rw.raw_trim r [] (by simp)]
      congr 1
      unfold Rw.trimN
      simp
    · rename_i hb
      exact Rw.raw_trim r _ fun hm => by
        rcases List.mem_append.1 hm with h1 | h1
        · exact h h1
        · rw [List.mem_singleton] at h1; exact hb h1.symm
def Rw.raws (s : ByteArray) : List ByteArray := (Rw.raw [] s.data.toList).map fun x => ⟨x.toArray⟩
theorem Rw.raws_hit {r : ByteArray} {i : Nat} (h : Lib.indexByte r.data.toList 10 = i) : Rw.raws r = r.extract 0 (i + 1) :: Rw.raws (r.extract (i + 1) r.size) := by
  obtain ⟨h1, h2⟩ := Fi.idx_hit 10 _ i h
  have hd : (r.extract (i + 1) r.size).data.toList = r.data.toList.drop (i + 1) := by rw [Lib.extract_data, List.take_of_length_le (by simp)]
  have hl : i < r.data.toList.length := by
    have := congrArg List.length h1
    rw [List.length_append, List.length_cons, List.length_take, List.length_drop] at this
    omega
  have hg : r.data.toList[i] = 10 := by
    have e := congrArg (·[i]?) h1
    simp only [List.getElem?_eq_getElem hl] at e
    rw [List.getElem?_append_right (by rw [List.length_take]; omega), List.length_take, Nat.min_eq_left (by omega), Nat.sub_self] at e
    simpa using e
  have ht : (r.extract 0 (i + 1)).data.toList = r.data.toList.take i ++ [10] := by
    rw [Lib.extract_data, List.drop_zero, Nat.sub_zero, List.take_succ_eq_append_getElem hl, hg]
  unfold Rw.raws
  rw [hd]
  conv => lhs; rw [h1]
  rw [Rw.raw_app _ _ _ h2, List.nil_append, Rw.raw, if_pos rfl, List.map_cons, ← ht, Lib.mk_data]
theorem Rw.raws_miss {r : ByteArray} (h : Lib.indexByte r.data.toList 10 = -1) (h0 : 0 < r.size) : Rw.raws r = [r] := by
  have hne : r.data.toList ≠ [] := fun e => by
    have : r.data.toList.length = r.size := by simp
    rw [e, List.length_nil] at this; omega
  have := Rw.raw_app r.data.toList [] [] (Fi.idx_miss 10 _ h)
  rw [List.append_nil, List.nil_append, Rw.raw, if_neg hne] at this
  unfold Rw.raws
  rw [this, List.map_singleton, Lib.mk_data]
theorem Rw.raws_none {r : ByteArray} (h0 : r.size = 0) : Rw.raws r = [] := by
  have : r.data.toList = [] := List.eq_nil_of_length_eq_zero (by simpa using h0)
  unfold Rw.raws
  rw [this]
  rfl
theorem Rw.idx_lt {r : ByteArray} {c : UInt8} {i : Nat} (h : Lib.indexByte r.data.toList c = i) : i < r.size := by
  obtain ⟨h1, _⟩ := Fi.idx_hit c _ i h
  have := congrArg List.length h1
  have hl : r.data.toList.length = r.size := by simp
  rw [List.length_append, List.length_cons, List.length_take, List.length_drop, hl] at this
  omega

theorem Rw.grown_drew {W W' : World} {row : Option Nat} (h : W.grownBy W' row) : W.grownBy W'.drew row := ⟨h.os, h.tape, h.output, h.size, h.block⟩
theorem Rw.idx10 (r : ByteArray) (w : World) : Calls Tryz.prog 70 #[.string r, .int .u8 10] w fun e w' => e = .returned (.int .i64 (Lib.indexByte r.data.toList 10)) ∧ w' = w :=
  Tryz.strings_IndexByte r 10 w

set_option maxRecDepth 100000 in
set_option maxHeartbeats 4000000 in
theorem Rw.linesSeq1 (s : ByteArray) (hs : s.size ≤ 1000000000) (n b : Nat) (hn : 1 ≤ n) (W : World) (h0 : Boxed W b 9 (.string s)) :
    R.Seq n Tryz.prog 69 #[.pointer (some ⟨b, 0, none⟩)] (fun x : ByteArray => #[Value.string x]) b [b]
      (fun xs => xs = Rw.raws s) (fun pre => pre <+: Rw.raws s) (Rw.raws s).length W := fun l J Jx hJ hJx hY hj0 => by
  obtain ⟨L, hL⟩ : ∃ L, Rw.raws s = L := ⟨_, rfl⟩
  rw [hL] at hY ⊢
  have c1 := h0.cell
  refine callsIn_of_wp Tryz.func69 rfl trivial ?_ rfl
  simp only [Tryz.ntmps69, List.size_toArray, List.length_cons, List.length_nil, Nat.reduceAdd, Nat.reduceSub, Array.replicate_succ, Array.replicate_zero, List.push_toArray, List.append_toArray, List.nil_append, List.cons_append]
  gi_wp2
  gi_loopw [3] (fun _ wr => ∃ (pre : List ByteArray) (r : ByteArray), L = pre ++ Rw.raws r ∧ Boxed wr b 9 (.string r) ∧ J pre wr ∧ r.size ≤ s.size)
    (fun _ wr => Q.left b wr)
  case atStart => exact ⟨[], s, hL.symm, h0, hj0, Nat.le_refl _⟩
  case round =>
    obtain ⟨pre, r, hpre, b0, hJp, hrs⟩ := hrel
    have d0 := b0.cell
    have f00 := b0.frozen
    by_cases hr0 : r.size = 0
    · rw [Rw.raws_none hr0, List.append_nil] at hpre
      have hz : ¬ (0 : Int) < (r.size : Int) := by omega
      have HP := Lib.hid hpre
      clear hpre hr0
      gi_wp2
      go_end0
      refine ⟨⟨_, rfl⟩, .inl ?_⟩
      rw [HP.out]
      first | exact hJp | exact ⟨pre, rfl, hJp⟩
    have hz : (0 : Int) < (r.size : Int) := by omega
    by_cases hidx : Lib.indexByte r.data.toList 10 = -1
    · rw [Rw.raws_miss hidx (by omega)] at hpre
      have hm : ¬ (0 : Int) ≤ -1 := by decide
      obtain ⟨U, hU⟩ : ∃ U, wr.setCell ⟨b, 0, none⟩ (.string ⟨#[]⟩) = U := ⟨_, rfl⟩
      have hJU : J pre U := by rw [← hU]; exact hJ _ _ _ _ hJp (grownBy_setCell' wr b (.string ⟨#[]⟩)) (fun q e => by cases e; rfl)
      have bU : Boxed U b 9 (.string ⟨#[]⟩) := by rw [← hU]; exact b0.set _
      obtain ⟨fn, tmps, assign, body, hy, hR⟩ := hY pre r U hJU (by rw [hpre]; simp) (by rw [hpre]; exact List.prefix_refl _)
      have HU := Lib.hid hU
      have HP := Lib.hid hpre
      have HI := Lib.hid hidx
      clear hpre hU hidx
      gi_wp2_with (first | (refine ⟨trivial, ?_⟩; gi_at_call 70; refine (callsIn_wide.2 (Rw.idx10 _ _)).mono ?_; rintro e w1 ⟨rfl, rfl⟩; rw [HI.out]) | fail)
      rw [HU.out]
      rw [hy]
      gi_wp2
      refine hR.mono ?_
      rintro e W3 (⟨rfl, hJ3, hk3⟩ | ⟨rfl, hJx3⟩)
      · have k0 := Q.kept hk3 bU (by simp)
        gi_wp2
        go_roundw
        case rel => exact ⟨pre ++ [r], ⟨#[]⟩, by rw [HP.out, Rw.raws_none rfl, List.append_nil], k0, hJ3, Nat.zero_le _⟩
        case measure => rw [Q.left_eq k0, Q.left_eq b0]; show (0 : Nat) < r.size; omega
      · gi_wp2
        refine bodyPost_ret (results_none rfl _ _ _) rfl ?_
        exact ⟨⟨_, rfl⟩, .inr ⟨pre ++ [r], by rw [HP.out]; exact List.prefix_refl _, hJx3⟩⟩
    · have hge := Lib.indexByte_ge r.data.toList 10
      obtain ⟨i, hi⟩ : ∃ i : Nat, Lib.indexByte r.data.toList 10 = i := ⟨(Lib.indexByte r.data.toList 10).toNat, by omega⟩
      have hir := Rw.idx_lt hi
      rw [Rw.raws_hit hi] at hpre
      obtain ⟨x, hx⟩ : ∃ x, r.extract 0 (i + 1) = x := ⟨_, rfl⟩
      obtain ⟨z, hz'⟩ : ∃ z, r.extract (i + 1) r.size = z := ⟨_, rfl⟩
      rw [hx, hz'] at hpre
      have hzs : z.size = r.size - (i + 1) := by rw [← hz', ByteArray.size_extract]; omega
      have i0 : ¬ (i : Int) < 0 := by omega
      have i1 : (0 : Int) ≤ (i : Int) := by omega
      have i2 : (i : Int) ≤ r.size := by omega
      have i3 : (0 : Int) ≤ (i : Int) + 1 := by omega
      have i4 : (i : Int) + 1 ≤ r.size := by omega
      obtain ⟨U, hU⟩ : ∃ U, (wr.setCell ⟨b, 0, none⟩ (.string z)).drew = U := ⟨_, rfl⟩
      have hgU : wr.grownBy U (some b) := by rw [← hU]; exact Rw.grown_drew (grownBy_setCell' wr b (.string z))
      have hJU : J pre U := hJ _ _ _ _ hJp hgU (fun q e => by cases e; rfl)
      have bU : Boxed U b 9 (.string z) := by rw [← hU]; exact b0.set _
      obtain ⟨fn, tmps, assign, body, hy, hR⟩ := hY pre x U hJU (by rw [hpre]; simp) ⟨_, by rw [hpre, List.append_assoc]; rfl⟩
      have HU := Lib.hid hU
      have HY := Lib.hid hy
      clear hU hgU hy
      have HI := Lib.hid hi
      have HP := Lib.hid hpre
      clear hi hidx hpre hge
      gi_wp2_with (first | (refine ⟨trivial, ?_⟩; gi_at_call 70; refine (callsIn_wide.2 (Rw.idx10 _ _)).mono ?_; rintro e w1 ⟨rfl, rfl⟩; rw [HI.out]) | fail)
      gi_region
      gi_wp2
      rw [HU.out, HY.out]
      gi_wp2
      refine hR.mono ?_
      rintro e W3 (⟨rfl, hJ3, hk3⟩ | ⟨rfl, hJx3⟩)
      · have k0 := Q.kept hk3 bU (by simp)
        gi_wp2
        go_roundw
        case rel => exact ⟨pre ++ [x], z, by rw [HP.out]; simp, k0, hJ3, by omega⟩
        case measure => rw [Q.left_eq k0, Q.left_eq b0]; omega
      · gi_wp2
        refine bodyPost_ret (results_none rfl _ _ _) rfl ?_
        exact ⟨⟨_, rfl⟩, .inr ⟨pre ++ [x], ⟨_, by rw [HP.out, List.append_assoc]; rfl⟩, hJx3⟩⟩

theorem Rw.lines0_any (s : ByteArray) (w : World) :
    Calls Tryz.prog 46 #[.string s] w fun e w' => e = .returned (.func (.func 69) #[] #[.pointer (some ⟨w.heap.size, 0, none⟩)]) ∧ w' = w.alloc (.cells #[.string s] 9) := by
  go_enter Tryz.func46, Tryz.ntmps46
  go_wp2
  go_ret
  exact ⟨rfl, rfl⟩
end Go.Proofs.YtppmcnpjglackaaGreatDoor
