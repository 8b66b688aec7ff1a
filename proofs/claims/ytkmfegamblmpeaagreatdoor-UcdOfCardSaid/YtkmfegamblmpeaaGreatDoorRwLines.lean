/- strings.Lines, strings.TrimSuffix at a line's end: their contracts, by walking their texts. -/
import Derived.Test.YtkmfegamblmpeaaGreatDoorRwPlain
import Derived.Test.YtkmfegamblmpeaaGreatDoorShelf
import Derived.BigRegionIn
import Derived.Maps.AppendAt
namespace Go.Proofs.YtkmfegamblmpeaaGreatDoor
open Go.RowKit
attribute [local go_sem] Oper.semAt_some
set_option linter.unusedSimpArgs false
set_option linter.unusedVariables false

/-- A text's lines with what ends them. -/
def Rw.raw : List UInt8 → List UInt8 → List (List UInt8)
  | w, [] => if w = [] then [] else [w]
  | w, b :: r => if b = 10 then (w ++ [10]) :: Rw.raw [] r else Rw.raw (w ++ [b]) r
def Rw.trimN (x : List UInt8) : List UInt8 := if x.getLast? = some 10 then x.dropLast else x
theorem Rw.raw_app : ∀ (a w r : List UInt8), (10 : UInt8) ∉ a → Rw.raw w (a ++ r) = Rw.raw (w ++ a) r
  | [], w, r, _ => by simp
  | b :: a, w, r, h => by
    have hb : b ≠ 10 := fun e => h (by rw [e]; exact List.mem_cons_self)
    rw [List.cons_append, Rw.raw, if_neg hb, Rw.raw_app a _ r (fun h' => h (List.mem_cons_of_mem _ h')), List.append_assoc]
    rfl
theorem Rw.raw_trim : ∀ (l w : List UInt8), (10 : UInt8) ∉ w → (Rw.raw w l).map Rw.trimN = Rw.lns w l
  | [], w, h => by
    unfold Rw.raw Rw.lns
    split
    · rfl
    · rw [List.map_singleton]
      unfold Rw.trimN
      rw [if_neg]
      intro hl
      exact h (List.mem_of_getLast? hl)
  | b :: r, w, h => by
    unfold Rw.raw Rw.lns
    split
    · rw [List.map_cons, Rw.raw_trim r [] (by simp)]
      congr 1
      unfold Rw.trimN
      simp
    · rename_i hb
      exact Rw.raw_trim r _ fun hm => by
        rcases List.mem_append.1 hm with h1 | h1
        · exact h h1
        · rw [List.mem_singleton] at h1; exact hb h1.symm
def Rw.raws (s : ByteArray) : List ByteArray := (Rw.raw [] s.data.toList).map fun x => ⟨x.toArray⟩
theorem Rw.raws_hit {r : ByteArray} {i : Nat} (h : Lib.indexByte r.data.toList 10 = i) : Rw.raws r = r.extract 0 (i + 1) :: Rw.raws (r.extract (i + 1) r.size) := by
  obtain ⟨h1, h2⟩ := Fi.idx_hit 10 _ i h
  have hd : (r.extract (i + 1) r.size).data.toList = r.data.toList.drop (i + 1) := by rw [Lib.extract_data, List.take_of_length_le (by simp)]
  have hl : i < r.data.toList.length := by
    have := congrArg List.length h1
    rw [List.length_append, List.length_cons, List.length_take, List.length_drop] at this
    omega
  have hg : r.data.toList[i] = 10 := by
    have e := congrArg (·[i]?) h1
    simp only [List.getElem?_eq_getElem hl] at e
    rw [List.getElem?_append_right (by rw [List.length_take]; omega), List.length_take, Nat.min_eq_left (by omega), Nat.sub_self] at e
    simpa using e
  have ht : (r.extract 0 (i + 1)).data.toList = r.data.toList.take i ++ [10] := by
    rw [Lib.extract_data, List.drop_zero, Nat.sub_zero, List.take_succ_eq_append_getElem hl, hg]
  unfold Rw.raws
  rw [hd]
  conv => lhs; rw [h1]
  rw [Rw.raw_app _ _ _ h2, List.nil_append, Rw.raw, if_pos rfl, List.map_cons, ← ht, Lib.mk_data]
theorem Rw.raws_miss {r : ByteArray} (h : Lib.indexByte r.data.toList 10 = -1) (h0 : 0 < r.size) : Rw.raws r = [r] := by
  have hne : r.data.toList ≠ [] := fun e => by
    have : r.data.toList.length = r.size := by simp
    rw [e, List.length_nil] at this; omega
  have := Rw.raw_app r.data.toList [] [] (Fi.idx_miss 10 _ h)
  rw [List.append_nil, List.nil_append, Rw.raw, if_neg hne] at this
  unfold Rw.raws
  rw [this, List.map_singleton, Lib.mk_data]
theorem Rw.raws_none {r : ByteArray} (h0 : r.size = 0) : Rw.raws r = [] := by
  have : r.data.toList = [] := List.eq_nil_of_length_eq_zero (by simpa using h0)
  unfold Rw.raws
  rw [this]
  rfl
theorem Rw.idx_lt {r : ByteArray} {c : UInt8} {i : Nat} (h : Lib.indexByte r.data.toList c = i) : i < r.size := by
  obtain ⟨h1, _⟩ := Fi.idx_hit c _ i h
  have := congrArg List.length h1
  have hl : r.data.toList.length = r.size := by simp
  rw [List.length_append, List.length_cons, List.length_take, List.length_drop, hl] at this
  omega

theorem Rw.grown_drew {W W' : World} {row : Option Nat} (h : W.grownBy W' row) : W.grownBy W'.drew row := ⟨h.os, h.tape, h.output, h.size, h.block⟩
theorem Rw.idx10 (r : ByteArray) (w : World) : Calls Tryz.prog 136 #[.string r, .int .u8 10] w fun e w' => e = .returned (.int .i64 (Lib.indexByte r.data.toList 10)) ∧ w' = w :=
  Tryz.strings_IndexByte r 10 w

set_option maxRecDepth 100000 in
set_option maxHeartbeats 4000000 in
theorem Rw.linesSeq1 (s : ByteArray) (hs : s.size ≤ 1000000000) (n b : Nat) (hn : 1 ≤ n) (W : World) (h0 : Boxed W b 9 (.string s)) :
    R.Seq n Tryz.prog 135 #[.pointer (some ⟨b, 0, none⟩)] (fun x : ByteArray => #[Value.string x]) b [b]
      (fun xs => xs = Rw.raws s) (fun pre => pre <+: Rw.raws s) (Rw.raws s).length W := fun l J Jx hJ hJx hY hj0 => by
  obtain ⟨L, hL⟩ : ∃ L, Rw.raws s = L := ⟨_, rfl⟩
  rw [hL] at hY ⊢
  have c1 := h0.cell
  refine callsIn_of_wp Tryz.func135 rfl trivial ?_ rfl
  simp only [Tryz.ntmps135, List.size_toArray, List.length_cons, List.length_nil, Nat.reduceAdd, Nat.reduceSub, Array.replicate_succ, Array.replicate_zero, List.push_toArray, List.append_toArray, List.nil_append, List.cons_append]
  gi_wp2
  gi_loopw [3] (fun _ wr => ∃ (pre : List ByteArray) (r : ByteArray), L = pre ++ Rw.raws r ∧ Boxed wr b 9 (.string r) ∧ J pre wr ∧ r.size ≤ s.size)
    (fun _ wr => Q.left b wr)
  case atStart => exact ⟨[], s, hL.symm, h0, hj0, Nat.le_refl _⟩
  case round =>
    obtain ⟨pre, r, hpre, b0, hJp, hrs⟩ := hrel
    have d0 := b0.cell
    have f00 := b0.frozen
    by_cases hr0 : r.size = 0
    · rw [Rw.raws_none hr0, List.append_nil] at hpre
      have hz : ¬ (0 : Int) < (r.size : Int) := by omega
      have HP := Lib.hid hpre
      clear hpre hr0
      gi_wp2
      go_end0
      refine ⟨⟨_, rfl⟩, .inl ?_⟩
      rw [HP.out]
      first | exact hJp | exact ⟨pre, rfl, hJp⟩
    have hz : (0 : Int) < (r.size : Int) := by omega
    by_cases hidx : Lib.indexByte r.data.toList 10 = -1
    · rw [Rw.raws_miss hidx (by omega)] at hpre
      have hm : ¬ (0 : Int) ≤ -1 := by decide
      obtain ⟨U, hU⟩ : ∃ U, wr.setCell ⟨b, 0, none⟩ (.string ⟨#[]⟩) = U := ⟨_, rfl⟩
      have hJU : J pre U := by rw [← hU]; exact hJ _ _ _ _ hJp (grownBy_setCell' wr b (.string ⟨#[]⟩)) (fun q e => by cases e; rfl)
      have bU : Boxed U b 9 (.string ⟨#[]⟩) := by rw [← hU]; exact b0.set _
      obtain ⟨fn, tmps, assign, body, hy, hR⟩ := hY pre r U hJU (by rw [hpre]; simp) (by rw [hpre]; exact List.prefix_refl _)
      have HU := Lib.hid hU
      have HP := Lib.hid hpre
      have HI := Lib.hid hidx
      clear hpre hU hidx
      gi_wp2_with (first | (refine ⟨trivial, ?_⟩; gi_at_call 136; refine (callsIn_wide.2 (Rw.idx10 _ _)).mono ?_; rintro e w1 ⟨rfl, rfl⟩; rw [HI.out]) | fail)
      rw [HU.out]
      rw [hy]
      gi_wp2
      refine hR.mono ?_
      rintro e W3 (⟨rfl, hJ3, hk3⟩ | ⟨rfl, hJx3⟩)
      · have k0 := Q.kept hk3 bU (by simp)
        gi_wp2
        go_roundw
        case rel => exact ⟨pre ++ [r], ⟨#[]⟩, by rw [HP.out, Rw.raws_none rfl, List.append_nil], k0, hJ3, Nat.zero_le _⟩
        case measure => rw [Q.left_eq k0, Q.left_eq b0]; show (0 : Nat) < r.size; omega
      · gi_wp2
        refine bodyPost_ret (results_none rfl _ _ _) rfl ?_
        exact ⟨⟨_, rfl⟩, .inr ⟨pre ++ [r], by rw [HP.out]; exact List.prefix_refl _, hJx3⟩⟩
    · have hge := Lib.indexByte_ge r.data.toList 10
      obtain ⟨i, hi⟩ : ∃ i : Nat, Lib.indexByte r.data.toList 10 = i := ⟨(Lib.indexByte r.data.toList 10).toNat, by omega⟩
      have hir := Rw.idx_lt hi
      rw [Rw.raws_hit hi] at hpre
      obtain ⟨x, hx⟩ : ∃ x, r.extract 0 (i + 1) = x := ⟨_, rfl⟩
      obtain ⟨z, hz'⟩ : ∃ z, r.extract (i + 1) r.size = z := ⟨_, rfl⟩
      rw [hx, hz'] at hpre
      have hzs : z.size = r.size - (i + 1) := by rw [← hz', ByteArray.size_extract]; omega
      have i0 : ¬ (i : Int) < 0 := by omega
      have i1 : (0 : Int) ≤ (i : Int) := by omega
      have i2 : (i : Int) ≤ r.size := by omega
      have i3 : (0 : Int) ≤ (i : Int) + 1 := by omega
      have i4 : (i : Int) + 1 ≤ r.size := by omega
      obtain ⟨U, hU⟩ : ∃ U, (wr.setCell ⟨b, 0, none⟩ (.string z)).drew = U := ⟨_, rfl⟩
      have hgU : wr.grownBy U (some b) := by rw [← hU]; exact Rw.grown_drew (grownBy_setCell' wr b (.string z))
      have hJU : J pre U := hJ _ _ _ _ hJp hgU (fun q e => by cases e; rfl)
      have bU : Boxed U b 9 (.string z) := by rw [← hU]; exact b0.set _
      obtain ⟨fn, tmps, assign, body, hy, hR⟩ := hY pre x U hJU (by rw [hpre]; simp) ⟨_, by rw [hpre, List.append_assoc]; rfl⟩
      have HU := Lib.hid hU
      have HY := Lib.hid hy
      clear hU hgU hy
      have HI := Lib.hid hi
      have HP := Lib.hid hpre
      clear hi hidx hpre hge
      gi_wp2_with (first | (refine ⟨trivial, ?_⟩; gi_at_call 136; refine (callsIn_wide.2 (Rw.idx10 _ _)).mono ?_; rintro e w1 ⟨rfl, rfl⟩; rw [HI.out]) | fail)
      gi_region
      gi_wp2
      rw [HU.out, HY.out]
      gi_wp2
      refine hR.mono ?_
      rintro e W3 (⟨rfl, hJ3, hk3⟩ | ⟨rfl, hJx3⟩)
      · have k0 := Q.kept hk3 bU (by simp)
        gi_wp2
        go_roundw
        case rel => exact ⟨pre ++ [x], z, by rw [HP.out]; simp, k0, hJ3, by omega⟩
        case measure => rw [Q.left_eq k0, Q.left_eq b0]; omega
      · gi_wp2
        refine bodyPost_ret (results_none rfl _ _ _) rfl ?_
        exact ⟨⟨_, rfl⟩, .inr ⟨pre ++ [x], ⟨_, by rw [HP.out, List.append_assoc]; rfl⟩, hJx3⟩⟩

theorem Rw.lines0_any (s : ByteArray) (w : World) :
    Calls Tryz.prog 117 #[.string s] w fun e w' => e = .returned (.func (.func 135) #[] #[.pointer (some ⟨w.heap.size, 0, none⟩)]) ∧ w' = w.alloc (.cells #[.string s] 9) := by
  go_enter Tryz.func117, Tryz.ntmps117
  go_wp2
  go_ret
  exact ⟨rfl, rfl⟩
end Go.Proofs.YtkmfegamblmpeaaGreatDoor

/- The layer field: Lines, by walking its text: a range over strings.Lines. -/
namespace Go.Proofs.YtkmfegamblmpeaaGreatDoor
open Go.RowKit
attribute [local go_sem] Oper.semAt_some
set_option linter.unusedSimpArgs false
set_option linter.unusedVariables false

theorem Rw.infoStr : (Tryz.prog.info? 9).map (fun i => (i.zero, i.size, i.bytes)) = some (some (.string ByteArray.empty), 1, 16) := by kernel_rfl
set_option maxHeartbeats 4000000 in
/-- plain, of a line that is so. -/
theorem Rw.plain_any (s : ByteArray) (hs : s.size ≤ 1000000000) (hp : Rw.plainL s.data.toList = true) (w : World) :
    Calls Tryz.prog 119 #[.string s] w fun e w' => e = .returned (.bool true) ∧ w' = w := by
  have hb : ∀ k (h : k < s.size), 32 ≤ s[k].toNat ∧ s[k].toNat ≤ 126 := by
    intro k h
    unfold Rw.plainL at hp
    rw [List.all_eq_true] at hp
    have := hp s[k] (by
      rw [show s[k] = s.data.toList[k]'(by simpa using h) from rfl]
      exact List.getElem_mem _)
    rw [Bool.and_eq_true, decide_eq_true_eq, decide_eq_true_eq] at this
    exact this
  go_enter Tryz.func119, Tryz.ntmps119
  go_wp2
  go_loop [6] (fun i => ∃ k : Nat, k ≤ s.size ∧ i = .int .i64 k) (fun i => s.size - (intOf i).toNat)
  case atStart => exact ⟨0, Nat.zero_le _, rfl⟩
  case round =>
    obtain ⟨k, hk, rfl⟩ := hrel
    by_cases hlt : k < s.size
    · obtain ⟨h1, h2⟩ := hb k hlt
      have h1' : ¬ ((s[k].toNat : Int) < 32) := by omega
      have h2' : ¬ ((126 : Int) < (s[k].toNat : Int)) := by omega
      go_wp2
      exact ⟨⟨k + 1, by omega, by go_num⟩, by simp [intOf]; omega⟩
    · go_wp2
      go_ret
      exact ⟨rfl, rfl⟩

def Rw.cutN (x : ByteArray) : ByteArray := ⟨(Rw.trimN x.data.toList).toArray⟩
def Rw.strs (l : List ByteArray) : List Value := l.map fun x => Value.string (Rw.cutN x)
/-- What Lines answers of a text all of whose lines may be. -/
def Rw.RetLines (L : List (List UInt8)) (w : World) (e : Ending) (w' : World) : Prop :=
  ∃ A c, e = .returned (.tuple #[.slice A L.length c, .nilIface]) ∧ Sl w' w'.heap.size A (L.map fun x => Value.string ⟨x.toArray⟩) ∧ Below w.heap.size w w'
def Rw.RetL (L : List ByteArray) (w : World) (e : Ending) (w' : World) : Prop :=
  ∃ A c, e = .returned (.tuple #[.slice A L.length c, .nilIface]) ∧ Sl w' w'.heap.size A (Rw.strs L) ∧ Below w.heap.size w w'
theorem Rw.trim_eq (x : List UInt8) : Lib.trimSuffix x [10] = Rw.trimN x := by
  unfold Lib.trimSuffix Lib.hasSuffix Rw.trimN
  rcases List.eq_nil_or_concat x with rfl | ⟨m, b, rfl⟩
  · simp
  · rw [List.concat_eq_append]
    simp only [List.getLast?_append, List.getLast?_singleton, List.dropLast_concat, Option.or_some, Option.some.injEq, List.isSuffixOf_iff_suffix, List.length_append, List.length_singleton, Nat.add_sub_cancel, List.take_left]
    by_cases hb : b = 10
    · subst hb
      simp
    · have h : ¬ ([10] <:+ m ++ [b]) := by
        rintro ⟨t, ht⟩
        have := congrArg List.getLast? ht
        simp at this
        exact hb this.symm
      simp [hb, h]
theorem Rw.trim_any (x : ByteArray) (hx : x.size ≤ 1000000000) (w : World) : Calls Tryz.prog 118 #[.string x, .string ⟨#[10]⟩] w fun e w' => e = .returned (.string (Rw.cutN x)) ∧ w' = w := by
  have h := Tryz.strings_TrimSuffix x ⟨#[10]⟩ w (by omega)
  rw [show (⟨#[10]⟩ : ByteArray).data.toList = [10] from rfl, Rw.trim_eq] at h
  exact h
theorem Rw.raw_sum : ∀ (l w : List UInt8), ∀ x ∈ Rw.raw w l, x.length ≤ w.length + l.length
  | [], w, x, h => by
    unfold Rw.raw at h
    split at h
    · cases h
    · rw [List.mem_singleton] at h; subst h; simp
  | b :: r, w, x, h => by
    unfold Rw.raw at h
    split at h
    · rcases List.mem_cons.1 h with rfl | h
      · simp
      · have := Rw.raw_sum r [] x h; simp at this ⊢; omega
    · have := Rw.raw_sum r _ x h; simp at this ⊢; omega
theorem Rw.raws_size (s : ByteArray) (x : ByteArray) (h : x ∈ Rw.raws s) : x.size ≤ s.size := by
  unfold Rw.raws at h
  obtain ⟨y, hy, rfl⟩ := List.mem_map.1 h
  have := Rw.raw_sum s.data.toList [] y hy
  have e : s.data.toList.length = s.size := by simp
  show y.toArray.size ≤ s.size
  simp at this ⊢
  exact this
theorem Rw.raws_len (s : ByteArray) : (Rw.raws s).length ≤ s.size + 1 := by
  have h1 := congrArg List.length (Rw.raw_trim s.data.toList [] (by simp))
  have h2 := Rw.lns_len s.data.toList []
  have e : s.data.toList.length = s.size := by simp
  unfold Rw.raws
  rw [List.length_map] at h1 ⊢
  omega

set_option maxRecDepth 100000 in
set_option maxHeartbeats 4000000 in
theorem Rw.linesL_any (s : ByteArray) (hs : s.size ≤ 1000000) (hokx : ∀ x ∈ Rw.raws s, (Rw.cutN x).size ≤ 1000 ∧ Rw.plainL (Rw.cutN x).data.toList = true) (w : World) :
    Calls Tryz.prog 90 #[.string s] w (Rw.RetL (Rw.raws s) w) := by
  obtain ⟨i0, hi, hz0, hz1, hz2⟩ := info_parts Rw.infoStr
  have hsz0 := Rw.raws_size s
  have hlen0 := Rw.raws_len s
  refine (callsIn_wide (n := 5)).1 ?_
  refine callsIn_of_wp_marks Tryz.func90 rfl trivial ?_ rfl
  simp only [Tryz.ntmps90, List.size_toArray, List.length_cons, List.length_nil, Nat.reduceAdd, Nat.reduceSub, Array.replicate_succ, Array.replicate_zero, List.push_toArray, List.append_toArray, List.nil_append, List.cons_append]
  gi_wp2_with (refine ⟨trivial, ?_⟩; gi_at_call 117; refine (callsIn_wide.2 (Rw.lines0_any s _)).mono ?_; rintro e w1 ⟨rfl, hw1⟩; have HW := Lib.hid hw1; clear hw1)
  have hw1 := HW.out
  have hsz : w1.heap.size = w.heap.size + 4 := by rw [hw1]; simp
  have q2 : Boxed w1 w.heap.size 53 (.slice none 0 0) := by
    rw [hw1]
    exact (((Boxed.new w 53 (.slice none 0 0)).alloc _).alloc _).alloc _
  have q3 : Boxed w1 (w.heap.size + 1) 45 (.nilIface) := by
    have h := Boxed.new (w.alloc (.cells #[.slice none 0 0] 53)) 45 (.nilIface)
    rw [World.size_alloc] at h
    rw [hw1]
    exact (h.alloc _).alloc _
  have q4 : Boxed w1 (w.heap.size + 1 + 1) 53 (.slice none 0 0) := by
    have h := Boxed.new ((w.alloc (.cells #[.slice none 0 0] 53)).alloc (.cells #[.nilIface] 45)) 53 (.slice none 0 0)
    rw [World.size_alloc, World.size_alloc] at h
    rw [hw1]
    exact h.alloc _
  have q5 : Boxed w1 (w.heap.size + 1 + 1 + 1) 9 (.string s) := by
    have h := Boxed.new (((w.alloc (.cells #[.slice none 0 0] 53)).alloc (.cells #[.nilIface] 45)).alloc (.cells #[.slice none 0 0] 53)) 9 (.string s)
    rw [World.size_alloc, World.size_alloc, World.size_alloc] at h
    rw [hw1]
    exact h
  have hB0 : Below w.heap.size w w1 := by
    rw [hw1]
    exact ((((Below.refl _ w).alloc (by simp) _).alloc (by simp) _).alloc (by simp; omega) _).alloc (by simp; omega) _
  clear hw1 HW
  obtain ⟨L, hL⟩ : ∃ L, Rw.raws s = L := ⟨_, rfl⟩
  obtain ⟨D, hD⟩ : ∃ D, w1.heap.size = D := ⟨_, rfl⟩
  have hseq := fun (W : World) (hW : Below w1.heap.size w1 W) => Rw.linesSeq1 s (by omega) (5 - 1) (w.heap.size + 1 + 1 + 1) (by omega) W ((hW.block _ (by omega)).trans q5)
  rw [hL] at hseq hsz0 hlen0 hokx ⊢
  refine R.range (n := 5) (by omega) (gf := 135) (lb := #[.pointer (some ⟨w.heap.size + 1 + 1 + 1, 0, none⟩)]) rfl (enters_of Tryz.func135 (by kernel_rfl) rfl)
    (b := w.heap.size + 1 + 1 + 1) (by omega) (ks := [w.heap.size + 1 + 1 + 1]) (by simp; omega) hseq (fun _ => rfl)
    (fun pre W => (∃ v, Boxed W (w.heap.size + 1 + 1) 53 v ∧ W.ownsRow D 9 1 v pre.length (Rw.strs pre)) ∧ Boxed W w.heap.size 53 (.slice none 0 0) ∧ Boxed W (w.heap.size + 1) 45 (.nilIface) ∧ Below w.heap.size w W ∧ D ≤ W.heap.size)
    (fun c pre W => False)
    (by
      rintro pre X Y row ⟨⟨v, a2, a3⟩, a4, a5, a6, a7⟩ hg hr
      exact ⟨⟨v, R.box_kept a2 hg hr (by omega), R.own_kept a3 hg hr (by omega)⟩, R.box_kept a4 hg hr (by omega), R.box_kept a5 hg hr (by omega), R.below_kept a6 a6.size hg hr (by omega) (by omega), Nat.le_trans a7 hg.size⟩)
    (fun c pre X Y row h _ _ => h)
    ⟨⟨_, q4, World.ownsRow_nil _ _ _ _⟩, q2, q3, hB0, by omega⟩
    (fun x => { tmps := #[.string s, undef, .pointer (some ⟨w.heap.size, 0, none⟩), .pointer (some ⟨w.heap.size + 1, 0, none⟩), .pointer (some ⟨w.heap.size + 1 + 1, 0, none⟩), .string x, undef, .string s,
      .func (.func 135) #[] #[.pointer (some ⟨w.heap.size + 1 + 1 + 1, 0, none⟩)], .string x, undef, undef, undef, undef, undef, undef, undef, undef, undef, undef, undef, undef, undef, undef, undef, undef, undef, undef, undef, undef, undef, undef], defers := [] }) ?assign ?body ?done ?stop
  case assign =>
    intro l x W K hK
    gi_wp2
    exact hK
  case body =>
    rintro l pre x W ⟨⟨v, hv, hrow⟩, h2, h3, hB, hDW⟩ hlen hsp
    rw [hD]
    have hxm : x ∈ L := by
      obtain ⟨t, rfl⟩ := hsp
      simp
    obtain ⟨hx1, hx2⟩ := hokx x hxm
    have hx3 := hsz0 x hxm
    have hT := Rw.trim_any x (by omega)
    obtain ⟨y, hy⟩ : ∃ y, Rw.cutN x = y := ⟨_, rfl⟩
    rw [hy] at hx1 hx2
    simp only [hy] at hT
    have hP := Rw.plain_any y (by omega) hx2
    have hc := hv.cell
    have hy1 : ¬ (1000 : Int) < (y.size : Int) := by omega
    have HY := Lib.hid hy
    clear hy hx2
    gi_wp2_with first
      | (refine ⟨trivial, ?_⟩; gi_at_call 118; refine (CallsIn.inRound l (callsIn_wide.2 (hT _))).mono ?_; rintro e w2 ⟨rfl, hww⟩; subst w2)
      | (refine ⟨trivial, ?_⟩; gi_at_call 119; refine (CallsIn.inRound l (callsIn_wide.2 (hP _))).mono ?_; rintro e w2 ⟨rfl, hww⟩; subst w2)
      | (gi_at_builtin; refine wpListIn_append_own _ rfl _ _ 53 rfl D 9 i0 (.string ByteArray.empty) 1 16 Tryz.underlying53 hi hz0 hz1 hz2 rfl (by decide) _ _ _ rfl (hrow.alloc _) ⟨W.heap.size, 0, none⟩ 1 1 [.string y] rfl rfl (cell_one_new _ _ _) (by simp [Value.oneCell']) (by simp only [maxLen]; omega) (by omega) (by simp; omega) ?_; intro v' w3 hown' hgrow _; obtain ⟨g', cap', rfl⟩ := ownsRow_succ hown'; obtain ⟨g1, g2, g3, g4, g5, g6, g7⟩ := R.appended (n₀ := w.heap.size) (ks := [w.heap.size + 1 + 1 + 1]) hv (by decide) hrow hDW (by omega) (by omega) (by simp; omega) hown' hgrow; have hc1 := g1.cell; have hf1 := g1.frozen)
      | fail
    exact ⟨g4, g5, ⟨_, g2, by rw [List.length_append, show Rw.strs (pre ++ [x]) = Rw.strs pre ++ [Value.string y] by simp [Rw.strs, HY.out]]; exact g3⟩, g7 _ _ _ (by omega) (by omega) h2, g7 _ _ _ (by omega) (by omega) h3, hB.trans g6, Nat.le_trans hDW g4.size⟩
  case done =>
    rintro E ys W hE rfl ⟨⟨v, hv, hrow⟩, h2, h3, hB, hDW⟩ hK
    have hc := hv.cell
    have c2 := h2.cell
    have f2 := h2.frozen
    have c3 := h3.cell
    have f3 := h3.frozen
    obtain ⟨A, cp, rfl⟩ := own_form hrow
    gi_wp2
    have r1 := hrow.kept (grownBy_setCell' W w.heap.size (.slice A ys.length cp)) (.inr (h2.not_row (by decide) hrow).symm)
    have h3' := h3.other (show w.heap.size + 1 ≠ w.heap.size by omega) (.slice A ys.length cp)
    have r2 := r1.kept (grownBy_setCell' _ (w.heap.size + 1) (.nilIface)) (.inr (h3'.not_row (by decide) r1).symm)
    have b2 := (h2.set (.slice A ys.length cp)).other (show w.heap.size ≠ w.heap.size + 1 by omega) (.nilIface)
    have b3 := h3'.set (.nilIface)
    have hK' : ((W.setCell ⟨w.heap.size, 0, none⟩ (.slice A ys.length cp)).setCell ⟨w.heap.size + 1, 0, none⟩ (.nilIface)).heap[E]? = some (.deferred (some [])) :=
      (Below.heap_setCell _ _ _ E (by show E ≠ w.heap.size + 1; omega)).trans ((Below.heap_setCell _ _ _ E (by show E ≠ w.heap.size; omega)).trans hK)
    have k1 := (hB.setCell (p := ⟨w.heap.size, 0, none⟩) (Nat.le_refl _) (.slice A ys.length cp)).setCell (p := ⟨w.heap.size + 1, 0, none⟩) (by show w.heap.size ≤ w.heap.size + 1; omega) (.nilIface)
    obtain ⟨X, hX⟩ : ∃ X, (W.setCell ⟨w.heap.size, 0, none⟩ (.slice A ys.length cp)).setCell ⟨w.heap.size + 1, 0, none⟩ (.nilIface) = X := ⟨_, rfl⟩
    rw [hX] at r2 b2 b3 hK' k1 ⊢
    have e2 := cell_kept b2.cell (grownBy_putObj' X E (.deferred none)) (fun r e => by cases e; exact ⟨_, hK', rfl⟩)
    have e3 := cell_kept b3.cell (grownBy_putObj' X E (.deferred none)) (fun r e => by cases e; exact ⟨_, hK', rfl⟩)
    refine ⟨by simp, .inl ⟨_, _, rfl, run_takeDeferred hK', ?_⟩⟩
    refine ⟨.tuple #[.slice A ys.length cp, .nilIface], ?_, ?_⟩
    · simp [results, Tryz.f90, go_sem, e2, e3]
    · rw [hL]
      exact ⟨A, cp, rfl, Sl.of_own (ownsRow_putObj r2 _ hK' rfl), k1.trans (belowK_b (w := w) (Nat.le_refl _) X E _ _ (by omega) hK' rfl rfl)⟩
  case stop =>
    rintro E c pre W hE hpre h hK
    exact h.elim

theorem Rw.lines_any (s : ByteArray) (hs : s.size ≤ 1000000) (hok : (Rw.lns [] s.data.toList).all Rw.okl = true) (w : World) :
    Calls Tryz.prog 90 #[.string s] w (Rw.RetLines (Rw.lns [] s.data.toList) w) := by
  have htr := Rw.raw_trim s.data.toList [] (by simp)
  have hokx : ∀ x ∈ Rw.raws s, (Rw.cutN x).size ≤ 1000 ∧ Rw.plainL (Rw.cutN x).data.toList = true := by
    intro x hx
    unfold Rw.raws at hx
    obtain ⟨y, hy, rfl⟩ := List.mem_map.1 hx
    have hm : Rw.trimN y ∈ Rw.lns [] s.data.toList := by rw [← htr]; exact List.mem_map_of_mem hy
    rw [List.all_eq_true] at hok
    have := hok _ hm
    unfold Rw.okl at this
    rw [Bool.and_eq_true, decide_eq_true_eq] at this
    exact ⟨by show (Rw.trimN y).toArray.size ≤ 1000; simpa using this.1, this.2⟩
  have hres : (Rw.lns [] s.data.toList).map (fun x => Value.string ⟨x.toArray⟩) = Rw.strs (Rw.raws s) ∧ (Rw.lns [] s.data.toList).length = (Rw.raws s).length := by
    rw [← htr]
    unfold Rw.strs Rw.raws
    rw [List.map_map, List.map_map]
    exact ⟨rfl, by simp⟩
  refine (Rw.linesL_any s hs hokx w).mono ?_
  rintro e w' ⟨A, c, rfl, h1, h2⟩
  exact ⟨A, c, by rw [hres.2], by rw [hres.1]; exact h1, h2⟩
end Go.Proofs.YtkmfegamblmpeaaGreatDoor
