/- The layer field: Lines, by walking its text: a range over strings.Lines. -/
import Derived.Test.YtppmcnpjglackaaGreatDoorRwSeq
import Derived.Maps.AppendAt
namespace Go.Proofs.YtppmcnpjglackaaGreatDoor
open Go.RowKit
attribute [local go_sem] Oper.semAt_some
set_option linter.unusedSimpArgs false
set_option linter.unusedVariables false

theorem Rw.infoStr : (Tryz.prog.info? 9).map (fun i => (i.zero, i.size, i.bytes)) = some (some (.string ByteArray.empty), 1, 16) := by kernel_rfl
theorem Rw.take_snoc (s : ByteArray) (i : Nat) (h : i < s.size) : s.data.toList.take (i + 1) = s.data.toList.take i ++ [s[i]] := by
  rw [List.take_succ_eq_append_getElem (by simpa using h)]; rfl
theorem Rw.plain_snoc (l : List UInt8) (b : UInt8) : Rw.plainL (l ++ [b]) = (Rw.plainL l && (decide (32 ≤ b.toNat) && decide (b.toNat ≤ 126))) := by simp [Rw.plainL, List.all_append]

set_option maxHeartbeats 4000000 in
/-- plain, of a line that is so. -/
theorem Rw.plain_any (s : ByteArray) (hs : s.size ≤ 1000000000) (hp : Rw.plainL s.data.toList = true) (w : World) :
    Calls Tryz.prog 48 #[.string s] w fun e w' => e = .returned (.bool true) ∧ w' = w := by
  have hb : ∀ k (h : k < s.size), 32 ≤ s[k].toNat ∧ s[k].toNat ≤ 126 := by
    intro k h
    unfold Rw.plainL at hp
    rw [List.all_eq_true] at hp
    have := hp s[k] (by
      rw [show s[k] = s.data.toList[k]'(by simpa using h) from rfl]
      exact List.getElem_mem _)
    rw [Bool.and_eq_true, decide_eq_true_eq, decide_eq_true_eq] at this
    exact this
  go_enter Tryz.func48, Tryz.ntmps48
  go_wp2
  go_loop [6] (fun i => ∃ k : Nat, k ≤ s.size ∧ i = .int .i64 k) (fun i => s.size - (intOf i).toNat)
  case atStart => exact ⟨0, Nat.zero_le _, rfl⟩
  case round =>
    obtain ⟨k, hk, rfl⟩ := hrel
    by_cases hlt : k < s.size
    · obtain ⟨h1, h2⟩ := hb k hlt
      have h1' : ¬ ((s[k].toNat : Int) < 32) := by omega
      have h2' : ¬ ((126 : Int) < (s[k].toNat : Int)) := by omega
      go_wp2
      exact ⟨⟨k + 1, by omega, by go_num⟩, by simp [intOf]; omega⟩
    · go_wp2
      go_ret
      exact ⟨rfl, rfl⟩

def Rw.cutN (x : ByteArray) : ByteArray := ⟨(Rw.trimN x.data.toList).toArray⟩
def Rw.strs (l : List ByteArray) : List Value := l.map fun x => Value.string (Rw.cutN x)
/-- What Lines answers of a text all of whose lines may be. -/
def Rw.RetLines (L : List (List UInt8)) (w : World) (e : Ending) (w' : World) : Prop :=
  ∃ A c, e = .returned (.tuple #[.slice A L.length c, .nilIface]) ∧ Sl w' w'.heap.size A (L.map fun x => Value.string ⟨x.toArray⟩) ∧ Below w.heap.size w w'
def Rw.RetL (L : List ByteArray) (w : World) (e : Ending) (w' : World) : Prop :=
  ∃ A c, e = .returned (.tuple #[.slice A L.length c, .nilIface]) ∧ Sl w' w'.heap.size A (Rw.strs L) ∧ Below w.heap.size w w'
theorem Rw.trim_eq (x : List UInt8) : Lib.trimSuffix x [10] = Rw.trimN x := by
  unfold Lib.trimSuffix Lib.hasSuffix Rw.trimN
  rcases List.eq_nil_or_concat x with rfl | ⟨m, b, rfl⟩
  · simp
  · rw [List.concat_eq_append]
    simp only [List.getLast?_append, List.getLast?_singleton, List.dropLast_concat, Option.or_some, Option.some.injEq, List.isSuffixOf_iff_suffix, List.length_append, List.length_singleton, Nat.add_sub_cancel, List.take_left]
    by_cases hb : b = 10
    · subst hb
      simp
    · have h : ¬ ([10] <:+ m ++ [b]) := by
        rintro ⟨t, ht⟩
        have := congrArg List.getLast? ht
        simp at this
        exact hb this.symm
      simp [hb, h]
theorem Rw.trim_any (x : ByteArray) (hx : x.size ≤ 1000000000) (w : World) : Calls Tryz.prog 47 #[.string x, .string ⟨#[10]⟩] w fun e w' => e = .returned (.string (Rw.cutN x)) ∧ w' = w := by
  have h := Tryz.strings_TrimSuffix x ⟨#[10]⟩ w (by omega)
  rw [show (⟨#[10]⟩ : ByteArray).data.toList = [10] from rfl, Rw.trim_eq] at h
  exact h
theorem Rw.raw_sum : ∀ (l w : List UInt8), ∀ x ∈ Rw.raw w l, x.length ≤ w.length + l.length
  | [], w, x, h => by
    unfold Rw.raw at h
    split at h
    · cases h
    · rw [List.mem_singleton] at h; subst h; simp
  | b :: r, w, x, h => by
    unfold Rw.raw at h
    split at h
    · rcases List.mem_cons.1 h with rfl | h
      · simp
      · have := Rw.raw_sum r [] x h; simp at this ⊢; omega
    · have := Rw.raw_sum r _ x h; simp at this ⊢; omega
theorem Rw.raws_size (s : ByteArray) (x : ByteArray) (h : x ∈ Rw.raws s) : x.size ≤ s.size := by
  unfold Rw.raws at h
  obtain ⟨y, hy, rfl⟩ := List.mem_map.1 h
  have := Rw.raw_sum s.data.toList [] y hy
  have e : s.data.toList.length = s.size := by simp
  show y.toArray.size ≤ s.size
  simp at this ⊢
  exact this
theorem Rw.raws_len (s : ByteArray) : (Rw.raws s).length ≤ s.size + 1 := by
  have h1 := congrArg List.length (Rw.raw_trim s.data.toList [] (by simp))
  have h2 := Rw.lns_len s.data.toList []
  have e : s.data.toList.length = s.size := by simp
  unfold Rw.raws
  rw [List.length_map] at h1 ⊢
  omega

set_option maxRecDepth 100000 in
set_option maxHeartbeats 4000000 in
theorem Rw.linesL_any (s : ByteArray) (hs : s.size ≤ 1000000) (hokx : ∀ x ∈ Rw.raws s, (Rw.cutN x).size ≤ 1000 ∧ Rw.plainL (Rw.cutN x).data.toList = true) (w : World) :
    Calls Tryz.prog 25 #[.string s] w (Rw.RetL (Rw.raws s) w) := by
  obtain ⟨i0, hi, hz0, hz1, hz2⟩ := info_parts Rw.infoStr
  have hsz0 := Rw.raws_size s
  have hlen0 := Rw.raws_len s
  refine (callsIn_wide (n := 5)).1 ?_
  refine callsIn_of_wp_marks Tryz.func25 rfl trivial ?_ rfl
  simp only [Tryz.ntmps25, List.size_toArray, List.length_cons, List.length_nil, Nat.reduceAdd, Nat.reduceSub, Array.replicate_succ, Array.replicate_zero, List.push_toArray, List.append_toArray, List.nil_append, List.cons_append]
  gi_wp2_with (refine ⟨trivial, ?_⟩; gi_at_call 46; refine (callsIn_wide.2 (Rw.lines0_any s _)).mono ?_; rintro e w1 ⟨rfl, hw1⟩; have HW := Lib.hid hw1; clear hw1)
  have hw1 := HW.out
  have hsz : w1.heap.size = w.heap.size + 4 := by rw [hw1]; simp
  have q2 : Boxed w1 w.heap.size 53 (.slice none 0 0) := by
    rw [hw1]
    exact (((Boxed.new w 53 (.slice none 0 0)).alloc _).alloc _).alloc _
  have q3 : Boxed w1 (w.heap.size + 1) 36 (.nilIface) := by
    have h := Boxed.new (w.alloc (.cells #[.slice none 0 0] 53)) 36 (.nilIface)
    rw [World.size_alloc] at h
    rw [hw1]
    exact (h.alloc _).alloc _
  have q4 : Boxed w1 (w.heap.size + 1 + 1) 53 (.slice none 0 0) := by
    have h := Boxed.new ((w.alloc (.cells #[.slice none 0 0] 53)).alloc (.cells #[.nilIface] 36)) 53 (.slice none 0 0)
    rw [World.size_alloc, World.size_alloc] at h
    rw [hw1]
    exact h.alloc _
  have q5 : Boxed w1 (w.heap.size + 1 + 1 + 1) 9 (.string s) := by
    have h := Boxed.new (((w.alloc (.cells #[.slice none 0 0] 53)).alloc (.cells #[.nilIface] 36)).alloc (.cells #[.slice none 0 0] 53)) 9 (.string s)
    rw [World.size_alloc, World.size_alloc, World.size_alloc] at h
    rw [hw1]
    exact h
  have hB0 : Below w.heap.size w w1 := by
    rw [hw1]
    exact ((((Below.refl _ w).alloc (by simp) _).alloc (by simp) _).alloc (by simp; omega) _).alloc (by simp; omega) _
  clear hw1 HW
  obtain ⟨L, hL⟩ : ∃ L, Rw.raws s = L := ⟨_, rfl⟩
  obtain ⟨D, hD⟩ : ∃ D, w1.heap.size = D := ⟨_, rfl⟩
  have hseq := fun (W : World) (hW : Below w1.heap.size w1 W) => Rw.linesSeq1 s (by omega) (5 - 1) (w.heap.size + 1 + 1 + 1) (by omega) W ((hW.block _ (by omega)).trans q5)
  rw [hL] at hseq hsz0 hlen0 hokx ⊢
  refine R.range (n := 5) (by omega) (gf := 69) (lb := #[.pointer (some ⟨w.heap.size + 1 + 1 + 1, 0, none⟩)]) rfl (enters_of Tryz.func69 (by kernel_rfl) rfl)
    (b := w.heap.size + 1 + 1 + 1) (by omega) (ks := [w.heap.size + 1 + 1 + 1]) (by simp; omega) hseq (fun _ => rfl)
    (fun pre W => (∃ v, Boxed W (w.heap.size + 1 + 1) 53 v ∧ W.ownsRow D 9 1 v pre.length (Rw.strs pre)) ∧ Boxed W w.heap.size 53 (.slice none 0 0) ∧ Boxed W (w.heap.size + 1) 36 (.nilIface) ∧ Below w.heap.size w W ∧ D ≤ W.heap.size)
    (fun c pre W => False)
    (by
      rintro pre X Y row ⟨⟨v, a2, a3⟩, a4, a5, a6, a7⟩ hg hr
      exact ⟨⟨v, R.box_kept a2 hg hr (by omega), R.own_kept a3 hg hr (by omega)⟩, R.box_kept a4 hg hr (by omega), R.box_kept a5 hg hr (by omega), R.below_kept a6 a6.size hg hr (by omega) (by omega), Nat.le_trans a7 hg.size⟩)
    (fun c pre X Y row h _ _ => h)
    ⟨⟨_, q4, World.ownsRow_nil _ _ _ _⟩, q2, q3, hB0, by omega⟩
    (fun x => { tmps := #[.string s, undef, .pointer (some ⟨w.heap.size, 0, none⟩), .pointer (some ⟨w.heap.size + 1, 0, none⟩), .pointer (some ⟨w.heap.size + 1 + 1, 0, none⟩), .string x, undef, .string s,
      .func (.func 69) #[] #[.pointer (some ⟨w.heap.size + 1 + 1 + 1, 0, none⟩)], .string x, undef, undef, undef, undef, undef, undef, undef, undef, undef, undef, undef, undef, undef, undef, undef, undef, undef, undef, undef, undef, undef, undef], defers := [] }) ?assign ?body ?done ?stop
  case assign =>
    intro l x W K hK
    gi_wp2
    exact hK
  case body =>
    rintro l pre x W ⟨⟨v, hv, hrow⟩, h2, h3, hB, hDW⟩ hlen hsp
    rw [hD]
    have hxm : x ∈ L := by
      obtain ⟨t, rfl⟩ := hsp
      simp
    obtain ⟨hx1, hx2⟩ := hokx x hxm
    have hx3 := hsz0 x hxm
    have hT := Rw.trim_any x (by omega)
    obtain ⟨y, hy⟩ : ∃ y, Rw.cutN x = y := ⟨_, rfl⟩
    rw [hy] at hx1 hx2
    simp only [hy] at hT
    have hP := Rw.plain_any y (by omega) hx2
    have hc := hv.cell
    have hy1 : ¬ (1000 : Int) < (y.size : Int) := by omega
    have HY := Lib.hid hy
    clear hy hx2
    gi_wp2_with first
      | (refine ⟨trivial, ?_⟩; gi_at_call 47; refine (CallsIn.inRound l (callsIn_wide.2 (hT _))).mono ?_; rintro e w2 ⟨rfl, hww⟩; subst w2)
      | (refine ⟨trivial, ?_⟩; gi_at_call 48; refine (CallsIn.inRound l (callsIn_wide.2 (hP _))).mono ?_; rintro e w2 ⟨rfl, hww⟩; subst w2)
      | (gi_at_builtin; refine wpListIn_append_own _ rfl _ _ 53 rfl D 9 i0 (.string ByteArray.empty) 1 16 Tryz.underlying53 hi hz0 hz1 hz2 rfl (by decide) _ _ _ rfl (hrow.alloc _) ⟨W.heap.size, 0, none⟩ 1 1 [.string y] rfl rfl (cell_one_new _ _ _) (by simp [Value.oneCell']) (by simp only [maxLen]; omega) (by omega) (by simp; omega) ?_; intro v' w3 hown' hgrow _; obtain ⟨g', cap', rfl⟩ := ownsRow_succ hown'; obtain ⟨g1, g2, g3, g4, g5, g6, g7⟩ := R.appended (n₀ := w.heap.size) (ks := [w.heap.size + 1 + 1 + 1]) hv (by decide) hrow hDW (by omega) (by omega) (by simp; omega) hown' hgrow; have hc1 := g1.cell; have hf1 := g1.frozen)
      | fail
    exact ⟨g4, g5, ⟨_, g2, by rw [List.length_append, show Rw.strs (pre ++ [x]) = Rw.strs pre ++ [Value.string y] by simp [Rw.strs, HY.out]]; exact g3⟩, g7 _ _ _ (by omega) (by omega) h2, g7 _ _ _ (by omega) (by omega) h3, hB.trans g6, Nat.le_trans hDW g4.size⟩
  case done =>
    rintro E ys W hE rfl ⟨⟨v, hv, hrow⟩, h2, h3, hB, hDW⟩ hK
    have hc := hv.cell
    have c2 := h2.cell
    have f2 := h2.frozen
    have c3 := h3.cell
    have f3 := h3.frozen
    obtain ⟨A, cp, rfl⟩ := own_form hrow
    gi_wp2
    have r1 := hrow.kept (grownBy_setCell' W w.heap.size (.slice A ys.length cp)) (.inr (h2.not_row (by decide) hrow).symm)
    have h3' := h3.other (show w.heap.size + 1 ≠ w.heap.size by omega) (.slice A ys.length cp)
    have r2 := r1.kept (grownBy_setCell' _ (w.heap.size + 1) (.nilIface)) (.inr (h3'.not_row (by decide) r1).symm)
    have b2 := (h2.set (.slice A ys.length cp)).other (show w.heap.size ≠ w.heap.size + 1 by omega) (.nilIface)
    have b3 := h3'.set (.nilIface)
    have hK' : ((W.setCell ⟨w.heap.size, 0, none⟩ (.slice A ys.length cp)).setCell ⟨w.heap.size + 1, 0, none⟩ (.nilIface)).heap[E]? = some (.deferred (some [])) :=
      (Below.heap_setCell _ _ _ E (by show E ≠ w.heap.size + 1; omega)).trans ((Below.heap_setCell _ _ _ E (by show E ≠ w.heap.size; omega)).trans hK)
    have k1 := (hB.setCell (p := ⟨w.heap.size, 0, none⟩) (Nat.le_refl _) (.slice A ys.length cp)).setCell (p := ⟨w.heap.size + 1, 0, none⟩) (by show w.heap.size ≤ w.heap.size + 1; omega) (.nilIface)
    obtain ⟨X, hX⟩ : ∃ X, (W.setCell ⟨w.heap.size, 0, none⟩ (.slice A ys.length cp)).setCell ⟨w.heap.size + 1, 0, none⟩ (.nilIface) = X := ⟨_, rfl⟩
    rw [hX] at r2 b2 b3 hK' k1 ⊢
    have e2 := cell_kept b2.cell (grownBy_putObj' X E (.deferred none)) (fun r e => by cases e; exact ⟨_, hK', rfl⟩)
    have e3 := cell_kept b3.cell (grownBy_putObj' X E (.deferred none)) (fun r e => by cases e; exact ⟨_, hK', rfl⟩)
    refine ⟨by simp, .inl ⟨_, _, rfl, run_takeDeferred hK', ?_⟩⟩
    refine ⟨.tuple #[.slice A ys.length cp, .nilIface], ?_, ?_⟩
    · simp [results, Tryz.f25, go_sem, e2, e3]
    · rw [hL]
      exact ⟨A, cp, rfl, Sl.of_own (ownsRow_putObj r2 _ hK' rfl), k1.trans (belowK_b (w := w) (Nat.le_refl _) X E _ _ (by omega) hK' rfl rfl)⟩
  case stop =>
    rintro E c pre W hE hpre h hK
    exact h.elim

theorem Rw.lines_any (s : ByteArray) (hs : s.size ≤ 1000000) (hok : (Rw.lns [] s.data.toList).all Rw.okl = true) (w : World) :
    Calls Tryz.prog 25 #[.string s] w (Rw.RetLines (Rw.lns [] s.data.toList) w) := by
  have htr := Rw.raw_trim s.data.toList [] (by simp)
  have hokx : ∀ x ∈ Rw.raws s, (Rw.cutN x).size ≤ 1000 ∧ Rw.plainL (Rw.cutN x).data.toList = true := by
    intro x hx
    unfold Rw.raws at hx
    obtain ⟨y, hy, rfl⟩ := List.mem_map.1 hx
    have hm : Rw.trimN y ∈ Rw.lns [] s.data.toList := by rw [← htr]; exact List.mem_map_of_mem hy
    rw [List.all_eq_true] at hok
    have := hok _ hm
    unfold Rw.okl at this
    rw [Bool.and_eq_true, decide_eq_true_eq] at this
    exact ⟨by show (Rw.trimN y).toArray.size ≤ 1000; simpa using this.1, this.2⟩
  have hres : (Rw.lns [] s.data.toList).map (fun x => Value.string ⟨x.toArray⟩) = Rw.strs (Rw.raws s) ∧ (Rw.lns [] s.data.toList).length = (Rw.raws s).length := by
    rw [← htr]
    unfold Rw.strs Rw.raws
    rw [List.map_map, List.map_map]
    exact ⟨rfl, by simp⟩
  refine (Rw.linesL_any s hs hokx w).mono ?_
  rintro e w' ⟨A, c, rfl, h1, h2⟩
  exact ⟨A, c, by rw [hres.2], by rw [hres.1]; exact h1, h2⟩
end Go.Proofs.YtppmcnpjglackaaGreatDoor
