/- The layer field: Hexes, by walking its text: a range over strings.SplitSeq. -/
import Derived.Test.YtkmfegamblmpeaaGreatDoorRwPlain
import Derived.Test.YtkmfegamblmpeaaGreatDoorFiPlain2
import Derived.Test.YtkmfegamblmpeaaGreatDoorMdFind
import Derived.Maps.AppendAt
import Derived.Test.YtkmfegamblmpeaaGreatDoorShelf
import Derived.Shelf.Strconv.ErrVarAll
import Derived.WalkSmall
import Derived.Lib.LaidTab
import Derived.Lib.AppendIntMem
namespace Go.Proofs.YtkmfegamblmpeaaGreatDoor
open Go.RowKit
attribute [local go_sem] Oper.semAt_some
set_option linter.unusedSimpArgs false
set_option linter.unusedVariables false

theorem Q.splitSeq_any (s : ByteArray) (w : World) :
    Calls Tryz.prog 171 #[.string s, .string ⟨#[32]⟩] w fun e w' => e = .returned (.func (.func 196) #[] #[.pointer (some ⟨w.heap.size + 1, 0, none⟩), .pointer (some ⟨w.heap.size, 0, none⟩), .pointer (some ⟨w.heap.size + 2, 0, none⟩)]) ∧
      w' = ((w.alloc (.cells #[.string s] 9)).alloc (.cells #[.string ⟨#[32]⟩] 9)).alloc (.cells #[.int .i64 0] 3) := by
  have inner : ∀ w : World, Calls Tryz.prog 186 #[.string s, .string ⟨#[32]⟩, .int .i64 0] w fun e w' => e = .returned (.func (.func 196) #[] #[.pointer (some ⟨w.heap.size + 1, 0, none⟩), .pointer (some ⟨w.heap.size, 0, none⟩), .pointer (some ⟨w.heap.size + 2, 0, none⟩)]) ∧
      w' = ((w.alloc (.cells #[.string s] 9)).alloc (.cells #[.string ⟨#[32]⟩] 9)).alloc (.cells #[.int .i64 0] 3) := by
    intro w
    go_enter Tryz.func186, Tryz.ntmps186
    go_wp2
    go_ret
    exact ⟨rfl, rfl⟩
  go_enter Tryz.func171, Tryz.ntmps171
  go_wp2_with (refine (inner _).mono ?_; rintro e w1 ⟨rfl, rfl⟩)
  go_ret
  exact ⟨rfl, rfl⟩

def Q.ok (x : ByteArray) : Bool := (Fi.hex x.data.toList).isSome
def Q.val (x : ByteArray) : Int := (Fi.hex x.data.toList).getD 0
def Q.vals (l : List ByteArray) : List Value := l.map fun x => Value.int .i32 (Q.val x)
/-- As RetHexes, the row's type told, too. -/
def Q.RetHexesT (L : List ByteArray) (w : World) (e : Ending) (w' : World) : Prop :=
  if L.all Q.ok then ∃ A c, e = .returned (.tuple #[.slice A L.length c, .bool true]) ∧ Slt w' 21 A (Q.vals L) ∧ Below w.heap.size w w'
  else e = .returned (.tuple #[.slice none 0 0, .bool false]) ∧ Below w.heap.size w w'

set_option maxRecDepth 100000 in
set_option maxHeartbeats 4000000 in
theorem Q.hexesT_any (s : ByteArray) (hs : s.size ≤ 1000000) (w : World) :
    Calls Tryz.prog 157 #[.string s] w (Q.RetHexesT (Q.bas (Fi.spl 32 [] s.data.toList)) w) := by
  obtain ⟨i0, hi, hz0, hz1, hz2⟩ := info_parts infoRune
  refine (callsIn_wide (n := 5)).1 ?_
  refine callsIn_of_wp_marks Tryz.func157 rfl trivial ?_ rfl
  simp only [Tryz.ntmps157, List.size_toArray, List.length_cons, List.length_nil, Nat.reduceAdd, Nat.reduceSub, Array.replicate_succ, Array.replicate_zero, List.push_toArray, List.append_toArray, List.nil_append, List.cons_append]
  gi_wp2_with (refine ⟨trivial, ?_⟩; gi_at_call 171; refine (callsIn_wide.2 (Q.splitSeq_any s _)).mono ?_; rintro e w1 ⟨rfl, hw1⟩; have HW := Lib.hid hw1; clear hw1)
  have hw1 := HW.out
  have hsz : w1.heap.size = w.heap.size + 6 := by rw [hw1]; simp
  have q2 : Boxed w1 w.heap.size 36 (.slice none 0 0) := by
    rw [hw1]
    exact (((((Boxed.new w 36 (.slice none 0 0)).alloc _).alloc _).alloc _).alloc _).alloc _
  have q3 : Boxed w1 (w.heap.size + 1) 4 (.bool false) := by
    have h := Boxed.new (w.alloc (.cells #[.slice none 0 0] 36)) 4 (.bool false)
    rw [World.size_alloc] at h
    rw [hw1]
    exact (((h.alloc _).alloc _).alloc _).alloc _
  have q4 : Boxed w1 (w.heap.size + 1 + 1) 36 (.slice none 0 0) := by
    have h := Boxed.new ((w.alloc (.cells #[.slice none 0 0] 36)).alloc (.cells #[.bool false] 4)) 36 (.slice none 0 0)
    rw [World.size_alloc, World.size_alloc] at h
    rw [hw1]
    exact ((h.alloc _).alloc _).alloc _
  have q5 : Boxed w1 (w.heap.size + 1 + 1 + 1) 9 (.string s) := by
    have h := Boxed.new (((w.alloc (.cells #[.slice none 0 0] 36)).alloc (.cells #[.bool false] 4)).alloc (.cells #[.slice none 0 0] 36)) 9 (.string s)
    rw [World.size_alloc, World.size_alloc, World.size_alloc] at h
    rw [hw1]
    exact (h.alloc _).alloc _
  have q6 : Boxed w1 (w.heap.size + 1 + 1 + 1 + 1) 9 (.string ⟨#[32]⟩) := by
    have h := Boxed.new ((((w.alloc (.cells #[.slice none 0 0] 36)).alloc (.cells #[.bool false] 4)).alloc (.cells #[.slice none 0 0] 36)).alloc (.cells #[.string s] 9)) 9 (.string ⟨#[32]⟩)
    rw [World.size_alloc, World.size_alloc, World.size_alloc, World.size_alloc] at h
    rw [hw1]
    exact h.alloc _
  have q7 : Boxed w1 (w.heap.size + 1 + 1 + 1 + 2) 3 (.int .i64 0) := by
    have h := Boxed.new (((((w.alloc (.cells #[.slice none 0 0] 36)).alloc (.cells #[.bool false] 4)).alloc (.cells #[.slice none 0 0] 36)).alloc (.cells #[.string s] 9)).alloc (.cells #[.string ⟨#[32]⟩] 9)) 3 (.int .i64 0)
    rw [World.size_alloc, World.size_alloc, World.size_alloc, World.size_alloc, World.size_alloc] at h
    rw [hw1]
    exact h
  have hB0 : Below w.heap.size w w1 := by
    rw [hw1]
    exact ((((((Below.refl _ w).alloc (by simp) _).alloc (by simp) _).alloc (by simp; omega) _).alloc (by simp; omega) _).alloc (by simp; omega) _).alloc (by simp; omega) _
  clear hw1 HW
  obtain ⟨L, hL⟩ : ∃ L, Q.bas (Fi.spl 32 [] s.data.toList) = L := ⟨_, rfl⟩
  have hLl : L.length ≤ 1000001 := by
    rw [← hL]
    unfold Q.bas
    rw [List.length_map]
    have := Fi.spl_len 32 s.data.toList []
    have e : s.data.toList.length = s.size := by simp
    omega
  obtain ⟨D, hD⟩ : ∃ D, w1.heap.size = D := ⟨_, rfl⟩
  have hseq := fun (W : World) (hW : Below w1.heap.size w1 W) => Q.splitSeq1 s hs (5 - 1) (w.heap.size + 1 + 1 + 1) (by omega) W ((hW.block _ (by omega)).trans q5) ((hW.block _ (by omega)).trans q6) ((hW.block _ (by omega)).trans q7)
  rw [hL] at hseq ⊢
  refine R.range (n := 5) (by omega) (gf := 196) (lb := #[.pointer (some ⟨w.heap.size + 1 + 1 + 1 + 1, 0, none⟩), .pointer (some ⟨w.heap.size + 1 + 1 + 1, 0, none⟩), .pointer (some ⟨w.heap.size + 1 + 1 + 1 + 2, 0, none⟩)]) rfl (enters_of Tryz.func196 (by kernel_rfl) rfl)
    (b := w.heap.size + 1 + 1 + 1) (by omega) (ks := [w.heap.size + 1 + 1 + 1, w.heap.size + 1 + 1 + 1 + 1, w.heap.size + 1 + 1 + 1 + 2]) (by simp; omega) hseq (fun _ => rfl)
    (fun pre W => pre.all Q.ok = true ∧ (∃ v, Boxed W (w.heap.size + 1 + 1) 36 v ∧ W.ownsRow D 21 1 v pre.length (Q.vals pre)) ∧ Boxed W w.heap.size 36 (.slice none 0 0) ∧ Boxed W (w.heap.size + 1) 4 (.bool false) ∧ Below w.heap.size w W ∧ D ≤ W.heap.size)
    (fun c pre W => c = .ret ∧ pre.all Q.ok = false ∧ Boxed W w.heap.size 36 (.slice none 0 0) ∧ Boxed W (w.heap.size + 1) 4 (.bool false) ∧ Below w.heap.size w W)
    (by
      rintro pre X Y row ⟨a1, ⟨v, a2, a3⟩, a4, a5, a6, a7⟩ hg hr
      exact ⟨a1, ⟨v, R.box_kept a2 hg hr (by omega), R.own_kept a3 hg hr (by omega)⟩, R.box_kept a4 hg hr (by omega), R.box_kept a5 hg hr (by omega), R.below_kept a6 a6.size hg hr (by omega) (by omega), Nat.le_trans a7 hg.size⟩)
    (by
      rintro c pre X Y row ⟨a1, a2, a4, a5, a6⟩ hg hr
      exact ⟨a1, a2, R.box_kept a4 hg hr (by omega), R.box_kept a5 hg hr (by omega), R.below_kept a6 a6.size hg hr (by omega) (by omega)⟩)
    ⟨rfl, ⟨_, q4, World.ownsRow_nil _ _ _ _⟩, q2, q3, hB0, by omega⟩
    (fun x => { tmps := #[.string s, undef, .pointer (some ⟨w.heap.size, 0, none⟩), .pointer (some ⟨w.heap.size + 1, 0, none⟩), .pointer (some ⟨w.heap.size + 1 + 1, 0, none⟩), .string x, undef, undef, .string s,
      .func (.func 196) #[] #[.pointer (some ⟨w.heap.size + 1 + 1 + 1 + 1, 0, none⟩), .pointer (some ⟨w.heap.size + 1 + 1 + 1, 0, none⟩), .pointer (some ⟨w.heap.size + 1 + 1 + 1 + 2, 0, none⟩)], .string x, undef, undef, undef, undef, undef, undef, undef, undef, undef, undef, undef, undef], defers := [] }) ?assign ?body ?done ?stop
  case assign =>
    intro l x W K hK
    gi_wp2
    exact hK
  case body =>
    rintro l pre x W ⟨hall, ⟨v, hv, hrow⟩, h2, h3, hB, hDW⟩ hlen _
    rw [hD]
    have hc := hv.cell
    have c2 := h2.cell
    have f2 := h2.frozen
    have c3 := h3.cell
    have f3 := h3.frozen
    by_cases hx : Q.ok x = true
    · have hH : ∀ W : World, Calls Tryz.prog 126 #[.string x] W fun e w' => e = .returned (.tuple #[.int .i32 (Q.val x), .bool true]) ∧ w' = W := fun W => (Fi.hex_any x W).mono fun e w' h => ⟨by
        have := h.1
        unfold Fi.RetHex at this
        rw [this, show (Fi.hex x.data.toList).isSome = true from hx]; rfl, h.2⟩
      gi_wp2_with first
        | (refine ⟨trivial, ?_⟩; gi_at_call 126; refine (CallsIn.inRound l (callsIn_wide.2 (hH _))).mono ?_; rintro e w2 ⟨rfl, hww⟩; subst w2)
        | (gi_at_builtin; refine wpListIn_append_own _ rfl _ _ 36 rfl D 21 i0 (.int .i32 0) 1 4 Tryz.underlying36 hi hz0 hz1 hz2 rfl (by decide) _ _ _ rfl (hrow.alloc _) ⟨W.heap.size, 0, none⟩ 1 1 [.int .i32 (Q.val x)] rfl rfl (cell_one_new _ _ _) (by simp [Value.oneCell']) (by simp only [maxLen]; omega) (by omega) (by simp; omega) ?_; intro v' w3 hown' hgrow _; obtain ⟨g', cap', rfl⟩ := ownsRow_succ hown'; obtain ⟨g1, g2, g3, g4, g5, g6, g7⟩ := R.appended (n₀ := w.heap.size) (ks := [w.heap.size + 1 + 1 + 1, w.heap.size + 1 + 1 + 1 + 1, w.heap.size + 1 + 1 + 1 + 2]) hv (by decide) hrow hDW (by omega) (by omega) (by simp; omega) hown' hgrow; have hc1 := g1.cell; have hf1 := g1.frozen)
        | fail
      exact ⟨g4, g5, by rw [List.all_append, hall]; simpa using hx, ⟨_, g2, by rw [List.length_append, show Q.vals (pre ++ [x]) = Q.vals pre ++ [Value.int .i32 (Q.val x)] by simp [Q.vals]]; exact g3⟩, g7 _ _ _ (by omega) (by omega) h2, g7 _ _ _ (by omega) (by omega) h3, hB.trans g6, Nat.le_trans hDW g4.size⟩
    · have hH : ∀ W : World, Calls Tryz.prog 126 #[.string x] W fun e w' => e = .returned (.tuple #[.int .i32 (Q.val x), .bool false]) ∧ w' = W := fun W => (Fi.hex_any x W).mono fun e w' h => ⟨by
        have := h.1
        unfold Fi.RetHex at this
        rw [this, show (Fi.hex x.data.toList).isSome = false from by simpa [Q.ok] using hx]; rfl, h.2⟩
      gi_wp2_with first
        | (refine ⟨trivial, ?_⟩; gi_at_call 126; refine (CallsIn.inRound l (callsIn_wide.2 (hH _))).mono ?_; rintro e w2 ⟨rfl, hww⟩; subst w2)
        | fail
      have k1 : Below w.heap.size W ((W.setCell ⟨w.heap.size, 0, none⟩ (.slice none 0 0)).setCell ⟨w.heap.size + 1, 0, none⟩ (.bool false)) :=
        ((Below.refl w.heap.size W).setCell (p := ⟨w.heap.size, 0, none⟩) (Nat.le_refl _) _).setCell (p := ⟨w.heap.size + 1, 0, none⟩) (by show w.heap.size ≤ w.heap.size + 1; omega) _
      exact ⟨((KeepsOthers.setCell _ _ _).trans (KeepsOthers.setCell _ _ _)).from _, rfl, by rw [List.all_append, hall]; simpa using hx, (h2.set _).other (by omega) _, (h3.other (by omega) _).set _, hB.trans k1⟩
  case done =>
    rintro E ys W hE rfl ⟨hall, ⟨v, hv, hrow⟩, h2, h3, hB, hDW⟩ hK
    have hc := hv.cell
    have c2 := h2.cell
    have f2 := h2.frozen
    have c3 := h3.cell
    have f3 := h3.frozen
    obtain ⟨A, cp, rfl⟩ := own_form hrow
    gi_wp2
    have r1 := hrow.kept (grownBy_setCell' W w.heap.size (.slice A ys.length cp)) (.inr (h2.not_row (by decide) hrow).symm)
    have h3' := h3.other (show w.heap.size + 1 ≠ w.heap.size by omega) (.slice A ys.length cp)
    have r2 := r1.kept (grownBy_setCell' _ (w.heap.size + 1) (.bool true)) (.inr (h3'.not_row (by decide) r1).symm)
    have b2 := (h2.set (.slice A ys.length cp)).other (show w.heap.size ≠ w.heap.size + 1 by omega) (.bool true)
    have b3 := h3'.set (.bool true)
    have hK' : ((W.setCell ⟨w.heap.size, 0, none⟩ (.slice A ys.length cp)).setCell ⟨w.heap.size + 1, 0, none⟩ (.bool true)).heap[E]? = some (.deferred (some [])) :=
      (Below.heap_setCell _ _ _ E (by show E ≠ w.heap.size + 1; omega)).trans ((Below.heap_setCell _ _ _ E (by show E ≠ w.heap.size; omega)).trans hK)
    have k1 := (hB.setCell (p := ⟨w.heap.size, 0, none⟩) (Nat.le_refl _) (.slice A ys.length cp)).setCell (p := ⟨w.heap.size + 1, 0, none⟩) (by show w.heap.size ≤ w.heap.size + 1; omega) (.bool true)
    obtain ⟨X, hX⟩ : ∃ X, (W.setCell ⟨w.heap.size, 0, none⟩ (.slice A ys.length cp)).setCell ⟨w.heap.size + 1, 0, none⟩ (.bool true) = X := ⟨_, rfl⟩
    rw [hX] at r2 b2 b3 hK' k1 ⊢
    have e2 := cell_kept b2.cell (grownBy_putObj' X E (.deferred none)) (fun r e => by cases e; exact ⟨_, hK', rfl⟩)
    have e3 := cell_kept b3.cell (grownBy_putObj' X E (.deferred none)) (fun r e => by cases e; exact ⟨_, hK', rfl⟩)
    refine ⟨by simp, .inl ⟨_, _, rfl, run_takeDeferred hK', ?_⟩⟩
    refine ⟨.tuple #[.slice A ys.length cp, .bool true], ?_, ?_⟩
    · simp [results, Tryz.f157, go_sem, e2, e3]
    · rw [hL]
      unfold Q.RetHexesT
      rw [if_pos hall]
      exact ⟨A, cp, rfl, Slt.of_own (ownsRow_putObj r2 _ hK' rfl), k1.trans (belowK_b (w := w) (Nat.le_refl _) X E _ _ (by omega) hK' rfl rfl)⟩
  case stop =>
    rintro E c pre W hE hpre ⟨rfl, hbad, h2, h3, hB⟩ hK
    gi_wp2
    have e2 := cell_kept h2.cell (grownBy_putObj' W E (.deferred none)) (fun r e => by cases e; exact ⟨_, hK, rfl⟩)
    have e3 := cell_kept h3.cell (grownBy_putObj' W E (.deferred none)) (fun r e => by cases e; exact ⟨_, hK, rfl⟩)
    refine ⟨by simp, .inl ⟨_, _, rfl, run_takeDeferred hK, ?_⟩⟩
    refine ⟨.tuple #[.slice none 0 0, .bool false], ?_, ?_⟩
    · simp [results, Tryz.f157, go_sem, e2, e3]
    · have hn : L.all Q.ok = false := by
        obtain ⟨t, rfl⟩ := hpre
        rw [List.all_append, hbad, Bool.false_and]
      unfold Q.RetHexesT
      rw [if_neg (by rw [hn]; decide)]
      exact ⟨rfl, hB.trans (belowK_b (w := w) (Nat.le_refl _) W E _ _ (by omega) hK rfl rfl)⟩

end Go.Proofs.YtkmfegamblmpeaaGreatDoor

/- The layer field: Num, by walking its text. -/
namespace Go.Proofs.YtkmfegamblmpeaaGreatDoor
open Go.RowKit Go.Stop
set_option linter.unusedSimpArgs false
set_option linter.unusedVariables false

/-- What strconv reads: its table, its two errors. -/
def Fi.LaidN (w : World) : Prop := Lib.TabIs Tryz.prog w "internal/strconv.uint64pow10" .u64 Lib.pow10Tab ∧ (∃ tp p, w.var? Tryz.prog "strconv.ErrSyntax" = some #[.iface tp p]) ∧ ∃ tp p, w.var? Tryz.prog "strconv.ErrRange" = some #[.iface tp p]

theorem Fi.var_next {w w' : World} {n : String} {g : Nat} {cs : Array Value} (hg : Tryz.prog.globalNamed n = some g) (hv : w.var? Tryz.prog n = some cs) (hb : Below w.heap.size w w') : w'.var? Tryz.prog n = some cs := by
  refine var?_below hb hg ?_ hv
  rcases Nat.lt_or_ge g w.heap.size with h | h
  · exact h
  · unfold World.var? at hv
    simp [hg, Array.getElem?_eq_none h] at hv
theorem Fi.gSyn : Tryz.prog.globalNamed "strconv.ErrSyntax" = some 4 := by kernel_rfl
theorem Fi.gRng : Tryz.prog.globalNamed "strconv.ErrRange" = some 5 := by kernel_rfl
theorem Fi.LaidN.next {w w' : World} (h : Fi.LaidN w) (hb : Below w.heap.size w w') : Fi.LaidN w' := by
  obtain ⟨h1, ⟨tp, p, h2⟩, tp', p', h3⟩ := h
  exact ⟨Lib.tabBelow_of_tabIs h1 w' hb, ⟨tp, p, Fi.var_next Fi.gSyn h2 hb⟩, tp', p', Fi.var_next Fi.gRng h3 hb⟩

/-- strconv.Atoi of a text of few bytes. -/
theorem Fi.atoi_any (s : ByteArray) (hs : s.size ≤ 100000) (w : World) (hL : Fi.LaidN w) :
    Calls Tryz.prog 155 #[.string s] w fun e w' => Below w.heap.size w w' ∧
      ((∃ v, Lib.atoiAll s.data.toList = .ok v ∧ -9223372036854775808 ≤ v ∧ v ≤ 9223372036854775807 ∧ e = .returned (.tuple #[.int .i64 v, .nilIface])) ∨
       ((∀ v, Lib.atoiAll s.data.toList ≠ .ok v) ∧ ∃ v T p, e = .returned (.tuple #[.int .i64 v, .iface T p]))) := by
  obtain ⟨_, ⟨tp, p, h1⟩, tp', p', h2⟩ := hL
  rcases hh : Lib.atoiAll s.data.toList with v | _ | _
  · refine (Tryz.strconv_Atoi_ok s (by omega) v hh w).mono ?_
    rintro e w' ⟨rfl, hw⟩
    have hb := Lib.atoiAll_bounds hh
    refine ⟨?_, .inl ⟨v, rfl, hb.1, hb.2, rfl⟩⟩
    rcases hw with rfl | ⟨t, rfl⟩
    · exact Below.refl _ _
    · exact Lib.bytesWorld_below _ _ _
  · refine (Any.strconv_Atoi_syntax_var Tryz.laysC172 s (by omega) hh tp p w h1).mono ?_
    rintro e w' ⟨N, rfl, _, _, hb⟩
    exact ⟨hb, .inr ⟨(fun v h => by cases h), _, _, _, rfl⟩⟩
  · refine (Any.strconv_Atoi_range_var Tryz.laysC172 s (by omega) hh tp' p' w h2).mono ?_
    rintro e w' ⟨N, rfl, _, _, hb⟩
    exact ⟨hb, .inr ⟨(fun v h => by cases h), _, _, _, rfl⟩⟩

theorem Fi.itoa_any (n : Int) (h0 : -9223372036854775808 ≤ n) (h1 : n ≤ 9223372036854775807) (w : World) (hL : Fi.LaidN w) :
    Calls Tryz.prog 156 #[.int .i64 n] w fun e w' => e = .returned (.string ⟨(Lib.itoa n).toArray⟩) ∧ Below w.heap.size w w' := by
  refine (Tryz.strconv_Itoa n h0 h1 w hL.1).mono ?_
  rintro e w' ⟨he, k, os, rfl⟩
  refine ⟨he, rfl, rfl, rfl, by simp [Sort.grow], fun i hi => ?_⟩
  simp only [Sort.grow, World.heap_drewN]
  rw [Array.getElem?_append_left hi]

def Fi.RetNum (l : List UInt8) (most : Int) (e : Ending) : Prop := e = .returned (.tuple #[.int .i64 ((Fi.num l most).getD 0), .bool (Fi.num l most).isSome])

set_option maxRecDepth 100000 in
set_option maxHeartbeats 4000000 in
theorem Fi.num_any (s : ByteArray) (hs : s.size ≤ 100000) (most : Int) (hm : most ≤ 1000000000) (w : World) (hL : Fi.LaidN w) :
    Calls Tryz.prog 139 #[.string s, .int .i64 most] w fun e w' => Fi.RetNum s.data.toList most e ∧ Below w.heap.size w w' := by
  have hno : (∀ v : Int, 0 ≤ v → v ≤ most → Lib.atoiAll s.data.toList ≠ .ok v) → Fi.num s.data.toList most = none := fun h =>
    Fi.num_none_of fun u hu he => h u (by omega) hu (by rw [he]; exact Fi.atoi_dec u (by omega))
  go_enter Tryz.func139, Tryz.ntmps139
  go_wp2_with fail
  refine (Fi.atoi_any s hs _ hL).mono ?_
  rintro e w1 ⟨hb1, (⟨v, hv, v0, v1, rfl⟩ | ⟨hv, v, T, p, rfl⟩)⟩
  · rcases Int.lt_or_le v 0 with hneg | hpos
    · have hN := hno (fun u hu _ h => by rw [hv] at h; cases h; omega)
      clear hv hno
      go_wp2_with fail
      go_ret2
      exact ⟨by unfold Fi.RetNum; rw [hN]; rfl, hb1⟩
    have hpos' : ¬ v < 0 := by omega
    by_cases hbig : v > most
    · have hN := hno (fun u hu hu2 h => by rw [hv] at h; cases h; omega)
      clear hv hno
      go_wp2_with fail
      go_ret2
      exact ⟨by unfold Fi.RetNum; rw [hN]; rfl, hb1⟩
    have L1 : Fi.LaidN w1 := hL.next hb1
    have hit : Lib.itoa v = Lib.decDigits v.toNat := by unfold Lib.itoa; rw [if_neg (by omega)]
    have hsz : (Lib.itoa v).length ≤ 11 := by rw [hit]; have := Fi.dec_len 9 v.toNat (by rw [show (10 : Nat) ^ (9 + 1) = 10000000000 from by decide]; omega); omega
    obtain ⟨t, ht⟩ : ∃ t : ByteArray, (⟨(Lib.itoa v).toArray⟩ : ByteArray) = t := ⟨_, rfl⟩
    have htl : t.data.toList = Lib.decDigits v.toNat := by rw [← ht]; exact hit
    have hI := Fi.itoa_any v v0 v1 w1 L1
    rw [ht] at hI
    by_cases heq : t = s
    · have hN : Fi.num s.data.toList most = some v := by
        rw [← heq, htl, Fi.isNum_dec _ _ (by omega)]
        congr 1
        omega
      have HN := Lib.hid hN
      clear hv hno hit hsz ht htl hN
      go_wp2_with fail
      refine hI.mono ?_
      rintro e w2 ⟨rfl, hb2⟩
      subst heq
      go_wp2_with fail
      go_ret2
      exact ⟨by unfold Fi.RetNum; rw [HN.out]; rfl, hb1.trans (hb2.mono hb1.size)⟩
    · have hN : Fi.num s.data.toList most = none := Fi.num_none_of fun u hu he => heq (by
        have h1 := Fi.atoi_dec u (by omega)
        rw [← he, hv] at h1
        cases h1
        rw [← Lib.mk_data t, htl, ← Lib.mk_data s, he]
        simp)
      have HN := Lib.hid hN
      have hbeq : (t.toList == s.toList) = false := by
            rw [beq_eq_false_iff_ne, ByteArray.toList_eq, ByteArray.toList_eq]
            exact fun h => heq (by rw [← Lib.mk_data t, h, Lib.mk_data])
      clear hv hno hit hsz ht htl hN
      go_wp2_with fail
      refine hI.mono ?_
      rintro e w2 ⟨rfl, hb2⟩
      go_wp2_with fail
      go_ret2
      exact ⟨by unfold Fi.RetNum; rw [HN.out]; rfl, hb1.trans (hb2.mono hb1.size)⟩
  · have hN := hno (fun u _ _ h => hv u h)
    clear hv hno
    go_wp2_with fail
    go_ret2
    exact ⟨by unfold Fi.RetNum; rw [hN]; rfl, hb1⟩
end Go.Proofs.YtkmfegamblmpeaaGreatDoor
