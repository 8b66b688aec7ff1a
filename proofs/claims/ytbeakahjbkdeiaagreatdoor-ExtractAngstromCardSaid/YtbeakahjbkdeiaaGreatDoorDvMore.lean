/- more -/
import Derived.Test.YtbeakahjbkdeiaaGreatDoorSlt
import Derived.BigQuiet
import Derived.Deep.QuietTactic
import Derived.Deep.RegionHeld3
import Derived.Deep.AppendLies
import Derived.Test.YtbeakahjbkdeiaaGreatDoorMdFull
import Derived.WalkKit
import Derived.WalkSpells
import Derived.WalkLawsBesides
import Derived.Lib.Hide
import Derived.Test.YtbeakahjbkdeiaaGreatDoorOrPlain
import Derived.Test.YtbeakahjbkdeiaaGreatDoorSsIns
import Derived.Test.YtbeakahjbkdeiaaGreatDoorUdIs
import Derived.Test.YtbeakahjbkdeiaaGreatDoorMdExp
import Derived.Test.YtbeakahjbkdeiaaGreatDoorFaCh
import Derived.Test.YtbeakahjbkdeiaaGreatDoorPgRaw
import Derived.Test.YtbeakahjbkdeiaaGreatDoorSoWalkA
import Derived.DeepKeys4
import Derived.Test.YtbeakahjbkdeiaaGreatDoorFiBits
import Derived.BigRegion
import Derived.Test.YtbeakahjbkdeiaaGreatDoorRwLines
import Derived.Laws.BitsAllLaws
import Derived.RangeFuncNested
import Derived.RangeFuncBound
import Derived.RangeFuncCalls
import Derived.RangeFuncLeaves
import Derived.OwnWalkIn
import Derived.TacticsInMore
import Derived.LoopNIn
import Derived.LoopIn
import Derived.Test.YtbeakahjbkdeiaaGreatDoorMdRef5
namespace Go.Proofs.YtbeakahjbkdeiaaGreatDoor
open Go.RowKit
set_option linter.unusedVariables false
set_option linter.unusedSimpArgs false
section
variable {P : Program}
theorem size_alloc1 (w : World) (o : Obj) : (w.alloc o).heap.size = w.heap.size + 1 := by simp

end
section
variable {P : Program}
theorem ret_tuple2 {k : IntKind} {a a' : Int} {x x' : Bool} (h : (a, x) = (a', x')) :
    Ending.returned (.tuple #[.int k a, .bool x]) = .returned (.tuple #[.int k a', .bool x']) := by
  simp only [Prod.mk.injEq] at h
  obtain ⟨rfl, rfl⟩ := h
  rfl
end
section
variable {P : Program}
theorem RetInts.of_own {k : IntKind} {l : List Int} {w w' : World} {base : Nat} {e : TypeId} {v : Value} {xs : List Value} {n : Nat} (h : w'.ownsRow base e 1 v n xs) (hn : n = l.length) (hx : xs = l.map (Value.int k)) (hb : Below w.heap.size w w') : RetInts k l w (.returned v) w' := by
  subst hn hx
  obtain ⟨A, c, rfl⟩ := own_form h
  exact ⟨A, c, rfl, Sl.of_own h, hb⟩

end
theorem Ss.eqv.nil {f : Int → Int} {l : List Int} (h : Ss.eqv f [] l) : l = [] := List.eq_nil_of_length_eq_zero (by rw [h.length]; rfl)
theorem Or.Q_iff {f : Int → Int} {l m : List Int} : Or.Q f l m ↔ Or.of f l = Or.of f m :=
  ⟨fun h => h.of, fun h => (Or.Q_of f l).trans (h ▸ (Or.Q_of f m).symm)⟩
theorem Or.of_app {f : Int → Int} {l m : List Int} : Or.of f (Or.of f l ++ m) = Or.of f (l ++ m) := ((Or.Q_of f l).symm.app (Or.Q.refl f m)).of
/-- Cut ahead of a character of class 0. -/
theorem Or.of_cut {f : Int → Int} {c : Int} (hc : ¬ 0 < f c) (l m : List Int) : Or.of f (l ++ c :: m) = Or.of f l ++ Or.of f (c :: m) := by
  have h1 : ∀ {l r : List Int}, Or.R f l r → ∀ {m s : List Int}, Or.R f (c :: m) (c :: s) → Or.R f (l ++ c :: m) (r ++ c :: s) := by
    intro l r h
    induction h with
    | run h1 h2 h3 =>
      intro m s hs
      generalize he : c :: m = x at hs
      generalize he2 : c :: s = y at hs
      cases hs with
      | run g1 g2 g3 => exact absurd (g1 c (by rw [← he]; simp)) hc
      | @cons a' b' l' m'' c' g1 g2 g3 g4 g5 =>
        obtain ⟨rfl, rfl, rfl⟩ := Or.split (a := []) (fun x hx => absurd hx List.not_mem_nil) g1 hc g4 (by simpa using he)
        obtain rfl := g3.nil
        simp at he2
        obtain rfl := he2
        exact .cons h1 h2 h3 hc g5
    | cons h1 h2 h3 h4 h5 ih =>
      intro m s hs
      rw [List.append_assoc, List.append_assoc, List.cons_append, List.cons_append]
      exact .cons h1 h2 h3 h4 (ih hs)
  have h2 : Or.R f (c :: m) (c :: Or.of f m) := .cons (a := []) (b := []) (fun x hx => absurd hx List.not_mem_nil) List.Pairwise.nil (Ss.eqv.refl _ _) hc (Or.of_R f m)
  have e : Or.of f (c :: m) = c :: Or.of f m := h2.unique (Or.of_R f _)
  rw [e]
  exact (h1 (Or.of_R f l) h2).unique (Or.of_R f _)
theorem Or.of_cons {f : Int → Int} {c : Int} (hc : ¬ 0 < f c) (m : List Int) : Or.of f (c :: m) = c :: Or.of f m :=
  (Or.R.cons (a := []) (b := []) (fun x hx => absurd hx List.not_mem_nil) List.Pairwise.nil (Ss.eqv.refl _ _) hc (Or.of_R f m)).unique (Or.of_R f _)
theorem Hg.lead_none (c : Int) (h1 : 44032 ≤ c) (h2 : c < 55204) : Hg.pairK (4352 + (c - 44032) / 588) = (0, 0, false) := by
  have a : 4352 ≤ 4352 + (c - 44032) / 588 ∧ 4352 + (c - 44032) / 588 < 4371 := by omega
  refine Hg.pairK_none _ ?_ ?_ <;> unfold Hg.ofK <;> rw [if_pos a] <;> decide

set_option maxHeartbeats 400000 in
theorem Hg.split_any (c : Int) (w : World) (h1 : -2147483648 ≤ c) (h2 : c ≤ 2147483647) :
    Calls Tryz.prog 60 #[.int .i32 c] w (RetInts .i32 (Hg.splitK c) w) := by
  by_cases h4 : Hg.ofK c = 4
  · have hs := Hg.ofK_syl c (.inl h4)
    obtain ⟨hs1, hs2⟩ := hs
    have hp := Hg.pairK_four c h4
    have hq := Hg.lead_none c hs1 hs2
    have H4 := Lib.hid h4
    clear h4
    go_enter Tryz.func60, Tryz.ntmps60
    go_wp2_with (fail)
    refine (Hg.pair_any _ _ h1 h2).mono ?_
    rintro e w' ⟨rfl, rfl⟩
    rw [hp]
    clear hp
    go_wp2_with (fail)
    refine (Hg.pair_any _ _ (by omega) (by omega)).mono ?_
    rintro e w' ⟨rfl, rfl⟩
    rw [hq]
    clear hq
    go_wp2
    go_ret
    unfold Hg.splitK
    rw [if_pos H4.out]
    exact ⟨_, _, rfl, Sl.lit rfl _ _ (heap_alloc_new _ _), (Below.refl _ _).alloc (Nat.le_refl _) _⟩
  · by_cases h5 : Hg.ofK c = 5
    · have hs := Hg.ofK_syl c (.inr h5)
      obtain ⟨hs1, hs2⟩ := hs
      have hp := Hg.pairK_five c h5
      have hq := Hg.two_of c hs1 hs2
      have H5 := Lib.hid h5
      have H4 := Lib.hid h4
      clear h4 h5
      go_enter Tryz.func60, Tryz.ntmps60
      go_wp2_with (fail)
      refine (Hg.pair_any _ _ h1 h2).mono ?_
      rintro e w' ⟨rfl, rfl⟩
      rw [hp]
      clear hp
      go_wp2_with (fail)
      refine (Hg.pair_any _ _ (by omega) (by omega)).mono ?_
      rintro e w' ⟨rfl, rfl⟩
      rw [hq]
      clear hq
      go_wp2
      go_ret
      unfold Hg.splitK
      rw [if_neg H4.out, if_pos H5.out]
      exact ⟨_, _, rfl, Sl.lit rfl _ _ (heap_alloc_new _ _), (Below.refl _ _).alloc (Nat.le_refl _) _⟩
    · have hp := Hg.pairK_none c h4 h5
      have H5 := Lib.hid h5
      have H4 := Lib.hid h4
      clear h4 h5
      go_enter Tryz.func60, Tryz.ntmps60
      go_wp2_with (fail)
      refine (Hg.pair_any _ _ h1 h2).mono ?_
      rintro e w' ⟨rfl, rfl⟩
      rw [hp]
      clear hp
      go_wp2
      go_ret
      unfold Hg.splitK
      rw [if_neg H4.out, if_neg H5.out]
      exact ⟨_, _, rfl, fun h => absurd h (by simp), Below.refl _ _⟩

def Hg.joinK (a b : Int) : Int × Bool :=
  if Hg.ofK a = 1 ∧ Hg.ofK b = 2 then (44032 + ((a - 4352) * 21 + b - 4449) * 28, true)
  else if Hg.ofK a = 4 ∧ Hg.ofK b = 3 then (a + b - 4519, true) else (0, false)

theorem Hg.ofK_lead (c : Int) (h : Hg.ofK c = 1) : 4352 ≤ c ∧ c < 4371 := by unfold Hg.ofK at h; grind
theorem Hg.ofK_vowel (c : Int) (h : Hg.ofK c = 2) : 4449 ≤ c ∧ c < 4470 := by unfold Hg.ofK at h; grind
theorem Hg.ofK_trail (c : Int) (h : Hg.ofK c = 3) : 4520 ≤ c ∧ c < 4547 := by unfold Hg.ofK at h; grind

set_option maxHeartbeats 400000 in
theorem Hg.join_any (a b : Int) (w : World) (h1 : -2147483648 ≤ a) (h2 : a ≤ 2147483647) (h3 : -2147483648 ≤ b) (h4 : b ≤ 2147483647) :
    Calls Tryz.prog 167 #[.int .i32 a, .int .i32 b] w fun e w' => e = .returned (.tuple #[.int .i32 (Hg.joinK a b).1, .bool (Hg.joinK a b).2]) ∧ w = w' := by
  by_cases ha : Hg.ofK a = 1
  · have hab := Hg.ofK_lead a ha
    obtain ⟨ha1, ha2⟩ := hab
    have q1 : (Hg.ofK a == 1) = true := beq_iff_eq.2 ha
    have q4 : (Hg.ofK a == 4) = false := by rw [ha]; rfl
    by_cases hb : Hg.ofK b = 2
    · have hbb := Hg.ofK_vowel b hb
      obtain ⟨hb1, hb2⟩ := hbb
      have q2 : (Hg.ofK b == 2) = true := beq_iff_eq.2 hb
      have HA := Lib.hid ha
      have HB := Lib.hid hb
      clear ha hb
      go_enter Tryz.func167, Tryz.ntmps167
      go_wp2_with (go_at_call 81; refine (Hg.of_any _ _ (by omega) (by omega)).mono ?_; rintro e w' ⟨rfl, rfl⟩)
      go_ret2
      refine ⟨ret_tuple2 ?_, rfl⟩
      unfold Hg.joinK
      rw [if_pos ⟨HA.out, HB.out⟩]
    · have q2 : (Hg.ofK b == 2) = false := beq_eq_false_iff_ne.2 hb
      have HA := Lib.hid ha
      have HB := Lib.hid hb
      clear ha hb
      go_enter Tryz.func167, Tryz.ntmps167
      go_wp2_with (go_at_call 81; refine (Hg.of_any _ _ (by omega) (by omega)).mono ?_; rintro e w' ⟨rfl, rfl⟩)
      go_ret2
      refine ⟨ret_tuple2 ?_, rfl⟩
      unfold Hg.joinK
      rw [if_neg (fun h => HB.out h.2), if_neg (fun h => by have := HA.out; omega)]
  · have q1 : (Hg.ofK a == 1) = false := beq_eq_false_iff_ne.2 ha
    by_cases ha4 : Hg.ofK a = 4
    · have hab := Hg.ofK_syl a (.inl ha4)
      obtain ⟨ha1, ha2⟩ := hab
      have q4 : (Hg.ofK a == 4) = true := beq_iff_eq.2 ha4
      by_cases hb : Hg.ofK b = 3
      · have hbb := Hg.ofK_trail b hb
        obtain ⟨hb1, hb2⟩ := hbb
        have q2 : (Hg.ofK b == 3) = true := beq_iff_eq.2 hb
        have HA := Lib.hid ha
        have HA4 := Lib.hid ha4
        have HB := Lib.hid hb
        clear ha ha4 hb
        go_enter Tryz.func167, Tryz.ntmps167
        go_wp2_with (go_at_call 81; refine (Hg.of_any _ _ (by omega) (by omega)).mono ?_; rintro e w' ⟨rfl, rfl⟩)
        go_ret2
        refine ⟨ret_tuple2 ?_, rfl⟩
        unfold Hg.joinK
        rw [if_neg (fun h => HA.out h.1), if_pos ⟨HA4.out, HB.out⟩]
      · have q2 : (Hg.ofK b == 3) = false := beq_eq_false_iff_ne.2 hb
        have HA := Lib.hid ha
        have HA4 := Lib.hid ha4
        have HB := Lib.hid hb
        clear ha ha4 hb
        go_enter Tryz.func167, Tryz.ntmps167
        go_wp2_with (go_at_call 81; refine (Hg.of_any _ _ (by omega) (by omega)).mono ?_; rintro e w' ⟨rfl, rfl⟩)
        go_ret2
        refine ⟨ret_tuple2 ?_, rfl⟩
        unfold Hg.joinK
        rw [if_neg (fun h => HA.out h.1), if_neg (fun h => HB.out h.2)]
    · have q4 : (Hg.ofK a == 4) = false := beq_eq_false_iff_ne.2 ha4
      have HA := Lib.hid ha
      have HA4 := Lib.hid ha4
      clear ha ha4
      go_enter Tryz.func167, Tryz.ntmps167
      go_wp2_with (go_at_call 81; refine (Hg.of_any _ _ (by omega) (by omega)).mono ?_; rintro e w' ⟨rfl, rfl⟩)
      go_ret2
      refine ⟨ret_tuple2 ?_, rfl⟩
      unfold Hg.joinK
      rw [if_neg (fun h => HA.out h.1), if_neg (fun h => HA4.out h.1)]

theorem Md.mp_row {T : List Rw.Row} (hr : Md.rises T) {r : Rw.Row} (hm : r ∈ T) (hg : Md.good r) : Md.mp T r.1 = r.2.2 := by
  unfold Md.mp Md.rmp
  rw [Md.pairK_zero hg.2.2.2.2.1, if_neg (by simp), Md.find_mem hr hm]
  rfl
theorem Md.cls_row {T : List Rw.Row} (hr : Md.rises T) {r : Rw.Row} (hm : r ∈ T) : Md.cls T r.1 = r.2.1 := by
  unfold Md.cls
  rw [Md.find_mem hr hm]
  rfl
theorem Ud.mr_rises {T : List Rw.Row} (h : Md.rises T) : Md.rises (Ud.mr T) := List.Pairwise.sublist List.filter_sublist h
theorem Ud.pl_pair {T : List Rw.Row} (h : Md.rises T) : (Ud.pl T).Pairwise fun x y => x.1 ≠ y.1 := by
  rw [List.pairwise_iff_getElem]
  intro i j hi hj hij
  have e1 := List.getElem?_eq_getElem hi
  have e2 := List.getElem?_eq_getElem hj
  unfold Ud.pl at e1 e2
  rw [Ud.plG_get] at e1 e2
  cases hr : (Ud.mr T)[i]? with
  | none => rw [hr] at e1; cases e1
  | some r =>
    cases hq : (Ud.mr T)[j]? with
    | none => rw [hq] at e2; cases e2
    | some q =>
      rw [hr, Option.map_some, Option.some.injEq] at e1
      rw [hq, Option.map_some, Option.some.injEq] at e2
      have := Md.rises_get (Ud.mr_rises h) hr hq hij
      unfold Ud.pl
      rw [← e1, ← e2]
      simp only
      omega
theorem Ud.place_at {T : List Rw.Row} (h : Md.rises T) {i : Nat} {r : Rw.Row} (hr : (Ud.mr T)[i]? = some r) : Pg.last (Ud.pl T) r.1 = (i : Int) + 1 := by
  unfold Pg.last
  rw [Ud.last_go _ _ _ (Ud.pl_pair h)]
  have hi : (Ud.pl T)[i]? = some (r.1, (i : Int) + 1) := by
    unfold Ud.pl
    rw [Ud.plG_get, hr, Option.map_some, Nat.zero_add]
  have hf : ((Ud.pl T).find? fun x => decide (x.1 = r.1)) = some (r.1, (i : Int) + 1) := by
    cases hf : (Ud.pl T).find? fun x => decide (x.1 = r.1) with
    | none =>
      have := List.find?_eq_none.1 hf _ (List.mem_of_getElem? hi)
      simp at this
    | some x =>
      have h1 := List.mem_of_find?_eq_some hf
      have h2 := List.find?_some hf
      simp only [decide_eq_true_eq] at h2
      obtain ⟨j, hj⟩ := List.mem_iff_getElem?.1 h1
      have hij : i = j := by
        obtain ⟨a1, b1⟩ := List.getElem?_eq_some_iff.1 hi
        obtain ⟨a2, b2⟩ := List.getElem?_eq_some_iff.1 hj
        have hp := List.pairwise_iff_getElem.1 (Ud.pl_pair h)
        rcases Nat.lt_trichotomy i j with hl | hl | hl
        · have := hp i j a1 a2 hl
          rw [b1, b2] at this
          exact absurd h2.symm this
        · exact hl
        · have := hp j i a2 a1 hl
          rw [b1, b2] at this
          exact absurd h2 this
      rw [← hij, hi] at hj
      exact hj.symm
  rw [hf]
  rfl
theorem Ud.place_no {T : List Rw.Row} {c : Int} (h : ∀ r ∈ Ud.mr T, r.1 ≠ c) : Pg.last (Ud.pl T) c = 0 := by
  have : ∀ (l : List Rw.Row) (k : Nat), (∀ r ∈ l, r.1 ≠ c) → (Ud.plG k l).foldl (fun (a : Int) x => if x.1 = c then x.2 else a) 0 = 0 := by
    intro l
    induction l with
    | nil => intro k _; rfl
    | cons r l ih =>
      intro k hl
      unfold Ud.plG
      rw [List.foldl_cons, if_neg (hl r List.mem_cons_self)]
      exact ih (k + 1) fun q hq => hl q (List.mem_cons_of_mem _ hq)
  exact this _ 0 h
/-- The row of a character with a mapping of its own. -/
theorem Ud.mr_find {T : List Rw.Row} (h : Md.rises T) (c : Int) : (∃ (i : Nat) (r : Rw.Row), (Ud.mr T)[i]? = some r ∧ r.1 = c ∧ Md.find T c = some r ∧ 0 < r.2.2.length) ∨ ((∀ r ∈ Ud.mr T, r.1 ≠ c) ∧ Md.rmp T c = []) := by
  cases hf : Md.find T c with
  | none =>
    refine .inr ⟨fun r hr e => ?_, by unfold Md.rmp; rw [hf]; rfl⟩
    have := Md.find_mem h (Ud.mem_mr.1 hr).1
    rw [e, hf] at this
    cases this
  | some r =>
    obtain ⟨h1, h2⟩ := Md.find_some hf
    by_cases hl : 0 < r.2.2.length
    · obtain ⟨i, hi⟩ := List.mem_iff_getElem?.1 (Ud.mem_mr.2 ⟨h1, hl⟩)
      exact .inl ⟨i, r, hi, h2, rfl, hl⟩
    · refine .inr ⟨fun q hq e => ?_, ?_⟩
      · obtain ⟨g1, g2⟩ := Ud.mem_mr.1 hq
        have := Md.find_mem h g1
        rw [e, hf] at this
        cases this
        exact hl g2
      · unfold Md.rmp
        rw [hf]
        have : r.2.2 = [] := List.eq_nil_of_length_eq_zero (by omega)
        simpa using this
theorem Ud.full_syl {T : List Rw.Row} (hg : ∀ r ∈ T, Md.good r) {a : Int} (h : Hg.ofK a = 4 ∨ Hg.ofK a = 5) : Md.full T a = some (Hg.splitK a) := by
  unfold Md.full Hg.splitK
  rcases h with h4 | h5
  · have hs := Hg.ofK_syl a (.inl h4)
    have hm : Md.mp T a = [4352 + (a - 44032) / 588, 4449 + (a - 44032) % 588 / 28] := by
      unfold Md.mp; rw [Hg.pairK_four a h4]; simp
    have hl : Hg.ofK (4352 + (a - 44032) / 588) = 1 := by unfold Hg.ofK; grind
    have hv : Hg.ofK (4449 + (a - 44032) % 588 / 28) = 2 := by unfold Hg.ofK; grind
    rw [if_pos h4, Md.exp_lv _ _ _ _ (by simp), show T.length + 3 = (T.length + 2) + 1 from rfl, Md.lv_two _ _ hm (Md.mp_kind hg (by omega)) (Md.mp_kind hg (by omega))]
    rfl
  · have hs := Hg.ofK_syl a (.inr h5)
    have hm : Md.mp T a = [a - (a - 44032) % 28, 4519 + (a - 44032) % 28] := by
      unfold Md.mp; rw [Hg.pairK_five a h5]; simp
    have hm2 : Md.mp T (a - (a - 44032) % 28) = [4352 + (a - 44032) / 588, 4449 + (a - 44032) % 588 / 28] := by
      unfold Md.mp; rw [Hg.two_of a hs.1 hs.2]; simp
    have h50 : (a - 44032) % 28 ≠ 0 := fun e => by rw [Hg.ofK_four a hs.1 hs.2 e] at h5; omega
    have hl : Hg.ofK (4352 + (a - 44032) / 588) = 1 := by unfold Hg.ofK; grind
    have hv : Hg.ofK (4449 + (a - 44032) % 588 / 28) = 2 := by unfold Hg.ofK; grind
    have ht : Hg.ofK (4519 + (a - 44032) % 28) = 3 := by unfold Hg.ofK; grind
    rw [if_neg (by omega), if_pos h5, Md.exp_lv _ _ _ _ (by simp), show T.length + 3 = (T.length + 2) + 1 from rfl]
    have e1 : Md.lv (Md.mp T) (T.length + 2 + 1) a = some [4352 + (a - 44032) / 588, 4449 + (a - 44032) % 588 / 28, 4519 + (a - 44032) % 28] := by
      unfold Md.lv
      rw [if_neg (by rw [hm]; simp), hm]
      simp [Md.lvL, Md.lv_plain _ (T.length + 2) (Md.mp_kind hg (.inr (.inr ht))), show T.length + 2 = (T.length + 1) + 1 from rfl, Md.lv_two _ (T.length + 1) hm2 (Md.mp_kind hg (.inl hl)) (Md.mp_kind hg (.inr (.inl hv)))]
    rw [e1]
    rfl
theorem Ud.kind_le (c : Int) : 0 ≤ Hg.ofK c ∧ Hg.ofK c ≤ 5 := by unfold Hg.ofK; grind
/-- A character without a row of its own that maps it. -/
theorem Ud.none_mp {T : List Rw.Row} {c : Int} (hr : Md.rmp T c = []) (hk : Hg.ofK c < 4) : Md.mp T c = [] ∧ Md.full T c = some [c] := by
  have hm : Md.mp T c = [] := by
    unfold Md.mp
    rw [Ud.pair_kind, decide_eq_false (by omega)]
    simpa using hr
  exact ⟨hm, Md.exp_plain _ hm⟩
theorem results_cell_row2 {P : Program} {fn : Func} {p u : Tmp} {ty : TypeId} (h : fn.results = #[.cell p ty, .tmp u]) (tmps : Array Value) (w : World) (g : Nat) (t : TypeId) (cs : Array Value) (fr : Nat × Nat) (d : TypeDesc)
    (hp : tmps.getD p undef = .pointer (some ⟨g, 0, none⟩)) (hg : w.heap[g]? = some (.cells cs t fr))
    (hu : P.underlying ty = some d) (hd : (match d with | .struct _ | .array _ _ => true | _ => false) = true) (hi : (P.info? ty).map (·.size) = some cs.size) :
    (results fn tmps).run P w = .ok (.tuple #[.agg cs, tmps.getD u undef]) w := by
  have hp' : tmps[p]?.getD undef = .pointer (some ⟨g, 0, none⟩) := by simpa using hp
  simp [results, h, hp', asAddr, run_loadVar_row w g t ty cs fr d hg hu hd hi]

theorem Sl.take {w : World} {B : Nat} {A : Option Addr} {xs : List Value} (h : Sl w B A xs) (m : Nat) : Sl w B A (xs.take m) := by
  intro hx
  rw [List.length_take] at hx
  obtain ⟨b, o, hA, hb, hc⟩ := h (by omega)
  refine ⟨b, o, hA, hb, fun i hi => ?_⟩
  rw [List.length_take] at hi
  rw [hc i (by omega), List.getElem?_take, if_pos (by omega)]
theorem Ud.flE_get (T : List Rw.Row) (X : Int → Bool) : ∀ (l : List Rw.Row) (es : List Ud.At) (i : Nat) (r : Rw.Row) (a : Ud.At), l[i]? = some r → es[i]? = some a →
    (Ud.flE T X l es)[i * 3]? = some (.slice a.m r.2.2.length a.mc) ∧ (Ud.flE T X l es)[i * 3 + 1]? = some (.slice a.f (Ud.full T r.1).length a.fc) ∧ (Ud.flE T X l es)[i * 3 + 2]? = some (.bool (Md.prim T X r.1))
  | [], _, _, _, _, h, _ => by simp at h
  | _ :: _, [], _, _, _, _, h => by simp at h
  | q :: l, b :: es, 0, r, a, h1, h2 => by
    simp at h1 h2
    subst h1; subst h2
    simp [Ud.flE]
  | q :: l, b :: es, i + 1, r, a, h1, h2 => by
    have := Ud.flE_get T X l es i r a (by simpa using h1) (by simpa using h2)
    rw [show (i + 1) * 3 = i * 3 + 3 by omega]
    simpa [Ud.flE] using this
/-- The place that the pages tell. -/
theorem Ud.get_pl {T : List Rw.Row} {S : List Int} (h : Ud.Ok T S) (c : Int) : (∃ (i : Nat) (r : Rw.Row), (Ud.mr T)[i]? = some r ∧ r.1 = c ∧ Md.find T c = some r ∧ 0 < r.2.2.length ∧ Pg.get (Pg.last (Ud.pl T)) c = (i : Int) + 1) ∨ (Pg.get (Pg.last (Ud.pl T)) c = 0 ∧ Md.rmp T c = []) := by
  rcases Ud.mr_find h.rises c with ⟨i, r, h1, h2, h3, h4⟩ | ⟨h1, h2⟩
  · refine .inl ⟨i, r, h1, h2, h3, h4, ?_⟩
    have hb := Ud.good_bd (h.good r (Md.find_some h3).1)
    unfold Pg.get
    rw [if_pos (by omega), ← h2, Ud.place_at h.rises h1]
  · refine .inr ⟨?_, h2⟩
    unfold Pg.get
    rw [Ud.place_no h1]
    simp
theorem Ud.full_one {T : List Rw.Row} {c : Int} (hr : Md.rmp T c = []) (hk : Hg.ofK c < 4) : Ud.full T c = [c] := by
  unfold Ud.full
  rw [(Ud.none_mp hr hk).2]
  rfl
theorem Ud.full_split {T : List Rw.Row} {S : List Int} (h : Ud.Ok T S) {c : Int} (hs : Hg.splitK c ≠ []) : Ud.full T c = Hg.splitK c := by
  have hk : Hg.ofK c = 4 ∨ Hg.ofK c = 5 := by
    unfold Hg.splitK at hs
    by_cases h4 : Hg.ofK c = 4
    · exact .inl h4
    · by_cases h5 : Hg.ofK c = 5
      · exact .inr h5
      · rw [if_neg h4, if_neg h5] at hs
        exact absurd rfl hs
  unfold Ud.full
  rw [Ud.full_syl h.good hk]
  rfl
theorem Ud.split_kind {c : Int} (hs : Hg.splitK c = []) : Hg.ofK c < 4 := by
  have := Ud.kind_le c
  unfold Hg.splitK at hs
  by_cases h4 : Hg.ofK c = 4
  · rw [if_pos h4] at hs; cases hs
  · by_cases h5 : Hg.ofK c = 5
    · rw [if_neg h4, if_pos h5] at hs; cases hs
    · omega
/-- A character that is plain has no mapping. -/
theorem Ud.plain_mp {T : List Rw.Row} (c : Int) : (Md.rmp T c = [] ∧ Hg.ofK c < 4) ↔ Md.mp T c = [] := by
  have hk := Ud.kind_le c
  unfold Md.mp
  rw [Ud.pair_kind]
  by_cases h4 : 4 ≤ Hg.ofK c
  · rw [decide_eq_true h4, if_pos rfl]
    simp
    omega
  · rw [decide_eq_false h4, if_neg (by simp)]
    constructor
    · exact fun h => h.1
    · exact fun h => ⟨h, by omega⟩
theorem F.Ch.below {w w' : World} {B B0 B' : Nat} (hb : Below B0 w w') (h0 : B ≤ B0) (h1 : B ≤ B') : ∀ {q : List (Nat × Int × Int × ByteArray)} {v : Value}, F.Ch w B q v → F.Ch w' B' q v
  | [], v, h => h
  | (b, c, n, s) :: t, v, h => by
    obtain ⟨h2, h3, e, h4, h5⟩ := h
    exact ⟨h2, by omega, e, (hb.block b (by omega)).trans h4, F.Ch.below hb h0 h1 h5⟩
theorem F.Ch.get {w : World} {B : Nat} : ∀ {q : List (Nat × Int × Int × ByteArray)} {v : Value}, F.Ch w B q v → ∀ {i b : Nat} {c n : Int} {s : ByteArray}, q[i]? = some (b, c, n, s) →
    b < B ∧ ∃ e, w.heap[b]? = some (.cells #[.int .i64 c, .int .i64 n, .string s, e] 162 (0, 0))
  | [], v, h, i, b, c, n, s, hq => by simp at hq
  | (b', c', n', s') :: t, v, h, 0, b, c, n, s, hq => by
    obtain ⟨h2, h3, e, h4, h5⟩ := h
    simp at hq
    obtain ⟨rfl, rfl, rfl, rfl⟩ := hq
    exact ⟨h3, e, h4⟩
  | (b', c', n', s') :: t, v, h, i + 1, b, c, n, s, hq => by
    obtain ⟨h2, h3, e, h4, h5⟩ := h
    exact F.Ch.get h5 (by simpa using hq)

section
variable {lo hi : Nat} {W W' : World} {mb : Nat} {f f' : Int → Int} {G : Nat → Option Nat}
theorem Pg.Pl.lt {W : World} {pb : Nat} {bl : List (List Int)} (h : Pg.Pl W pb bl) : pb < W.heap.size := by
  obtain ⟨F, hF, _⟩ := h
  exact hF.lt
end
theorem Ud.lookP {w : World} {b : Nat} {F : Value → Option Value} (h : Mp.Is Tryz.prog 180 w b F) {x y : Int} (hx : -2147483648 ≤ x ∧ x ≤ 2147483647) (hy : -2147483648 ≤ y ∧ y ≤ 2147483647) :
    (Instr.lookup 126 (.map (some b)) (.agg #[.int .i32 x, .int .i32 y]) true).run Tryz.prog w = .ok (.tuple #[(F (Md.pk x y)).getD (.int .i32 0), .bool (F (Md.pk x y)).isSome]) w := by
  obtain ⟨l, hl⟩ := Ud.pk_key hx hy
  have hz : (zeroValue 21).run Tryz.prog w = .ok (.int .i32 0) w := by kernel_rfl
  have := h.look Ud.keyedP Tryz.underlying126 hz hl true
  rw [if_pos rfl] at this
  exact this
def Ud.isr (T : List Rw.Row) (c : Int) : Bool := decide (0 < (Md.rmp T c).length)
def Ud.fl (T : List Rw.Row) (c : Int) : List Int := if Ud.isr T c = true then Ud.full T c else []
def Ud.isp (T : List Rw.Row) (S : List Int) (c : Int) : Bool := Ud.isr T c && Md.prim T (C.mem S) c
def Ud.RetFind (T : List Rw.Row) (S : List Int) (c : Int) (w : World) (e : Ending) (w' : World) : Prop :=
  ∃ m mc f fc, e = .returned (.tuple #[.agg #[.slice m (Md.rmp T c).length mc, .slice f (Ud.fl T c).length fc, .bool (Ud.isp T S c)], .bool (Ud.isr T c)]) ∧ Sl w' w'.heap.size m (Ud.ints (Md.rmp T c)) ∧ Sl w' w'.heap.size f (Ud.ints (Ud.fl T c)) ∧ Below w.heap.size w w'

set_option maxRecDepth 100000 in
set_option maxHeartbeats 2000000 in
theorem Ud.find_any (v : Value) (T : List Rw.Row) (S : List Int) (c : Int) (w : World) (ok : Ud.Ok T S) (h : Ud.Is w v T S) :
    Calls Tryz.prog 61 #[v, .int .i32 c] w (Ud.RetFind T S c w) := by
  obtain ⟨b, A0, c0, XA, xc, pc, pp, A3, c3, mb, jb, A4, c4, A5, c5, A6, c6, es, rfl, hat, _, _, _, hpp, hents, _⟩ := h.is
  have hlen := ok.len
  have hba : Below w.heap.size w (w.alloc (.cells #[.slice none 0 0, .slice none 0 0, .bool false] 81)) := (Below.refl _ _).alloc (Nat.le_refl _) _
  have hata := hat.below hba
  have hatE := Rw.At.new w 81 [.slice none 0 0, .slice none 0 0, .bool false]
  have z3 := hata.cell 3 rfl
  have hbl := hata.lt
  have hG := Pg.get_any pp _ c _ (hpp.below hba)
  have HAT := Lib.hid hata
  have HE := Lib.hid hatE
  have HB := Lib.hid hba
  rcases Ud.get_pl ok c with ⟨i, r, hi, hrc, hfind, hpos, hget⟩ | ⟨hget, hrm⟩
  · have hisr : Ud.isr T c = true := by
      unfold Ud.isr Md.rmp
      rw [hfind]
      exact decide_eq_true hpos
    have hrmp : Md.rmp T c = r.2.2 := by unfold Md.rmp; rw [hfind]; rfl
    have hfl : Ud.fl T c = Ud.full T r.1 := by unfold Ud.fl; rw [if_pos hisr, hrc]
    have hisp : Ud.isp T S c = Md.prim T (C.mem S) r.1 := by unfold Ud.isp; rw [hisr, hrc]; rfl
    unfold Ud.RetFind
    rw [hisr, hrmp, hfl, hisp]
    have him := (List.getElem?_eq_some_iff.1 hi).1
    have hle : (Ud.mr T).length ≤ T.length := List.length_filter_le _ _
    obtain ⟨a, ha⟩ : ∃ a, es[i]? = some a := ⟨_, List.getElem?_eq_getElem (by rw [hents.1]; exact him)⟩
    obtain ⟨hs1, hs2⟩ := hents.2.2 i r a hi ha
    obtain ⟨g1, g2, g3⟩ := Ud.flE_get T (C.mem S) (Ud.mr T) es i r a hi ha
    have hfl3 := Ud.flE_len T (C.mem S) (Ud.mr T) es hents.1
    obtain ⟨eb, eo, rfl, heb, hec⟩ := hents.2.1 (by rw [hfl3]; omega)
    have y0 := hec (i * 3) (by rw [hfl3]; omega)
    have y1 := hec (i * 3 + 1) (by rw [hfl3]; omega)
    have y2 := hec (i * 3 + 2) (by rw [hfl3]; omega)
    rw [g1] at y0
    rw [g2] at y1
    rw [g3] at y2
    rw [hget] at hG
    rw [← Nat.add_assoc] at y1 y2
    obtain ⟨mn, hmn⟩ : ∃ n, (Ud.mr T).length = n := ⟨_, rfl⟩
    rw [hmn] at him hle hata
    have HMN := Lib.hid hmn
    obtain ⟨fn, hfn⟩ : ∃ n, (Ud.full T r.1).length = n := ⟨_, rfl⟩
    obtain ⟨rn, hrn⟩ : ∃ n, r.2.2.length = n := ⟨_, rfl⟩
    obtain ⟨pb, hpb⟩ : ∃ n, Md.prim T (C.mem S) r.1 = n := ⟨_, rfl⟩
    rw [hfn, hrn, hpb]
    rw [hfn] at y1
    rw [hrn] at y0
    rw [hpb] at y2
    have hiI : (i : Int) < mn := by omega
    have hi0 : (0 : Int) ≤ i := by omega
    have hiw : IntKind.u16.wrap ((i : Int) + 1 - 1) = i := by
      show ((i : Int) + 1 - 1) % 65536 = i
      omega
    have hiw2 : IntKind.u16.wrap (i : Int) = i := by
      show (i : Int) % 65536 = i
      omega
    have hne : ((i : Int) + 1 == 0) = false := by simp; omega
    have hne2 : decide ((i : Int) + 1 = 0) = false := by simp; omega
    have HS1 := Lib.hid hs1
    have HS2 := Lib.hid hs2
    clear hs1 hs2 g1 g2 g3 hec hents hpp hat hfind hget hisr hisp hrmp hfl hi ha hfl3 hata hatE hba hmn hfn hrn hpb hle hlen h hpos hrc
    go_enter Tryz.func61, Tryz.ntmps61
    go_wp2_with fail
    refine hG.mono ?_
    rintro e w1 ⟨rfl, hb1⟩
    have HB1 := Lib.hid (HB.out.trans (hb1.mono HB.out.size))
    have hat1 := HAT.out.below hb1
    have hE1 := HE.out.below hb1
    have q4 := hat1.cell 4 rfl
    rw [HMN.out] at q4
    have q0 := (HB1.out.cell (p := ⟨eb, eo + i * 3, none⟩) heb).trans y0
    have q1 := (HB1.out.cell (p := ⟨eb, eo + i * 3 + 1, none⟩) heb).trans y1
    have q2 := (HB1.out.cell (p := ⟨eb, eo + i * 3 + 2, none⟩) heb).trans y2
    have hb1l := hat1.lt
    have hebl : eb < w1.heap.size := Nat.lt_of_lt_of_le heb HB1.out.size
    have hEl := hE1.lt
    obtain ⟨_, _, _, f0, f1, f2⟩ := hE1.three
    have HE1 := Lib.hid hE1
    clear hb1 z3 y0 y1 y2 hG hat1 hE1
    go_wp2_with fail
    have k1 := HE1.out.set 0 (.slice a.m rn a.mc)
    have k2 := k1.set 1 (.slice a.f fn a.fc)
    have k3 := k2.set 2 (.bool pb)
    have hbw := ((HB1.out.setCell (p := ⟨w.heap.size, 0, none⟩) (Nat.le_refl _) (.slice a.m rn a.mc)).setCell (p := ⟨w.heap.size, 1, none⟩) (Nat.le_refl _) (.slice a.f fn a.fc)).setCell (p := ⟨w.heap.size, 2, none⟩) (Nat.le_refl _) (.bool pb)
    exact bodyPost_ret (results_cell_row2 rfl _ _ w.heap.size _ _ _ _ rfl k3 Tryz.underlying81 rfl (by kernel_rfl)) rfl ⟨a.m, a.mc, a.f, a.fc, rfl, HS1.out.below hbw hbw.size, HS2.out.below hbw hbw.size, hbw⟩
  · have hisr : Ud.isr T c = false := by unfold Ud.isr; rw [hrm]; rfl
    have hfl : Ud.fl T c = [] := by unfold Ud.fl; rw [if_neg (by rw [hisr]; simp)]
    have hisp : Ud.isp T S c = false := by unfold Ud.isp; rw [hisr]; rfl
    unfold Ud.RetFind
    rw [hisr, hrm, hfl, hisp]
    rw [hget] at hG
    clear hents hpp hat hget hisr hisp hfl hata hatE hba hlen h hrm
    go_enter Tryz.func61, Tryz.ntmps61
    go_wp2_with fail
    refine hG.mono ?_
    rintro e w1 ⟨rfl, hb1⟩
    have HB1 := Lib.hid (HB.out.trans (hb1.mono HB.out.size))
    have hE1 := HE.out.below hb1
    have hEl := hE1.lt
    obtain ⟨_, _, _, f0, f1, f2⟩ := hE1.three
    have HE1 := Lib.hid hE1
    clear hb1 z3 hG hE1
    go_wp2_with fail
    have k1 := HE1.out.set 0 (.slice none 0 0)
    have k2 := k1.set 1 (.slice none 0 0)
    have k3 := k2.set 2 (.bool false)
    have hbw := ((HB1.out.setCell (p := ⟨w.heap.size, 0, none⟩) (Nat.le_refl _) (.slice none 0 0)).setCell (p := ⟨w.heap.size, 1, none⟩) (Nat.le_refl _) (.slice none 0 0)).setCell (p := ⟨w.heap.size, 2, none⟩) (Nat.le_refl _) (.bool false)
    exact bodyPost_ret (results_cell_row2 rfl _ _ w.heap.size _ _ _ _ rfl k3 Tryz.underlying81 rfl (by kernel_rfl)) rfl ⟨none, 0, none, 0, rfl, Sl.nil _ _ _, Sl.nil _ _ _, hbw⟩

set_option maxRecDepth 100000 in
set_option maxHeartbeats 1000000 in
theorem Ud.plain_any (v : Value) (T : List Rw.Row) (S : List Int) (c : Int) (w : World) (ok : Ud.Ok T S) (h : Ud.Is w v T S) (h3 : -2147483648 ≤ c) (h4 : c ≤ 2147483647) :
    Calls Tryz.prog 50 #[v, .int .i32 c] w fun e w' => e = .returned (.bool (decide (Md.mp T c = []))) ∧ Below w.heap.size w w' := by
  have hF := Ud.find_any v T S c w ok h
  obtain ⟨q, hq⟩ : ∃ q, decide (Md.mp T c = []) = q := ⟨_, rfl⟩
  obtain ⟨k, hk⟩ : ∃ k, Hg.ofK c = k := ⟨_, rfl⟩
  have hQ : q = (!Ud.isr T c && decide (k < 4)) := by
    rw [← hq, ← hk, Bool.eq_iff_iff, decide_eq_true_iff, ← Ud.plain_mp, Bool.and_eq_true, decide_eq_true_iff]
    unfold Ud.isr
    cases Md.rmp T c <;> simp
  have hK := Ud.kind_le c
  have HO := Lib.hid (fun W => Hg.of_any c W h3 h4)
  rw [hk] at HO hK
  rw [hq, hQ]
  unfold Ud.RetFind at hF
  obtain ⟨z, hz⟩ : ∃ z, Ud.isr T c = z := ⟨_, rfl⟩
  obtain ⟨fn, hfn⟩ : ∃ z, (Ud.fl T c).length = z := ⟨_, rfl⟩
  obtain ⟨rn, hrn⟩ : ∃ z, (Md.rmp T c).length = z := ⟨_, rfl⟩
  obtain ⟨pb, hpb⟩ : ∃ z, Ud.isp T S c = z := ⟨_, rfl⟩
  rw [hz, hfn, hrn, hpb] at hF
  rw [hz]
  clear hz hfn hrn hpb hQ hq hk h ok h3 h4
  have HF := Lib.hid hF
  clear hF
  go_enter Tryz.func50, Tryz.ntmps50
  go_wp2_with fail
  refine HF.out.mono ?_
  rintro e w1 ⟨m, mc, f, fc, rfl, _, _, hb1⟩
  have HB := Lib.hid (hb1.alloc hb1.size (.cells #[.slice m rn mc, .slice f fn fc, .bool pb] 81))
  clear hb1
  cases z
  · by_cases hk4 : k < 4
    · go_wp2_with (go_at_call 81; refine (HO.out _).mono ?_; rintro e w' ⟨rfl, rfl⟩)
      go_ret
      exact ⟨by simp [hk4], HB.out⟩
    · go_wp2_with (go_at_call 81; refine (HO.out _).mono ?_; rintro e w' ⟨rfl, rfl⟩)
      go_ret
      exact ⟨by simp [hk4], HB.out⟩
  · go_wp2_with (fail)
    go_ret
    exact ⟨rfl, HB.out⟩

def Hg.begins (c : Int) (n : Nat) : List Int := (List.range n).map (fun i : Nat => 44032 + (c - 4352) * 588 + (i : Int))
theorem Hg.begins_succ (c : Int) (n : Nat) : Hg.begins c (n + 1) = Hg.begins c n ++ [44032 + (c - 4352) * 588 + (n : Int)] := by
  unfold Hg.begins; rw [List.range_succ, List.map_append]; rfl
theorem Hg.begins_len (c : Int) (n : Nat) : (Hg.begins c n).length = n := by unfold Hg.begins; simp

theorem Hg.lits : Hg.splitK 44033 = [4352, 4449, 4520] ∧ Hg.pairK 44033 = (44032, 4520, true) := by decide

theorem Ud.fullT_le {T : List Rw.Row} {S : List Int} (ok : Ud.Ok T S) (c : Int) : (Ud.full T c).length ≤ 32 := by
  obtain ⟨l, hl⟩ := Md.full_some ok.chk c
  unfold Ud.full
  rw [hl]
  exact (Md.full_none hl).2.2.1

set_option maxRecDepth 100000 in
set_option maxHeartbeats 1000000 in
theorem Ud.full_any (v : Value) (T : List Rw.Row) (S : List Int) (c : Int) (w : World) (ok : Ud.Ok T S) (h : Ud.Is w v T S) (h3 : -2147483648 ≤ c) (h4 : c ≤ 2147483647) :
    Calls Tryz.prog 17 #[v, .int .i32 c] w (RetInts .i32 (Ud.full T c) w) := by
  have hS := Hg.split_any c w h3 h4
  obtain ⟨s, hs⟩ : ∃ s, Hg.splitK c = s := ⟨_, rfl⟩
  rw [hs] at hS
  by_cases hne : s = []
  · subst hne
    have hF : ∀ W, Below w.heap.size w W → Calls Tryz.prog 61 #[v, .int .i32 c] W (Ud.RetFind T S c W) := fun W hW => Ud.find_any v T S c W ok (h.below hW)
    have hk := Ud.split_kind hs
    have hle := Ud.fullT_le ok c
    have hA : Ud.isr T c = true → Ud.fl T c = Ud.full T c := fun hz => by unfold Ud.fl; rw [if_pos hz]
    have hB : Ud.isr T c = false → Ud.full T c = [c] := fun hz => by
      refine Ud.full_one ?_ hk
      unfold Ud.isr at hz
      rw [decide_eq_false_iff_not] at hz
      exact List.eq_nil_of_length_eq_zero (by omega)
    obtain ⟨rn, hrn⟩ : ∃ z, (Md.rmp T c).length = z := ⟨_, rfl⟩
    obtain ⟨z, hz⟩ : ∃ z, Ud.isr T c = z := ⟨_, rfl⟩
    obtain ⟨fl, hfl⟩ : ∃ z, Ud.fl T c = z := ⟨_, rfl⟩
    obtain ⟨pb, hpb⟩ : ∃ z, Ud.isp T S c = z := ⟨_, rfl⟩
    obtain ⟨l, hl⟩ : ∃ z, Ud.full T c = z := ⟨_, rfl⟩
    unfold Ud.RetFind at hF
    rw [hz, hfl, hrn, hpb] at hF
    rw [hl] at hle ⊢
    rw [hz, hfl, hl] at hA
    rw [hz, hl] at hB
    have HF := Lib.hid hF
    have HA := Lib.hid hA
    have HB := Lib.hid hB
    clear hF hz hfl hl hpb h ok h3 h4 hA hB hs hk hrn
    go_enter Tryz.func17, Tryz.ntmps17
    go_wp2_with fail
    refine hS.mono ?_
    rintro e w0 ⟨A, cc, rfl, _, hb0⟩
    have hF0 := HF.out w0 hb0
    have HB0 := Lib.hid hb0
    clear hS hb0 HF
    go_wp2_with fail
    refine hF0.mono ?_
    rintro e w1 ⟨m, mc, f, fc, rfl, _, hsl, hb1⟩
    have hbn : Below w1.heap.size w1 (w1.alloc (.cells #[.slice m rn mc, .slice f fl.length fc, .bool pb] 81)) := (Below.refl _ _).alloc (Nat.le_refl _) _
    have hn := Rw.At.new w1 81 [.slice m rn mc, .slice f fl.length fc, .bool pb]
    have y1 := hn.cell 1 rfl
    have HB1 := Lib.hid (HB0.out.trans (hb1.mono HB0.out.size))
    have HB2 := Lib.hid (HB1.out.trans (hbn.mono HB1.out.size))
    have HSL := Lib.hid (hsl.below hbn hbn.size)
    clear hb1 hn hsl hbn hF0
    cases z
    · have hlc := HB.out rfl
      clear HB
      subst hlc
      clear y1 HA
      go_wp2_with fail
      go_ret
      have hh := heap_alloc_new (w1.alloc (.cells #[.slice m rn mc, .slice f fl.length fc, .bool pb] 81)) (.cells #[.int .i32 c] 21)
      rw [show (w1.alloc (.cells #[.slice m rn mc, .slice f fl.length fc, .bool pb] 81)).heap.size = w1.heap.size + 1 by simp] at hh
      exact ⟨_, _, rfl, Sl.lit rfl _ _ hh, HB2.out.alloc HB2.out.size _⟩
    · have hlc := HA.out rfl
      subst hlc
      have hC := R.clone_any f fl.length fc _ fl _ rfl (by omega) (Nat.le_refl _) HSL.out
      clear HA HB
      go_wp2_with fail
      refine hC.mono ?_
      rintro e w2 ⟨A', c', rfl, hown, hb2⟩
      have HO := Lib.hid (Sl.of_own hown)
      have HB3 := Lib.hid (HB2.out.trans (hb2.mono HB2.out.size))
      clear hown hb2 hC y1
      go_wp2_with fail
      go_ret
      exact ⟨A', c', rfl, HO.out, HB3.out⟩
  · have hfs := Ud.full_split ok (c := c) (by rw [hs]; exact hne)
    rw [hs] at hfs
    rw [hfs]
    have hpos : (0 : Int) < s.length := by
      have := List.length_pos_iff.2 hne
      omega
    clear hs hne hfs h ok h3 h4
    go_enter Tryz.func17, Tryz.ntmps17
    go_wp2_with fail
    refine hS.mono ?_
    rintro e w0 ⟨A, cc, rfl, hsl, hb0⟩
    have HSL := Lib.hid hsl
    have HB0 := Lib.hid hb0
    clear hS hb0 hsl
    go_wp2_with fail
    go_ret
    exact ⟨A, cc, rfl, HSL.out, HB0.out⟩

/-- What two are composed to. -/
def Ud.joinK (T : List Rw.Row) (S : List Int) (a b : Int) : Int × Bool :=
  if (Hg.joinK a b).2 = true then ((Hg.joinK a b).1, true) else ((Ud.joi T (C.mem S) T a b).getD 0, (Ud.joi T (C.mem S) T a b).isSome)
set_option maxRecDepth 100000 in
set_option maxHeartbeats 1000000 in
theorem Ud.join_any (v : Value) (T : List Rw.Row) (S : List Int) (a c : Int) (w : World) (ok : Ud.Ok T S) (h : Ud.Is w v T S) (h1 : -2147483648 ≤ a) (h2 : a ≤ 2147483647) (h3 : -2147483648 ≤ c) (h4 : c ≤ 2147483647) :
    Calls Tryz.prog 132 #[v, .int .i32 a, .int .i32 c] w fun e w' => e = .returned (.tuple #[.int .i32 (Ud.joinK T S a c).1, .bool (Ud.joinK T S a c).2]) ∧ Below w.heap.size w w' := by
  have hJ := Hg.join_any a c w h1 h2 h3 h4
  have hj : Ud.joinK T S a c = if (Hg.joinK a c).2 = true then ((Hg.joinK a c).1, true) else ((Ud.joi T (C.mem S) T a c).getD 0, (Ud.joi T (C.mem S) T a c).isSome) := rfl
  rcases hjk : Hg.joinK a c with ⟨x, is⟩
  rw [hjk] at hj hJ
  cases is
  · rw [if_neg (by simp)] at hj
    rw [hj]
    obtain ⟨b, A0, c0, XA, xc, pc, pp, A3, c3, mb, jb, A4, c4, A5, c5, A6, c6, es, rfl, hat, _, _, hpc, hpp, hents, _, hjoi, _⟩ := h.is
    obtain ⟨F, hF1, hF2⟩ := hjoi
    have hl := Ud.lookP hF1 ⟨h1, h2⟩ ⟨h3, h4⟩
    have e0 : F (Md.pk a c) = (Ud.joi T (C.mem S) T a c).map (Value.int .i32) := hF2 a c
    rw [e0] at hl
    have z6 := hat.cell 6 rfl
    have hbl := hat.lt
    obtain ⟨o, ho⟩ : ∃ o, Ud.joi T (C.mem S) T a c = o := ⟨_, rfl⟩
    rw [ho] at hl ⊢
    have e1 : (o.map (Value.int .i32)).getD (.int .i32 0) = .int .i32 (o.getD 0) := by cases o <;> rfl
    have e2 : (o.map (Value.int .i32)).isSome = o.isSome := by cases o <;> rfl
    rw [e1, e2] at hl
    obtain ⟨u, hu⟩ : ∃ u, o.getD 0 = u := ⟨_, rfl⟩
    obtain ⟨t, ht⟩ : ∃ t, o.isSome = t := ⟨_, rfl⟩
    rw [hu, ht] at hl ⊢
    clear hF1 hF2 e0 e1 e2 ho hu ht hents hpc hpp hat h ok hj hjk h1 h2 h3 h4
    go_enter Tryz.func132, Tryz.ntmps132
    go_wp2_with fail
    refine hJ.mono ?_
    rintro e w0 ⟨rfl, rfl⟩
    clear hJ
    go_wp2_with fail
    go_ret2
    exact ⟨rfl, Below.refl _ _⟩
  · rw [if_pos rfl] at hj
    rw [hj]
    clear h ok hj hjk h1 h2 h3 h4
    go_enter Tryz.func132, Tryz.ntmps132
    go_wp2_with fail
    refine hJ.mono ?_
    rintro e w0 ⟨rfl, rfl⟩
    clear hJ
    go_wp2_with fail
    go_ret2
    exact ⟨rfl, Below.refl _ _⟩

/-- All of a full decomposition are characters. -/
theorem Ud.full_isC {T : List Rw.Row} {S : List Int} (h : Ud.Ok T S) {a : Int} (ha : C.isC a = true) : ∀ y ∈ Ud.full T a, C.isC y = true := by
  obtain ⟨l, hl⟩ := Md.full_some h.chk a
  have hf : Ud.full T a = l := by unfold Ud.full; rw [hl]; rfl
  rw [hf]
  unfold Md.full at hl
  rw [Md.exp_lv _ _ _ _ (by simp)] at hl
  cases hv : Md.lv (Md.mp T) (T.length + 3) a with
  | none => rw [hv] at hl; cases hl
  | some b =>
    rw [hv, Option.bind_some] at hl
    unfold Md.fit at hl
    split at hl
    · simp only [List.nil_append, Option.some.injEq] at hl
      subst hl
      refine Md.lv_all (Q := fun y => C.isC y = true) (fun c d hd => ?_) _ _ _ hv ha
      unfold Md.mp at hd
      split at hd
      · rename_i hp
        rw [Ud.pair_kind] at hp
        simp only [decide_eq_true_eq] at hp
        have hk := Ud.kind_le c
        have hk2 : Hg.ofK c = 4 ∨ Hg.ofK c = 5 := by omega
        have hs := Hg.ofK_syl c hk2
        rcases hk2 with h4 | h5
        · rw [Hg.pairK_four c h4] at hd
          simp only [List.mem_cons, List.not_mem_nil, or_false] at hd
          unfold C.isC
          simp only [decide_eq_true_eq]
          omega
        · rw [Hg.pairK_five c h5] at hd
          simp only [List.mem_cons, List.not_mem_nil, or_false] at hd
          unfold C.isC
          simp only [decide_eq_true_eq]
          omega
      · unfold Md.rmp at hd
        cases hf : Md.find T c with
        | none => rw [hf] at hd; simp at hd
        | some r =>
          rw [hf] at hd
          exact ((h.good r (Md.find_some hf).1).2.2.2.2.2 d (by simpa using hd)).1
    · cases hl
theorem Ss.At.drew {w : World} {g sz : Nat} {Z : List Int} (h : Ss.At w g sz Z) : Ss.At w.drew g sz Z := h
def Ch.RetOwn (el : TypeId) (k : IntKind) (l : List Int) (w : World) (e : Ending) (w' : World) : Prop :=
  ∃ A c, e = .returned (.slice A l.length c) ∧ w'.ownsRow w.heap.size el 1 (.slice A l.length c) l.length (l.map (Value.int k)) ∧ Below w.heap.size w w'
theorem Ch.RetOwn.mk {el : TypeId} {k : IntKind} {l : List Int} {w w' : World} {v : Value} {m : Nat} {xs : List Value} (h : w'.ownsRow w.heap.size el 1 v m xs) (hm : m = l.length) (hx : xs = l.map (Value.int k)) (hb : Below w.heap.size w w') :
    Ch.RetOwn el k l w (.returned v) w' := by
  subst hm hx
  obtain ⟨A, c, rfl⟩ := own_form h
  exact ⟨A, c, rfl, h, hb⟩
/-- A character's line, with blanks and a note. -/
def Ex.ln (p : List UInt8) (i : Nat) (c : Int) : List UInt8 := (if i % 2 = 0 then [32, 32] else []) ++ (Fi.text c.toNat ++ ([32, 32, 35] ++ p))
def Ex.body (p : List UInt8) : Nat → List Int → List (List UInt8)
  | _, [] => []
  | i, c :: r => Ex.ln p i c :: [32, 32, 32] :: Ex.body p (i + 1) r
/-- The whole text's lines. -/
def Ex.all (p : List UInt8) (l : List Int) : List (List UInt8) := ([35, 32] ++ p) :: [] :: Ex.body p 0 l
theorem R.Kept.trans {ks : List Nat} {A B C : World} (h : R.Kept ks A B) (h' : R.Kept ks B C) : R.Kept ks A C := fun k hk o ho => h' k hk o (h k hk o ho)
theorem Md.DocO.set {w : World} {v : Value} {lo : Nat} {T : List Rw.Row} {E : List Int} (h : Md.DocO w v lo T E) {b : Nat} {cs : List Value} (hat : Rw.At w b 31 cs) (hb : b < lo) (i : Nat) (u : Value) : Md.DocO (w.setCell ⟨b, i, none⟩ u) v lo T E := by
  obtain ⟨A, c, XA, xc, ads, rfl, hl, ho, hm, mid, h1, h2, ha, hx⟩ := h
  exact ⟨A, c, XA, xc, ads, rfl, hl, Rw.own_grown ho hb (Rw.grown_set b i u), hm.grown (Rw.grown_set b i u) (by intro q hq; cases hq; exact hat.not (by decide)), mid, h1, by rw [World.size_setCell]; exact h2, ha, Rw.own_grown hx (by omega) (Rw.grown_set b i u)⟩
theorem Md.DocO.below {w w' : World} {v : Value} {lo : Nat} {T : List Rw.Row} {E : List Int} (h : Md.DocO w v lo T E) (hb : Below w.heap.size w w') : Md.DocO w' v lo T E := by
  obtain ⟨A, c, XA, xc, ads, rfl, hl, ho, hm, mid, h1, h2, ha, hx⟩ := h
  exact ⟨A, c, XA, xc, ads, rfl, hl, own_below ho hb (Nat.le_refl _), hm.below hb, mid, h1, Nat.le_trans h2 hb.size, ha, own_below hx hb (Nat.le_refl _)⟩
end Go.Proofs.YtbeakahjbkdeiaaGreatDoor
