/- slices.Concat at two rows of runes (slices.Grow at none), by walking their texts. -/
import Derived.Test.YtkmfegamblmpeaaGreatDoorClone
import Derived.Test.YtkmfegamblmpeaaGreatDoorUdPlain
import Derived.Lib.AppendZerosOnto
import Derived.Lib.SliceRun
import Derived.Test.YtkmfegamblmpeaaGreatDoorHangul
import Derived.Test.YtkmfegamblmpeaaGreatDoorUdLook
import Derived.Test.YtkmfegamblmpeaaGreatDoorSoOwn
import Derived.Test.YtkmfegamblmpeaaGreatDoorCpUtf
import Derived.Test.YtkmfegamblmpeaaGreatDoorStage
namespace Go.Proofs.YtkmfegamblmpeaaGreatDoor
open Go.RowKit
set_option linter.unusedSimpArgs false
set_option linter.unusedVariables false
/-- A row that may still have nothing. -/
def R.RetNew (w : World) (e : Ending) (w' : World) : Prop := ∃ A c, e = .returned (.slice A 0 c) ∧ w'.ownsRow w.heap.size 21 1 (.slice A 0 c) 0 [] ∧ Below w.heap.size w w'
theorem R.zeros (n : Nat) (z : Array Value) (h : z.size = 1) : (Builtin.zeroCells z n).size = n := by
  unfold Builtin.zeroCells
  simp [h]
set_option maxRecDepth 100000 in
set_option maxHeartbeats 2000000 in
theorem R.grow_nil (n : Nat) (w : World) (hn : n ≤ 2000000) : Calls Tryz.prog 76 #[.slice none 0 0, .int .i64 n] w (R.RetNew w) := by
  obtain ⟨i0, hi, hz0, hz1, hz2⟩ := info_parts infoRune
  by_cases h0 : n = 0
  · subst h0
    go_enter Tryz.func76, Tryz.ntmps76
    go_wp2_with fail
    go_ret
    exact ⟨none, 0, rfl, World.ownsRow_nil _ _ _ _, Below.refl _ _⟩
  · have h1 : ¬ ((n : Int) < 0) := by omega
    have h3 : wrap64 ((n : Int) - 0) = (n : Int) := by unfold wrap64; omega
    have h4 : ((n : Int) > 0) := by omega
    have hold : (Builtin.firstCells i0.size 0 (.slice none 0 0)).run Tryz.prog w.drew = .ok (([] : List Value).toArray) w.drew := run_firstCells_none w.drew i0.size 0 0 0
    have hrz : ∀ ty, (Builtin.append_ #[36, 3] ty #[.slice none 0 0, .int .i64 (n : Int)]).run Tryz.prog w =
        .ok (.slice (some ⟨w.heap.size, 0, none⟩) n (grownCap w n 0 21)) (w.drew.alloc (.cells (([] : List Value).toArray ++ Builtin.zeroCells (Value.int .i32 0).cells n ++ Builtin.zeroCells (Value.int .i32 0).cells (grownCap w n 0 21 - n)) 21)) := fun ty => by
      have h := Lib.run_append_grow_zeros w 36 3 ty 21 i0 (.int .i32 0) .i64 .i64 Tryz.underlying36 Tryz.underlying3 hi hz0 none 0 0 [] hold n (by omega) (by rw [hz1]; decide) (by omega) (by omega) (by rw [hz2]; omega)
        (by rw [hz2]; exact growslice_fits (by omega) (by omega))
      rw [Nat.zero_add] at h
      exact h
    have hG := grownCap_ge w n 0 21
    have hGm := grownCap_le_maxLen w n 0 21 (by simp only [maxLen]; omega)
    obtain ⟨G, hGe⟩ : ∃ G, grownCap w n 0 21 = G := ⟨_, rfl⟩
    rw [hGe] at hrz hG hGm
    obtain ⟨X, hX⟩ : ∃ X, ([] : List Value).toArray ++ Builtin.zeroCells (Value.int .i32 0).cells n ++ Builtin.zeroCells (Value.int .i32 0).cells (G - n) = X := ⟨_, rfl⟩
    have hXs : X.size = G := by
      rw [← hX, Array.size_append, Array.size_append, R.zeros n _ rfl, R.zeros _ _ rfl]
      simp
      omega
    rw [hX] at hrz
    have HX := Lib.hid hXs
    have HG := Lib.hid hGm
    clear hX hXs hGe hold hi hz0 hz1 hz2 hGm
    go_enter Tryz.func76, Tryz.ntmps76
    go_wp2_with (at_builtin; refine Lib.wpList_append_run _ rfl _ _ _ _ rfl _ _ rfl rfl _ _ (hrz _) ?_)
    all_goals (go_ret; refine ⟨_, _, rfl, ⟨rfl, .inr ⟨w.heap.size, G, X, rfl, Nat.le_refl _, ?_, Nat.zero_le _, HG.out, by rw [Nat.mul_one]; exact HX.out, rfl⟩⟩, (Below.refl _ _).drew.alloc (Nat.le_refl _) _⟩)
    all_goals exact heap_alloc_new w.drew (.cells X 21)

set_option maxRecDepth 100000 in
set_option maxHeartbeats 2000000 in
theorem R.concat_any (A0 A1 A2 : Option Addr) (c0 n1 c1 n2 c2 : Nat) (l1 l2 : List Int) (w : World) (h1 : l1.length = n1) (h2 : l2.length = n2) (hn1 : n1 ≤ 900000) (hn2 : n2 ≤ 900000)
    (hA : Sl w w.heap.size A0 [.slice A1 n1 c1, .slice A2 n2 c2]) (hA1 : Sl w w.heap.size A1 (l1.map (Value.int .i32))) (hA2 : Sl w w.heap.size A2 (l2.map (Value.int .i32))) :
    Calls Tryz.prog 47 #[.slice A0 2 c0] w fun e w' => ∃ A c, e = .returned (.slice A (n1 + n2) c) ∧ w'.ownsRow w.heap.size 21 1 (.slice A (n1 + n2) c) (n1 + n2) ((l1 ++ l2).map (Value.int .i32)) ∧ Below w.heap.size w w' := by
  obtain ⟨i0, hi, hz0, hz1, hz2⟩ := info_parts infoRune
  obtain ⟨b, o, rfl, hbl, hc⟩ := hA (by simp)
  have y0 := hc 0 (by simp)
  have y1 := hc 1 (by simp)
  simp only [List.getElem?_cons_zero, List.getElem?_cons_succ, Nat.add_zero] at y0 y1
  have HG := Lib.hid (R.grow_nil (n1 + n2) w (by omega))
  have H1 := Lib.hid h1
  have H2 := Lib.hid h2
  have HA1 := Lib.hid hA1
  have HA2 := Lib.hid hA2
  clear h1 h2 hA1 hA2 hA hc
  have hs1 : wrap64 (0 + (n1 : Int)) = n1 := by unfold wrap64; omega
  have hs2 : wrap64 ((n1 : Int) + n2) = ((n1 + n2 : Nat) : Int) := by unfold wrap64; omega
  have hg1 : ¬ ((n1 : Int) < 0) := by omega
  have hg2 : ¬ (((n1 + n2 : Nat) : Int) < 0) := by omega
  go_enter Tryz.func47, Tryz.ntmps47
  go_wp2_with fail
  go_loop [3, 11] (fun s i => (s = .int .i64 0 ∧ i = .int .i64 0) ∨ (s = .int .i64 n1 ∧ i = .int .i64 1) ∨ (s = .int .i64 ((n1 + n2 : Nat) : Int) ∧ i = .int .i64 2)) (fun _ i => 2 - (intOf i).toNat)
  case atStart => exact .inl ⟨rfl, rfl⟩
  case round =>
    have HR := Lib.hid hrel
    clear hrel
    rcases HR.out with ⟨rfl, rfl⟩ | ⟨rfl, rfl⟩ | ⟨rfl, rfl⟩
    · clear HR
      go_wp2_with fail
      exact ⟨.inr (.inl ⟨by go_num, by go_num⟩), by simp [intOf]⟩
    · clear HR
      go_wp2_with fail
      exact ⟨.inr (.inr ⟨by go_num, by go_num⟩), by simp [intOf]⟩
    · clear HR
      go_wp2_with fail
      refine HG.out.mono ?_
      rintro e w1 ⟨A, c, rfl, hown, hb1⟩
      have HO := Lib.hid hown
      have HB := Lib.hid hb1
      clear hown hb1 HG
      go_wp2_with fail
      go_loopw [6, 27] (fun v i wr => ((i = .int .i64 0 ∧ wr.ownsRow w.heap.size 21 1 v 0 []) ∨ (i = .int .i64 1 ∧ wr.ownsRow w.heap.size 21 1 v n1 (l1.map (Value.int .i32))) ∨ (i = .int .i64 2 ∧ wr.ownsRow w.heap.size 21 1 v (n1 + n2) ((l1 ++ l2).map (Value.int .i32)))) ∧ Below w.heap.size w wr) (fun _ i _ => 2 - (intOf i).toNat)
      case atStart => exact ⟨.inl ⟨rfl, HO.out⟩, HB.out⟩
      case round =>
        obtain ⟨hr, hbr⟩ := hrel
        have HR := Lib.hid hr
        have hsz := hbr.size
        have q0 := (hbr.cell (p := ⟨b, o, none⟩) hbl).trans y0
        have q1 := (hbr.cell (p := ⟨b, o + 1, none⟩) hbl).trans y1
        have hbr2 : b < wr.heap.size := by omega
        have HA1r := Lib.hid (HA1.out.below hbr hsz)
        have HA2r := Lib.hid (HA2.out.below hbr hsz)
        have HBR := Lib.hid hbr
        clear hr hbr y0 y1
        rcases HR.out with ⟨rfl, hown⟩ | ⟨rfl, hown⟩ | ⟨rfl, hown⟩
        · clear HR
          have HOW := Lib.hid hown
          obtain ⟨A6, c6, rfl⟩ := own_form hown
          clear hown
          go_wp2_with (at_builtin; refine wpList_appendSl _ rfl _ _ _ rfl w.heap.size 21 i0 _ 1 4 Tryz.underlying36 hi hz0 hz1 hz2 rfl (by omega) _ 0 _ rfl HOW.out _ A1 n1 c1 (l1.map (Value.int .i32)) rfl (by rw [List.length_map, H1.out]; omega) HA1r.out (fun q hq => by obtain ⟨z, _, rfl⟩ := List.mem_map.1 hq; rfl) (by simp only [maxLen]; omega) (by omega) hsz ?_; intro v1 w5 hown5 hb5 hgrow)
          exact ⟨⟨.inr (.inl ⟨by go_num, by rw [Nat.zero_add, List.nil_append] at hown5; exact hown5⟩), HBR.out.trans hb5⟩, by simp [intOf]⟩
        · clear HR
          have HOW := Lib.hid hown
          obtain ⟨A6, c6, rfl⟩ := own_form hown
          clear hown
          go_wp2_with (at_builtin; refine wpList_appendSl _ rfl _ _ _ rfl w.heap.size 21 i0 _ 1 4 Tryz.underlying36 hi hz0 hz1 hz2 rfl (by omega) _ n1 _ rfl HOW.out _ A2 n2 c2 (l2.map (Value.int .i32)) rfl (by rw [List.length_map, H2.out]; omega) HA2r.out (fun q hq => by obtain ⟨z, _, rfl⟩ := List.mem_map.1 hq; rfl) (by simp only [maxLen]; omega) (by omega) hsz ?_; intro v1 w5 hown5 hb5 hgrow)
          exact ⟨⟨.inr (.inr ⟨by go_num, by rw [List.map_append]; exact hown5⟩), HBR.out.trans hb5⟩, by simp [intOf]⟩
        · clear HR
          have HOW := Lib.hid hown
          obtain ⟨A6, c6, rfl⟩ := own_form hown
          clear hown
          go_wp2_with fail
          go_ret
          exact ⟨A6, c6, rfl, HOW.out, HBR.out⟩
end Go.Proofs.YtkmfegamblmpeaaGreatDoor

/- The layer hangul: Begins, the fixed fact, and the laws' walks. -/
namespace Go.Proofs.YtkmfegamblmpeaaGreatDoor
open Go.RowKit
set_option linter.unusedSimpArgs false
set_option linter.unusedVariables false

def Hg.begins (c : Int) (n : Nat) : List Int := (List.range n).map (fun i : Nat => 44032 + (c - 4352) * 588 + (i : Int))
theorem Hg.begins_succ (c : Int) (n : Nat) : Hg.begins c (n + 1) = Hg.begins c n ++ [44032 + (c - 4352) * 588 + (n : Int)] := by
  unfold Hg.begins; rw [List.range_succ, List.map_append]; rfl
theorem Hg.begins_len (c : Int) (n : Nat) : (Hg.begins c n).length = n := by unfold Hg.begins; simp

set_option maxHeartbeats 400000 in
theorem Hg.begins_no (c : Int) (w : World) (h1 : -2147483648 ≤ c) (h2 : c ≤ 2147483647) (h : ¬ Hg.ofK c = 1) :
    Calls Tryz.prog 48 #[.int .i32 c] w (RetInts .i32 [] w) := by
  have hb : (Hg.ofK c != 1) = true := by simpa using h
  clear h
  go_enter Tryz.func48, Tryz.ntmps48
  go_wp2_with (go_at_call 42; refine (Hg.of_any _ _ h1 h2).mono ?_; rintro e w' ⟨rfl, rfl⟩)
  go_ret
  exact ⟨_, _, rfl, Sl.nil _ _ _, Below.refl _ _⟩

set_option maxHeartbeats 400000 in
theorem Hg.begins_yes (c : Int) (w : World) (h1 : -2147483648 ≤ c) (h2 : c ≤ 2147483647) (h : Hg.ofK c = 1) :
    Calls Tryz.prog 48 #[.int .i32 c] w (RetInts .i32 (Hg.begins c 588) w) := by
  have hl := Hg.ofK_lead c h
  obtain ⟨hl1, hl2⟩ := hl
  have hb : (Hg.ofK c != 1) = false := by rw [h]; rfl
  clear h
  obtain ⟨i0, hi, hz0, hz1, hz2⟩ := info_parts infoRune
  go_enter Tryz.func48, Tryz.ntmps48
  go_wp2_with (go_at_call 42; refine (Hg.of_any _ _ h1 h2).mono ?_; rintro e w' ⟨rfl, rfl⟩)
  go_loopw [3, 8] (fun v i wr => ∃ k : Nat, k ≤ 588 ∧ i = .int .i32 k ∧ wr.ownsRow w.heap.size 21 1 v k ((Hg.begins c k).map (Value.int .i32)) ∧ Below w.heap.size w wr) (fun _ i _ => 588 - (intOf i).toNat)
  case atStart => exact ⟨0, by omega, rfl, World.ownsRow_nil _ _ _ _, Below.refl _ _⟩
  case round =>
    obtain ⟨k, hk, rfl, hown, hbel⟩ := hrel
    have hsz := hbel.size
    by_cases hlt : (k : Int) < 588
    · go_wp2_with (at_builtin; refine wpList_push1 _ rfl _ _ _ rfl w.heap.size 21 i0 _ 4 Tryz.underlying36 hi hz0 hz1 hz2 rfl _ k _ rfl hown _ rfl rfl (by simp only [maxLen]; omega) (by omega) hsz ?_; intro v1 w1 hown1 hb1)
      go_roundw
      case rel =>
        refine ⟨k + 1, by omega, by go_num, ?_, hbel.trans hb1⟩
        rw [Hg.begins_succ, List.map_append]
        exact hown1
      case measure => simp [intOf]; omega
    · obtain rfl : k = 588 := by omega
      go_wp2
      go_ret
      exact RetInts.of_own hown (Hg.begins_len _ _).symm rfl hbel

end Go.Proofs.YtkmfegamblmpeaaGreatDoor

/- The characters whose full decomposition begins so, by walking the text. -/
namespace Go.Proofs.YtkmfegamblmpeaaGreatDoor
open Go.RowKit
set_option linter.unusedSimpArgs false
set_option linter.unusedVariables false
def Ud.syls (c : Int) : List Int := if Hg.ofK c = 1 then Hg.begins c 588 else []
def Ud.alone (T : List Rw.Row) (c : Int) : Bool := C.isC c && decide (Md.mp T c = [])
/-- What begins with a character, rising. -/
def Ud.begs (T : List Rw.Row) (c : Int) : List Int := (if Ud.alone T c = true then Ud.beg T T c ++ Ud.syls c ++ [c] else Ud.beg T T c ++ Ud.syls c).mergeSort fun x y => decide (x ≤ y)
theorem Ud.syls_any (c : Int) (w : World) (h1 : -2147483648 ≤ c) (h2 : c ≤ 2147483647) : Calls Tryz.prog 48 #[.int .i32 c] w (RetInts .i32 (Ud.syls c) w) := by
  unfold Ud.syls
  by_cases h : Hg.ofK c = 1
  · rw [if_pos h]; exact Hg.begins_yes c w h1 h2 h
  · rw [if_neg h]; exact Hg.begins_no c w h1 h2 h
theorem Ud.syls_len (c : Int) : (Ud.syls c).length ≤ 588 := by
  unfold Ud.syls
  split
  · rw [Hg.begins_len]; exact Nat.le_refl _
  · simp
theorem Ud.beg_len (T R : List Rw.Row) (c : Int) : (Ud.beg T R c).length ≤ R.length := by
  unfold Ud.beg
  rw [List.length_map]
  exact Nat.le_trans (List.length_filter_le _ _) (List.length_filter_le _ _)

set_option maxRecDepth 100000 in
set_option maxHeartbeats 4000000 in
theorem Ud.begins_any (v : Value) (T : List Rw.Row) (S : List Int) (c : Int) (w : World) (ok : Ud.Ok T S) (h : Ud.Is w v T S) (h3 : -2147483648 ≤ c) (h4 : c ≤ 2147483647) :
    Calls Tryz.prog 20 #[v, .int .i32 c] w (Md.RetOwn (Ud.begs T c) w) := by
  obtain ⟨i0, hi, hz0, hz1, hz2⟩ := info_parts infoRune
  have HPL := Lib.hid (fun W (hW : Below w.heap.size w W) => Ud.plain_any v T S c W ok (h.below hW) h3 h4)
  obtain ⟨b, A0, c0, XA, xc, pc, pp, A3, c3, mb, jb, A4, c4, A5, c5, A6, c6, es, rfl, hat, _, _, hpc, hpp, hents, hbeg, _⟩ := h.is
  obtain ⟨F, hF1, hF2⟩ := hbeg
  have hgl := Ud.syls_len c
  have hbl := Nat.le_trans (Ud.beg_len T T c) ok.len
  have hsy := fun W => Ud.syls_any c W h3 h4
  have hui := fun W => C.utfis_any c W
  have hsorted : Ud.begs T c = (if Ud.alone T c = true then Ud.beg T T c ++ Ud.syls c ++ [c] else Ud.beg T T c ++ Ud.syls c).mergeSort fun x y => decide (x ≤ y) := rfl
  have hal : Ud.alone T c = (C.isC c && decide (Md.mp T c = [])) := rfl
  obtain ⟨bl, hble⟩ : ∃ l, Ud.beg T T c = l := ⟨_, rfl⟩
  obtain ⟨gl, hgle⟩ : ∃ l, Ud.syls c = l := ⟨_, rfl⟩
  obtain ⟨al, hale⟩ : ∃ l, Ud.alone T c = l := ⟨_, rfl⟩
  obtain ⟨ic, hic⟩ : ∃ l, C.isC c = l := ⟨_, rfl⟩
  obtain ⟨pl, hpl⟩ : ∃ l, decide (Md.mp T c = []) = l := ⟨_, rfl⟩
  obtain ⟨rl, hrl⟩ : ∃ l, Ud.begs T c = l := ⟨_, rfl⟩
  have hF2c := hF2 c
  rw [hble] at hF2c hbl hsorted
  rw [hgle] at hgl hsorted
  rw [hale] at hal hsorted
  rw [hic, hpl] at hal
  rw [hrl] at hsorted
  rw [hpl] at HPL
  simp only [hgle] at hsy
  simp only [hic] at hui
  rw [hrl]
  obtain ⟨bn, hbn⟩ : ∃ n, bl.length = n := ⟨_, rfl⟩
  obtain ⟨A1, c1, hv, hs1⟩ : ∃ A1 c1, (F (.int .i32 c)).getD (.slice none 0 0) = .slice A1 bn c1 ∧ Sl w w.heap.size A1 (bl.map (Value.int .i32)) := by
    rcases hF2c with ⟨h1, h2⟩ | ⟨A, cap, h1, h2⟩
    · refine ⟨none, 0, ?_, ?_⟩
      · rw [h2, ← hbn, h1]; rfl
      · rw [h1]; exact Sl.nil _ _ _
    · exact ⟨A, cap, by rw [h1, ← hbn]; rfl, h2⟩
  have z5 := hat.cell 5 rfl
  have hblt := hat.lt
  have HM := Lib.hid hF1
  have HS1 := Lib.hid hs1
  have HSY := Lib.hid hsy
  have HUI := Lib.hid hui
  have HBN := Lib.hid hbn
  have HSORT := Lib.hid hsorted
  have HV := Lib.hid hv
  have HC : Hid (-2147483648 ≤ c ∧ c ≤ 2147483647) := Lib.hid ⟨h3, h4⟩
  rw [hbn] at hbl
  clear hF1 hF2 hF2c hs1 hsy hui hbn hsorted hrl hic hpl hale hgle hble hpc hpp hents h ok h3 h4 hat hv
  go_enter Tryz.func20, Tryz.ntmps20
  go_wp2_with fail
  refine Stg.wp_region Stg.Ex Stg.Ex.rel (by kernel_rfl) (by kernel_rfl) (by kernel_rfl) ?_
  have e5 := Stg.cells (w := w.drew) z5 hblt
  have e7 : ∀ x : Stg.Later Stg.Ex w.drew, (Instr.lookup 73 (.map (some mb)) (.int .i32 c) false).run Tryz.prog x.val = .ok (.slice A1 bn c1) x.val := fun x => Ud.look32 ((HM.out.below (Below.refl _ _).drew).below x.rel) HC.out HV.out
  refine Stg.readW (by kernel_rfl) (by kernel_rfl) (by kernel_rfl) ?_; intro K hK; go_big_quiet_op; go_big_quiet_on
  refine Stg.read 0 (by kernel_rfl) (by kernel_rfl) (by kernel_rfl) w.drew rfl (by kernel_rfl) ?_; intro K hK; go_big_quiet_op; go_big_quiet_on
  refine Stg.readW (by kernel_rfl) (by kernel_rfl) (by kernel_rfl) ?_; intro K hK; go_big_quiet_op; go_big_quiet_on
  refine Stg.read 0 (by kernel_rfl) (by kernel_rfl) (by kernel_rfl) w.drew rfl (by kernel_rfl) ?_; intro K hK; go_big_quiet_op; go_big_quiet_on
  refine Stg.readW (by kernel_rfl) (by kernel_rfl) (by kernel_rfl) ?_; intro K hK; go_big_quiet_op; go_big_quiet_on
  refine Stg.read 0 (by kernel_rfl) (by kernel_rfl) (by kernel_rfl) w.drew rfl (by kernel_rfl) ?_; intro K hK; go_big_quiet_op; go_big_quiet_on
  refine Stg.readW (by kernel_rfl) (by kernel_rfl) (by kernel_rfl) ?_; intro K hK; go_big_quiet_op; go_big_quiet_on
  refine Stg.call 48 _ _ rfl (C.enter Tryz.func48 (by kernel_rfl) rfl) [.int .i32 c] rfl w.drew _ (HSY.out w.drew) (by kernel_rfl) rfl (by kernel_rfl) ?_
  rintro e q1 ⟨A2, c2, rfl, hs2, hb1⟩
  refine ⟨_, rfl, hb1, ?_⟩
  intro A' hA'
  simp only [Act.put, List.setIfInBounds_toArray, List.set_cons_succ, List.set_cons_zero] at hA'
  subst hA'
  have hb1w : Below w.heap.size w q1 := (Below.refl _ _).drew.trans hb1
  refine Stg.stepW q1 (by kernel_rfl) (by kernel_rfl) rfl (by kernel_rfl) ?_; intro K hK; go_simp
  obtain ⟨q2, hq2⟩ : ∃ q2, q1.alloc (.cells #[.slice A1 bn c1, .slice A2 gl.length c2] 36) = q2 := ⟨_, rfl⟩
  have hbq : Below q1.heap.size q1 q2 := by rw [← hq2]; exact (Below.refl _ _).alloc (Nat.le_refl _) _
  have hsq : Sl q2 q2.heap.size (some ⟨q1.heap.size, 0, none⟩) [.slice A1 bn c1, .slice A2 gl.length c2] := by rw [← hq2]; exact Sl.lit rfl _ _ (heap_alloc_new _ _)
  refine hK _ _ (by rw [hq2]; exact hbq) ?_
  rw [hq2]
  intro A' hA'
  subst hA'
  have hb2w := hb1w.trans (hbq.mono hb1w.size)
  have hcc := R.concat_any (some ⟨q1.heap.size, 0, none⟩) A1 A2 2 bn c1 gl.length c2 bl gl q2 HBN.out rfl (by omega) (by omega) hsq (HS1.out.below hb2w hb2w.size) (hs2.below hbq hbq.size)
  refine Stg.call 47 _ _ rfl (C.enter Tryz.func47 (by kernel_rfl) rfl) [.slice (some ⟨q1.heap.size, 0, none⟩) 2 2] rfl q2 _ hcc (by kernel_rfl) rfl (by kernel_rfl) ?_
  rintro e q3 ⟨A3, c3, rfl, hown, hb3⟩
  refine ⟨_, rfl, hb3, ?_⟩
  intro A' hA'
  simp only [Act.put, List.setIfInBounds_toArray, List.set_cons_succ, List.set_cons_zero] at hA'
  subst hA'
  refine Stg.readW (by kernel_rfl) (by kernel_rfl) (by kernel_rfl) ?_; intro K hK; go_big_quiet_op; go_big_quiet_on
  refine Stg.nil q3 rfl ?_
  have HB3 := Lib.hid (hb2w.trans (hb3.mono hb2w.size))
  have HOWN := Lib.hid (own_base hown hb2w.size)
  clear hcc hown hb3 hb2w hsq hbq hq2 hb1w hs2 hb1 e5 e7 z5 HSY HV HM
  have hPL := HPL.out q3 HB3.out
  cases ic
  · have hale : al = false := hal
    subst hale
    clear hal hPL
    obtain ⟨ol, hol⟩ : ∃ l, bl ++ gl = l := ⟨_, rfl⟩
    obtain ⟨on, hon⟩ : ∃ n, bn + gl.length = n := ⟨_, rfl⟩
    have hlen : ol.length = on := by rw [← hol, ← hon, List.length_append, HBN.out]
    rw [hol, hon] at HOWN
    rw [hol] at HSORT
    rw [hon]
    have hSO := fun W (hW : w.heap.size ≤ W.heap.size) h => R.sort_any (.slice A3 on c3) w.heap.size 21 on ol W hlen (by omega) h hW
    have HSO := Lib.hid hSO
    clear hSO hol hon
    go_wp2_with (go_at_call 49; refine (HUI.out _).mono ?_; rintro e w' ⟨rfl, rfl⟩)
    refine (HSO.out _ HB3.out.size HOWN.out).mono ?_
    rintro e q4 ⟨rfl, hown4, hb4⟩
    have HB4 := Lib.hid (HB3.out.trans hb4)
    have HOWN4 := Lib.hid hown4
    clear hown4 hb4
    go_wp2_with fail
    go_ret
    have hrr := HSORT.out
    rw [if_neg (by simp)] at hrr
    rw [← hrr] at HOWN4
    have hrl2 : rl.length = on := by rw [hrr, List.length_mergeSort, hlen]
    refine ⟨A3, c3, by rw [hrl2]; rfl, ?_, HB4.out⟩
    rw [hrl2]
    exact HOWN4.out
  · have hale : al = pl := hal
    subst hale
    clear hal
    have HPL3 := Lib.hid hPL
    clear hPL
    cases al
    · obtain ⟨ol, hol⟩ : ∃ l, bl ++ gl = l := ⟨_, rfl⟩
      obtain ⟨on, hon⟩ : ∃ n, bn + gl.length = n := ⟨_, rfl⟩
      have hlen : ol.length = on := by rw [← hol, ← hon, List.length_append, HBN.out]
      rw [hol, hon] at HOWN
      rw [hol] at HSORT
      rw [hon]
      have hSO := fun W (hW : w.heap.size ≤ W.heap.size) h => R.sort_any (.slice A3 on c3) w.heap.size 21 on ol W hlen (by omega) h hW
      have HSO := Lib.hid hSO
      clear hSO hol hon
      go_wp2_with (first | (go_at_call 49; refine (HUI.out _).mono ?_; rintro e w' ⟨rfl, rfl⟩) | (go_at_call 17; refine HPL3.out.mono ?_; rintro e q5 ⟨rfl, hb5⟩))
      have HB5 := Lib.hid (HB3.out.trans (hb5.mono HB3.out.size))
      have HOWN5 := Lib.hid (own_below HOWN.out hb5 (Nat.le_refl _))
      clear hb5
      refine (HSO.out _ HB5.out.size HOWN5.out).mono ?_
      rintro e q4 ⟨rfl, hown4, hb4⟩
      have HB4 := Lib.hid (HB5.out.trans hb4)
      have HOWN4 := Lib.hid hown4
      clear hown4 hb4
      go_wp2_with fail
      go_ret
      have hrr := HSORT.out
      rw [if_neg (by simp)] at hrr
      rw [← hrr] at HOWN4
      have hrl2 : rl.length = on := by rw [hrr, List.length_mergeSort, hlen]
      refine ⟨A3, c3, by rw [hrl2]; rfl, ?_, HB4.out⟩
      rw [hrl2]
      exact HOWN4.out
    · obtain ⟨ol, hol⟩ : ∃ l, bl ++ gl = l := ⟨_, rfl⟩
      obtain ⟨on, hon⟩ : ∃ n, bn + gl.length = n := ⟨_, rfl⟩
      have hlen : ol.length = on := by rw [← hol, ← hon, List.length_append, HBN.out]
      rw [hol, hon] at HOWN
      rw [hol] at HSORT
      rw [hon]
      have hlen2 : (ol ++ [c]).length = on + 1 := by rw [List.length_append, hlen]; rfl
      have hSO := fun v W (hW : w.heap.size ≤ W.heap.size) h => R.sort_any v w.heap.size 21 (on + 1) (ol ++ [c]) W hlen2 (by omega) h hW
      have HSO := Lib.hid hSO
      have hon2 : on ≤ 20000 := by omega
      clear hSO hol hon
      go_wp2_with (first | (go_at_call 49; refine (HUI.out _).mono ?_; rintro e w' ⟨rfl, rfl⟩) | (go_at_call 17; refine HPL3.out.mono ?_; rintro e q5 ⟨rfl, hb5⟩; have HB5 := Lib.hid (HB3.out.trans (hb5.mono HB3.out.size)); have HOWN5 := Lib.hid (own_below HOWN.out hb5 (Nat.le_refl _)); clear hb5) | (at_builtin; refine wpList_push1 _ rfl _ _ _ rfl w.heap.size 21 i0 _ 4 Tryz.underlying36 hi hz0 hz1 hz2 rfl _ on _ rfl HOWN5.out _ rfl rfl (by simp only [maxLen]; omega) (by omega) HB5.out.size ?_; intro v1 w6 hown6 hb6; obtain ⟨A7, c7, rfl⟩ := own_form hown6; have HB6 := Lib.hid (HB5.out.trans hb6); have HOWN6 := Lib.hid hown6; clear hown6 hb6))
      have hown7 := HOWN6.out
      rw [← List.map_singleton (f := Value.int .i32), ← List.map_append] at hown7
      refine (HSO.out _ _ HB6.out.size hown7).mono ?_
      rintro e q4 ⟨rfl, hown4, hb4⟩
      have HB4 := Lib.hid (HB6.out.trans hb4)
      have HOWN4 := Lib.hid hown4
      clear hown4 hb4 hown7
      go_wp2_with fail
      go_ret
      have hrr := HSORT.out
      rw [if_pos trivial] at hrr
      rw [← hrr] at HOWN4
      have hrl2 : rl.length = on + 1 := by rw [hrr, List.length_mergeSort, hlen2]
      refine ⟨A7, c7, by rw [hrl2]; rfl, ?_, HB4.out⟩
      rw [hrl2]
      exact HOWN4.out
end Go.Proofs.YtkmfegamblmpeaaGreatDoor
