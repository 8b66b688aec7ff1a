/- The layer field: Hex, by walking its text. -/
import Derived.Test.YtkmfegamblmpeaaGreatDoorFiBits
import Derived.Test.YtkmfegamblmpeaaGreatDoorShelf
import Derived.Lib.Case
import Derived.Lib.Repeat
import Derived.Lib.SplitLaws
import Derived.Lib.IndexBytes
import Derived.Lib.CutLaws
import Derived.Lib.TrimByte
namespace Go.Proofs.YtkmfegamblmpeaaGreatDoor
open Go.RowKit Go.Stop
set_option linter.unusedSimpArgs false
set_option linter.unusedVariables false

theorem Fi.val_lt (l : List UInt8) (hg : Fi.good l = true) (i : Nat) (hi : i ≤ 6) : 0 ≤ Fi.val (l.take i) ∧ Fi.val (l.take i) < 16777216 := by
  have hg' : Fi.good (l.take i) = true := by
    simp only [Fi.good, List.all_eq_true] at hg ⊢
    exact fun x hx => hg x (List.mem_of_mem_take hx)
  obtain ⟨h0, h1, _⟩ := Fi.low_val _ hg'
  have : (16 : Nat) ^ (l.take i).length ≤ 16 ^ 6 := Nat.pow_le_pow_right (by decide) (by rw [List.length_take]; omega)
  clear hg hg'
  have e : (16 : Nat) ^ 6 = 16777216 := by decide
  rw [e] at this
  exact ⟨h0, by omega⟩

def Fi.RetHex (l : List UInt8) (e : Ending) : Prop := e = .returned (.tuple #[.int .i32 ((Fi.hex l).getD 0), .bool (Fi.hex l).isSome])

theorem Fi.long_no {l : List UInt8} (h : Fi.long l = false) : Fi.hex l = none := by unfold Fi.hex; rw [h]; rfl

theorem Fi.good_no {l : List UInt8} (h : ¬ Fi.good l = true) : Fi.hex l = none := by unfold Fi.hex; rw [Bool.not_eq_true] at h; rw [h, Bool.false_and, Bool.and_false]; rfl
theorem Fi.good_take {l : List UInt8} (h : Fi.good l = true) (i : Nat) : Fi.good (l.take i) = true := by
  simp only [Fi.good, List.all_eq_true] at h ⊢
  exact fun x hx => h x (List.mem_of_mem_take hx)
theorem Fi.take_snoc (s : ByteArray) (i : Nat) (h : i < s.size) : s.data.toList.take (i + 1) = s.data.toList.take i ++ [s[i]] := by
  have h' : i < s.data.toList.length := by simpa using h
  rw [List.take_succ_eq_append_getElem h']
  rfl
theorem Fi.take_all (s : ByteArray) : s.data.toList.take s.size = s.data.toList := List.take_of_length_le (by simp)
theorem Fi.head_get (s : ByteArray) (h : 0 < s.size) : s.data.toList.head? = some s[0] := by
  rw [List.head?_eq_getElem?, List.getElem?_eq_getElem (by simpa using h)]
  rfl

set_option maxRecDepth 100000 in
set_option maxHeartbeats 4000000 in
theorem Fi.hex_any (s : ByteArray) (w : World) :
    Calls Tryz.prog 126 #[.string s] w fun e w' => Fi.RetHex s.data.toList e ∧ w' = w := by
  rcases Nat.lt_or_ge s.size 4 with h4 | h4
  · have hN : Fi.hex s.data.toList = none := Fi.long_no (by unfold Fi.long; rw [decide_eq_false (by simp; omega)]; rfl)
    have i4 : (s.size : Int) < 4 := by omega
    go_enter Tryz.func126, Tryz.ntmps126
    go_wp2
    go_ret2
    exact ⟨by unfold Fi.RetHex; rw [hN]; rfl, rfl⟩
  rcases Nat.lt_or_ge 6 s.size with h6 | h6
  · have hN : Fi.hex s.data.toList = none := Fi.long_no (by unfold Fi.long; rw [decide_eq_false (p := s.data.toList.length ≤ 6) (by simp; omega), Bool.false_and, Bool.and_false])
    have i4 : ¬ (s.size : Int) < 4 := by omega
    have i6 : (s.size : Int) > 6 := by omega
    go_enter Tryz.func126, Tryz.ntmps126
    go_wp2
    go_ret2
    exact ⟨by unfold Fi.RetHex; rw [hN]; rfl, rfl⟩
  have i4 : ¬ (s.size : Int) < 4 := by omega
  have i6 : ¬ (s.size : Int) > 6 := by omega
  have l4 : decide (4 ≤ s.data.toList.length) = true := decide_eq_true (by simp; omega)
  have l6 : decide (s.data.toList.length ≤ 6) = true := decide_eq_true (by simp; omega)
  rcases Nat.lt_or_ge 4 s.size with h5 | h5
  · have i5 : (s.size : Int) > 4 := by omega
    have i0 : (0 : Int) < s.size := by omega
    have h0 : 0 < s.size := by omega
    obtain ⟨b, hb⟩ : ∃ b, s[0] = b := ⟨_, rfl⟩
    have hh := Fi.head_get s h0
    rw [hb] at hh
    by_cases hz : b = 48
    · have hN : Fi.hex s.data.toList = none := Fi.long_no (by unfold Fi.long; rw [l4, l6, hh, hz, decide_eq_true (p := 4 < s.data.toList.length) (by simp; omega)]; rfl)
      have hz' : (b.toNat : Int) = 48 := by rw [hz]; rfl
      clear hh hz
      go_enter Tryz.func126, Tryz.ntmps126
      go_wp2_with fail
      go_ret2
      exact ⟨by unfold Fi.RetHex; rw [hN]; rfl, rfl⟩
    have hL : Fi.long s.data.toList = true := by unfold Fi.long; rw [l4, l6, hh]; simp [hz]
    have hz' : ¬ (b.toNat : Int) = 48 := fun h => hz (UInt8.toNat_inj.1 (show b.toNat = 48 by omega))
    have HL := Lib.hid hL
    clear hh hz hL l4 l6
    go_enter Tryz.func126, Tryz.ntmps126
    go_wp2_with fail
    go_loop [4, 27] (fun vn vi => ∃ i : Nat, i ≤ s.size ∧ vi = .int .i64 i ∧ vn = .int .i64 (Fi.val (s.data.toList.take i)) ∧ Fi.good (s.data.toList.take i) = true) (fun _ vi => s.size - (intOf vi).toNat)
    case atStart => exact ⟨0, by omega, rfl, rfl, rfl⟩
    case round =>
      obtain ⟨i, hi, rfl, rfl, hg⟩ := hrel
      have hv := Fi.val_lt _ hg i (by omega)
      rw [List.take_take, Nat.min_self] at hv
      obtain ⟨v, hvv⟩ : ∃ v, Fi.val (s.data.toList.take i) = v := ⟨_, rfl⟩
      rw [hvv] at hv
      by_cases hlt : (i : Int) < s.size
      · have hi' : i < s.size := by omega
        have hsn := Fi.take_snoc s i hi'
        have n0 : (0 : Int) ≤ (i : Int) := by omega
        obtain ⟨b, hb⟩ : ∃ b, s[i] = b := ⟨_, rfl⟩
        rw [hb] at hsn
        have hbt : ((b.toNat : Int)).toNat.toUInt8 = b := by simp
        have hdl := Fi.digit_lt b
        rcases Int.lt_or_le (Fi.digit b) 0 with hd | hd
        · have hN : Fi.hex s.data.toList = none := Fi.good_no (fun h => by
            have := Fi.good_take h (i + 1)
            rw [hsn, Fi.good_snoc, Bool.and_eq_true, decide_eq_true_eq] at this
            omega)
          clear hsn hg hvv
          go_wp2_with (refine (Tryz.strings_IndexByte _ _ _).mono ?_; rintro e w1 ⟨rfl, rfl⟩; rw [hbt, Fi.digit_index])
          go_ret2
          exact ⟨by unfold Fi.RetHex; rw [hN]; rfl, rfl⟩
        · have hnd : ¬ Fi.digit b < 0 := by omega
          have hval : Fi.val (s.data.toList.take (i + 1)) = v * 16 + Fi.digit b := by rw [hsn, Fi.val_snoc, hvv]
          have hgood : Fi.good (s.data.toList.take (i + 1)) = true := by rw [hsn, Fi.good_snoc, hg, decide_eq_true hd]; rfl
          have HV := Lib.hid hval
          have HG := Lib.hid hgood
          have HVV := Lib.hid hvv
          clear hsn hg hval hgood hvv
          rw [HVV.out]
          go_wp2_with (refine (Tryz.strings_IndexByte _ _ _).mono ?_; rintro e w1 ⟨rfl, rfl⟩; rw [hbt, Fi.digit_index])
          exact ⟨⟨i + 1, by omega, by go_num, by rw [HV.out], HG.out⟩, by simp [intOf]; omega⟩
      · obtain rfl : i = s.size := by omega
        rw [Fi.take_all] at hg hvv ⊢
        have HG := Lib.hid hg
        have HVV := Lib.hid hvv
        clear hg hvv
        rw [HVV.out]
        by_cases hbig : v > 1114111
        · have hN : Fi.hex s.data.toList = none := by unfold Fi.hex; rw [HVV.out, decide_eq_false (by omega), Bool.and_false, Bool.and_false]; rfl
          go_wp2
          go_ret2
          exact ⟨by unfold Fi.RetHex; rw [hN]; rfl, rfl⟩
        · have hN : Fi.hex s.data.toList = some v := by unfold Fi.hex; rw [HL.out, HG.out, HVV.out, decide_eq_true (by omega)]; rfl
          have HN := Lib.hid hN
          clear hN
          go_wp2
          go_ret2
          exact ⟨by unfold Fi.RetHex; rw [HN.out]; rfl, rfl⟩
  · have i5 : ¬ (s.size : Int) > 4 := by omega
    have hL : Fi.long s.data.toList = true := by unfold Fi.long; rw [l4, l6, decide_eq_false (p := 4 < s.data.toList.length) (by simp; omega)]; rfl
    have HL := Lib.hid hL
    clear hL l4 l6
    go_enter Tryz.func126, Tryz.ntmps126
    go_wp2_with fail
    go_loop [4, 27] (fun vn vi => ∃ i : Nat, i ≤ s.size ∧ vi = .int .i64 i ∧ vn = .int .i64 (Fi.val (s.data.toList.take i)) ∧ Fi.good (s.data.toList.take i) = true) (fun _ vi => s.size - (intOf vi).toNat)
    case atStart => exact ⟨0, by omega, rfl, rfl, rfl⟩
    case round =>
      obtain ⟨i, hi, rfl, rfl, hg⟩ := hrel
      have hv := Fi.val_lt _ hg i (by omega)
      rw [List.take_take, Nat.min_self] at hv
      obtain ⟨v, hvv⟩ : ∃ v, Fi.val (s.data.toList.take i) = v := ⟨_, rfl⟩
      rw [hvv] at hv
      by_cases hlt : (i : Int) < s.size
      · have hi' : i < s.size := by omega
        have hsn := Fi.take_snoc s i hi'
        have n0 : (0 : Int) ≤ (i : Int) := by omega
        obtain ⟨b, hb⟩ : ∃ b, s[i] = b := ⟨_, rfl⟩
        rw [hb] at hsn
        have hbt : ((b.toNat : Int)).toNat.toUInt8 = b := by simp
        have hdl := Fi.digit_lt b
        rcases Int.lt_or_le (Fi.digit b) 0 with hd | hd
        · have hN : Fi.hex s.data.toList = none := Fi.good_no (fun h => by
            have := Fi.good_take h (i + 1)
            rw [hsn, Fi.good_snoc, Bool.and_eq_true, decide_eq_true_eq] at this
            omega)
          clear hsn hg hvv
          go_wp2_with (refine (Tryz.strings_IndexByte _ _ _).mono ?_; rintro e w1 ⟨rfl, rfl⟩; rw [hbt, Fi.digit_index])
          go_ret2
          exact ⟨by unfold Fi.RetHex; rw [hN]; rfl, rfl⟩
        · have hnd : ¬ Fi.digit b < 0 := by omega
          have hval : Fi.val (s.data.toList.take (i + 1)) = v * 16 + Fi.digit b := by rw [hsn, Fi.val_snoc, hvv]
          have hgood : Fi.good (s.data.toList.take (i + 1)) = true := by rw [hsn, Fi.good_snoc, hg, decide_eq_true hd]; rfl
          have HV := Lib.hid hval
          have HG := Lib.hid hgood
          have HVV := Lib.hid hvv
          clear hsn hg hval hgood hvv
          rw [HVV.out]
          go_wp2_with (refine (Tryz.strings_IndexByte _ _ _).mono ?_; rintro e w1 ⟨rfl, rfl⟩; rw [hbt, Fi.digit_index])
          exact ⟨⟨i + 1, by omega, by go_num, by rw [HV.out], HG.out⟩, by simp [intOf]; omega⟩
      · obtain rfl : i = s.size := by omega
        rw [Fi.take_all] at hg hvv ⊢
        have HG := Lib.hid hg
        have HVV := Lib.hid hvv
        clear hg hvv
        rw [HVV.out]
        by_cases hbig : v > 1114111
        · have hN : Fi.hex s.data.toList = none := by unfold Fi.hex; rw [HVV.out, decide_eq_false (by omega), Bool.and_false, Bool.and_false]; rfl
          go_wp2
          go_ret2
          exact ⟨by unfold Fi.RetHex; rw [hN]; rfl, rfl⟩
        · have hN : Fi.hex s.data.toList = some v := by unfold Fi.hex; rw [HL.out, HG.out, HVV.out, decide_eq_true (by omega)]; rfl
          have HN := Lib.hid hN
          clear hN
          go_wp2
          go_ret2
          exact ⟨by unfold Fi.RetHex; rw [HN.out]; rfl, rfl⟩
end Go.Proofs.YtkmfegamblmpeaaGreatDoor

/- The layer field: HexText, Strip, Split, by walking their texts. -/
namespace Go.Proofs.YtkmfegamblmpeaaGreatDoor
open Go.RowKit Go.Stop
set_option linter.unusedSimpArgs false
set_option linter.unusedVariables false

theorem Fi.Laid.below {w w' : World} (h : Fi.Laid w) (hb : Below w.heap.size w w') : Fi.Laid w' := by
  obtain ⟨⟨m, h1⟩, h2⟩ := h
  exact ⟨⟨m, by rw [(bcell hb).1 _ _ (World.block_lt_of_cell? w _ h1)]; exact h1⟩, by rw [(bcell hb).1 _ _ (World.block_lt_of_cell? w _ h2)]; exact h2⟩
/-- MaxLen holds a number. -/
def Fi.LaidM (w : World) : Prop := ∃ m : Int, w.cell? ⟨1, 0, none⟩ = some (.int .i64 m)
theorem Fi.LaidM.below {w w' : World} (h : Fi.LaidM w) (hb : Below w.heap.size w w') : Fi.LaidM w' := by
  obtain ⟨m, h1⟩ := h
  exact ⟨m, by rw [(bcell hb).1 _ _ (World.block_lt_of_cell? w _ h1)]; exact h1⟩
theorem Fi.ba_app (a b : List UInt8) : (⟨a.toArray⟩ ++ ⟨b.toArray⟩ : ByteArray) = ⟨(a ++ b).toArray⟩ := by
  apply ByteArray.ext
  simp

/-- What stands ahead of a note, without blanks. -/
def Fi.strip (l : List UInt8) : List UInt8 := Lib.trimB (Lib.cut l [35]).1 32

theorem Fi.drewN_below (w : World) (n : Nat) : Below w.heap.size w (w.drewN n) := ⟨rfl, rfl, rfl, by simp [World.heap_drewN], fun k hk => by simp [World.heap_drewN]⟩

set_option maxRecDepth 100000 in
set_option maxHeartbeats 1000000 in
theorem Fi.strip_any (s : ByteArray) (hs : s.size < 4294967281) (w : World) (hL : Fi.LaidM w) :
    Calls Tryz.prog 94 #[.string s] w fun e w' => e = .returned (.string ⟨(Fi.strip s.data.toList).toArray⟩) ∧ Below w.heap.size w w' := by
  obtain ⟨m, hm⟩ := hL
  have h1 := Tryz.strings_Cut s ⟨#[35]⟩ m w hs hm
  obtain ⟨a, ha⟩ : ∃ a, (⟨(Lib.cut s.data.toList [35]).1.toArray⟩ : ByteArray) = a := ⟨_, rfl⟩
  have hal : a.size ≤ s.size := by
    rw [← ha]
    show (Lib.cut s.data.toList [35]).1.toArray.size ≤ s.size
    have h2 : s.data.toList.length = s.size := by simp
    unfold Lib.cut
    split <;> simp <;> omega
  have h2 : ∀ W : World, Calls Tryz.prog 125 #[.string a, .string ⟨#[32]⟩] W fun e w' => e = .returned (.string ⟨(Fi.strip s.data.toList).toArray⟩) ∧ Below W.heap.size W w' := fun W => by
    refine (Tryz.strings_Trim_one a 32 (by decide) W (by omega)).mono ?_
    rintro e w' ⟨rfl, hw⟩
    refine ⟨by rw [← ha]; rfl, ?_⟩
    rcases hw with rfl | rfl
    · exact Below.refl _ _
    · exact (Below.refl _ _).drew
  rw [show (⟨#[35]⟩ : ByteArray).data.toList = [35] from rfl, ha] at h1
  clear ha hm
  go_enter Tryz.func94, Tryz.ntmps94
  go_wp2_with fail
  refine h1.mono ?_
  rintro e w1 ⟨rfl, q, rfl⟩
  go_wp2_with fail
  refine (h2 _).mono ?_
  rintro e w2 ⟨rfl, hb⟩
  go_wp2_with fail
  go_ret
  exact ⟨rfl, (Fi.drewN_below w q).trans (hb.mono (by simp [World.heap_drewN]))⟩

/-- A line's fields: a new row of texts. -/
def Fi.RetStrs (W : World) (l : List (List UInt8)) (e : Ending) (w' : World) : Prop :=
  ∃ (A : Option Addr) (n c : Nat), e = .returned (.slice A n c) ∧ l.length = n ∧ Sl w' w'.heap.size A (l.map fun x => Value.string ⟨x.toArray⟩) ∧ Below W.heap.size W w'
end Go.Proofs.YtkmfegamblmpeaaGreatDoor

/- Layer field, plain: fields, notes and blanks; no program in sight. -/
namespace Go.Proofs.YtkmfegamblmpeaaGreatDoor
open Go.RowKit Go.Stop
set_option linter.unusedSimpArgs false

/-- The parts between bytes c; w: what of the first part has come already. -/
def Fi.spl (c : UInt8) : List UInt8 → List UInt8 → List (List UInt8)
  | w, [] => [w]
  | w, b :: r => if b = c then w :: Fi.spl c [] r else Fi.spl c (w ++ [b]) r
theorem Fi.spl_app (c : UInt8) : ∀ (a w r : List UInt8), c ∉ a → Fi.spl c w (a ++ r) = Fi.spl c (w ++ a) r
  | [], w, r, _ => by simp
  | b :: a, w, r, h => by
    have hb : b ≠ c := fun e => h (by rw [e]; exact List.mem_cons_self)
    rw [List.cons_append, Fi.spl, if_neg hb, Fi.spl_app c a _ r (fun h' => h (List.mem_cons_of_mem _ h')), List.append_assoc]
    rfl
theorem Fi.spl_hit (c : UInt8) (a r : List UInt8) (h : c ∉ a) : Fi.spl c [] (a ++ c :: r) = a :: Fi.spl c [] r := by
  rw [Fi.spl_app c a [] _ h, Fi.spl, if_pos rfl]; rfl
theorem Fi.spl_miss (c : UInt8) (a : List UInt8) (h : c ∉ a) : Fi.spl c [] a = [a] := by
  have := Fi.spl_app c a [] [] h
  rw [List.append_nil] at this
  rw [this]; rfl
theorem Fi.spl_len (c : UInt8) : ∀ (l w : List UInt8), (Fi.spl c w l).length ≤ l.length + 1
  | [], w => by simp [Fi.spl]
  | b :: r, w => by
    unfold Fi.spl
    split
    · have := Fi.spl_len c r []; simp; omega
    · have := Fi.spl_len c r (w ++ [b]); simp; omega
theorem Fi.spl_sizes (c : UInt8) : ∀ (l w : List UInt8), ∀ x ∈ Fi.spl c w l, x.length ≤ w.length + l.length
  | [], w, x, h => by simp [Fi.spl] at h; subst h; simp
  | b :: r, w, x, h => by
    unfold Fi.spl at h
    split at h
    · rcases List.mem_cons.1 h with rfl | h
      · simp
      · have := Fi.spl_sizes c r [] x h; simp at this ⊢; omega
    · have := Fi.spl_sizes c r (w ++ [b]) x h; simp at this ⊢; omega

theorem Fi.idx_miss (c : UInt8) : ∀ l : List UInt8, Lib.indexByte l c = -1 → c ∉ l
  | [], _ => by simp
  | b :: l, h => by
    unfold Lib.indexByte at h
    split at h
    · cases h
    · rename_i hb
      split at h
      · rename_i h2
        have := Fi.idx_miss c l (by simpa using h2)
        simp at hb
        simp [this, Ne.symm hb]
      · have := Lib.indexByte_ge l c
        rename_i h2
        simp at h2
        omega
theorem Fi.idx_hit (c : UInt8) : ∀ (l : List UInt8) (i : Nat), Lib.indexByte l c = i → l = l.take i ++ c :: l.drop (i + 1) ∧ c ∉ l.take i
  | [], i, h => by
    simp only [Lib.indexByte] at h
    omega
  | b :: l, i, h => by
    unfold Lib.indexByte at h
    split at h
    · rename_i hb
      have hi : i = 0 := by omega
      subst hi
      simp at hb
      subst hb
      simp
    · rename_i hb
      simp at hb
      split at h
      · omega
      · obtain ⟨j, rfl⟩ : ∃ j, i = j + 1 := ⟨i - 1, by have := Lib.indexByte_ge l c; rename_i h2; simp at h2; omega⟩
        obtain ⟨h1, h2⟩ := Fi.idx_hit c l j (by omega)
        refine ⟨?_, ?_⟩
        · rw [List.take_succ_cons, List.drop_succ_cons, List.cons_append, ← h1]
        · rw [List.take_succ_cons]
          simp [h2, Ne.symm hb]
theorem Fi.mk_data (s : ByteArray) : (⟨s.data.toList.toArray⟩ : ByteArray) = s := Lib.mk_data s

theorem Fi.split_eq (c : UInt8) : ∀ (k : Nat) (s : ByteArray), Lib.countB s ⟨#[c]⟩ ≤ k → (Lib.splitB ⟨#[c]⟩ 0 k s).map (·.data.toList) = Fi.spl c [] s.data.toList := by
  have hone : ∀ s : ByteArray, Lib.indexB s ⟨#[c]⟩ = Lib.indexByte s.data.toList c := fun s => by
    show Lib.index s.data.toList [c] = _
    exact Lib.index_one _ _
  intro k
  induction k with
  | zero =>
    intro s hk
    rcases Lib.indexB_cases s ⟨#[c]⟩ with hix | ⟨i, hix, _⟩
    · rw [Lib.splitB_miss _ _ _ _ hix, Fi.spl_miss c _ (Fi.idx_miss c _ (by rw [← hone]; exact hix))]; rfl
    · have := Lib.countB_hit s ⟨#[c]⟩ i (Nat.le_refl 1) hix
      omega
  | succ k ih =>
    intro s hk
    rcases Lib.indexB_cases s ⟨#[c]⟩ with hix | ⟨i, hix, _⟩
    · rw [Lib.splitB_miss _ _ _ _ hix, Fi.spl_miss c _ (Fi.idx_miss c _ (by rw [← hone]; exact hix))]; rfl
    · have hc := Lib.countB_hit s ⟨#[c]⟩ i (Nat.le_refl 1) hix
      obtain ⟨h1, h2⟩ := Fi.idx_hit c s.data.toList i (by rw [← hone]; exact hix)
      unfold Lib.splitB
      rw [if_neg (by rw [hix]; simp; try omega), hix, List.map_cons]
      have hd : (s.extract (i + 1) s.size).data.toList = s.data.toList.drop (i + 1) := by
        rw [Lib.extract_data, List.take_of_length_le (by simp)]
      have ht : (s.extract 0 i).data.toList = s.data.toList.take i := by rw [Lib.extract_data]; simp
      have hi2 := ih (s.extract (i + 1) s.size) (by have e : (⟨#[c]⟩ : ByteArray).size = 1 := rfl
                                                    rw [e] at hc; omega)
      rw [hd] at hi2
      show (s.extract 0 (((i : Int)).toNat + 0)).data.toList :: (Lib.splitB ⟨#[c]⟩ 0 k (s.extract (((i : Int)).toNat + 1) s.size)).map (·.data.toList) = _
      rw [Int.toNat_natCast, Nat.add_zero, ht, hi2]
      conv => rhs; rw [h1]
      rw [Fi.spl_hit c _ _ h2]
/-- Texts, with byte c between them. -/
def Fi.glue (c : UInt8) : List (List UInt8) → List UInt8
  | [] => []
  | x :: r => x ++ (r.map fun y => c :: y).flatten
theorem Fi.trimR_cons (c : UInt8) (b : UInt8) (t : List UInt8) : Lib.trimRightB (b :: t) c = if Lib.trimRightB t c = [] then (if b = c then [] else [b]) else b :: Lib.trimRightB t c := by
  unfold Lib.trimRightB
  rw [List.reverse_cons, List.dropWhile_append]
  by_cases h : (t.reverse.dropWhile (· == c)) = []
  · rw [h]
    simp [List.dropWhile_cons]
    split <;> simp
  · have h' : (t.reverse.dropWhile (· == c)).isEmpty = false := by simpa using h
    rw [h']
    simp [h]
/-- Blanks behind and ahead go in any turn. -/
theorem Fi.trim_comm (c : UInt8) : ∀ l : List UInt8, Lib.trimB l c = Lib.trimRightB (Lib.trimLeftB l c) c
  | [] => rfl
  | b :: t => by
    have ih := Fi.trim_comm c t
    unfold Lib.trimB Lib.trimLeftB at ih ⊢
    rw [Fi.trimR_cons, List.dropWhile_cons]
    by_cases hb : b = c
    · subst hb
      simp only [beq_self_eq_true, if_true]
      split
      · rename_i h
        rw [← ih, h]
      · rw [List.dropWhile_cons]
        simp only [beq_self_eq_true, if_true]
        exact ih
    · have hbf : (b == c) = false := by simpa using hb
      rw [hbf]
      simp only [hb, if_false, Bool.false_eq_true]
      rw [Fi.trimR_cons]
      simp only [hb, if_false]
      split
      · rw [List.dropWhile_cons, hbf]; simp
      · rw [List.dropWhile_cons, hbf]; simp
end Go.Proofs.YtkmfegamblmpeaaGreatDoor
