/- The layer excl: char, Parse, by walking their texts. -/
import Derived.Test.YtppmcnpjglackaaGreatDoorExPlain
import Derived.Test.YtppmcnpjglackaaGreatDoorRwTab
import Derived.Test.YtppmcnpjglackaaGreatDoorFiNumPlain
import Derived.Test.YtppmcnpjglackaaGreatDoorCpUtf
import Derived.Test.YtppmcnpjglackaaGreatDoorCpChars
namespace Go.Proofs.YtppmcnpjglackaaGreatDoor
open Go.RowKit
set_option linter.unusedSimpArgs false
set_option linter.unusedVariables false

set_option maxHeartbeats 1000000 in
/-- slices.Index of what is not there. -/
theorem Ex.index_any (A : Option Addr) (n cp B : Nat) (l : List Int) (c : Int) (w : World) (hn : l.length = n) (hN : n ≤ 1000000) (hB : B ≤ w.heap.size) (hA : Sl w B A (l.map (Value.int .i32))) (hc : c ∉ l) :
    Calls Tryz.prog 96 #[.slice A n cp, .int .i32 c] w fun e w' => e = .returned (.int .i64 (-1)) ∧ w' = w := by
  have HN := Lib.hid hn
  have HC := Lib.hid hc
  clear hn hc
  go_enter Tryz.func96, Tryz.ntmps96
  go_wp2_with fail
  go_loop [5, 8] (fun _ i => ∃ k : Nat, k ≤ n ∧ i = .int .i64 k) (fun _ i => n - (intOf i).toNat)
  case atStart => exact ⟨0, Nat.zero_le _, rfl⟩
  case round =>
    obtain ⟨k, hk, rfl⟩ := hrel
    by_cases hlt : k < n
    · obtain ⟨x, hx⟩ : ∃ x, l[k]? = some x := ⟨_, List.getElem?_eq_getElem (by rw [HN.out]; exact hlt)⟩
      obtain ⟨b, o, rfl, hb, hcell⟩ := hA (by rw [List.length_map, HN.out]; omega)
      have h1 := hcell k (by rw [List.length_map, HN.out]; exact hlt)
      rw [List.getElem?_map, hx, Option.map_some] at h1
      have hne : (c == x) = false := by
        have : c ≠ x := fun e => HC.out (by rw [e]; exact List.mem_of_getElem? hx)
        simpa using this
      have kI : (k : Int) < n := by omega
      have k0 : (0 : Int) ≤ (k : Int) := by omega
      clear hcell hx
      go_wp2_with fail
      exact ⟨⟨k + 1, by omega, by go_num⟩, by simp [intOf]; omega⟩
    · obtain rfl : k = n := by omega
      have kI : ¬ (k : Int) < k := by omega
      go_wp2_with fail
      go_ret
      exact ⟨rfl, rfl⟩
theorem Ex.contains_any (A : Option Addr) (n cp B : Nat) (l : List Int) (c : Int) (w : World) (hn : l.length = n) (hN : n ≤ 1000000) (hB : B ≤ w.heap.size) (hA : Sl w B A (l.map (Value.int .i32))) (hc : c ∉ l) :
    Calls Tryz.prog 59 #[.slice A n cp, .int .i32 c] w fun e w' => e = .returned (.bool false) ∧ w' = w := by
  have h := Ex.index_any A n cp B l c w hn hN hB hA hc
  clear hn hc hA
  go_enter Tryz.func59, Tryz.ntmps59
  go_wp2_with fail
  refine h.mono ?_
  rintro e w1 ⟨rfl, rfl⟩
  go_wp2_with fail
  go_ret
  exact ⟨rfl, rfl⟩

set_option maxHeartbeats 1000000 in
theorem Ex.char_any (s : ByteArray) (A : Option Addr) (n cp B : Nat) (l : List Int) (c : Int) (w : World) (hs : s.size ≤ 1000000) (hn : l.length = n) (hN : n ≤ 1000000) (hB : B ≤ w.heap.size) (hA : Sl w B A (l.map (Value.int .i32)))
    (hx : Fi.hex s.data.toList = some c) (hi : C.isC c = true) (hc : c ∉ l) :
    Calls Tryz.prog 37 #[.string s, .slice A n cp] w fun e w' => e = .returned (.tuple #[.int .i32 c, .string ⟨#[]⟩]) ∧ w' = w := by
  have h1 : ∀ W : World, Calls Tryz.prog 58 #[.string s] W fun e w' => e = .returned (.tuple #[.int .i32 c, .bool true]) ∧ w' = W := fun W => (Fi.hex_any s W).mono fun e w' h => ⟨by
    have := h.1
    unfold Fi.RetHex at this
    rw [this, hx]; rfl, h.2⟩
  have h2 := C.utfis_any c
  rw [hi] at h2
  have h3 := fun (W : World) (e : W = w) => Ex.contains_any A n cp B l c W hn hN (by rw [e]; exact hB) (by rw [e]; exact hA) hc
  clear hx hi hc hA hn
  go_enter Tryz.func37, Tryz.ntmps37
  go_wp2_with fail
  refine (h1 _).mono ?_
  rintro e w1 ⟨rfl, rfl⟩
  go_wp2_with fail
  refine (h2 _).mono ?_
  rintro e w1 ⟨rfl, rfl⟩
  go_wp2_with fail
  refine (h3 _ rfl).mono ?_
  rintro e w1 ⟨rfl, rfl⟩
  go_wp2_with fail
  go_ret2
  exact ⟨rfl, rfl⟩

theorem Ex.drop_le (c : UInt8) : ∀ l : List UInt8, (l.dropWhile (· == c)).length ≤ l.length
  | [] => Nat.le_refl _
  | b :: l => by
    rw [List.dropWhile_cons]
    split
    · have := Ex.drop_le c l; simp; omega
    · exact Nat.le_refl _
theorem Ex.strip_le (x : List UInt8) : (Lib.trimB (Lib.cut x [35]).1 32).length ≤ x.length := by
  have h1 : (Lib.cut x [35]).1.length ≤ x.length := by unfold Lib.cut; split <;> simp <;> omega
  rw [Fi.trim_comm]
  unfold Lib.trimRightB Lib.trimLeftB
  rw [List.length_reverse]
  have h2 := Ex.drop_le 32 ((Lib.cut x [35]).1.dropWhile (· == 32)).reverse
  have h3 := Ex.drop_le 32 (Lib.cut x [35]).1
  rw [List.length_reverse] at h2
  omega
/-- What Parse answers of a text whose characters may be. -/
def Ex.RetParse (cs : List Int) (w : World) (e : Ending) (w' : World) : Prop :=
  ∃ A c, e = .returned (.tuple #[.agg #[.slice A (C.chars cs).length c], .nilIface]) ∧ Slt w' 21 A ((C.chars cs).map (Value.int .i32)) ∧ Below w.heap.size w w'

set_option maxRecDepth 100000 in
set_option maxHeartbeats 4000000 in
theorem Ex.parse_any (s : ByteArray) (hs : s.size ≤ 300000) (cs : List Int) (hp : Ex.parse s.data.toList = some cs) (w : World) (hL : Fi.LaidM w) :
    Calls Tryz.prog 17 #[.string s] w (Ex.RetParse cs w) := by
  unfold Ex.parse at hp
  split at hp
  case isFalse => cases hp
  rename_i h0
  obtain ⟨hok, hmax⟩ := h0
  have hLn := Rw.lines_any s (by omega) hok
  have hl : ∀ x ∈ Rw.lns [] s.data.toList, x.length ≤ 1000 := fun x hx => by
    rw [List.all_eq_true] at hok
    have := hok x hx
    unfold Rw.okl at this
    rw [Bool.and_eq_true, decide_eq_true_eq] at this
    exact this.1
  obtain ⟨L, hLe⟩ : ∃ L, Rw.lns [] s.data.toList = L := ⟨_, rfl⟩
  rw [hLe] at hp hLn hmax hl
  obtain ⟨n, hn⟩ : ∃ n, L.length = n := ⟨_, rfl⟩
  have HP := Lib.hid hp
  have HLL := Lib.hid hl
  have HN := Lib.hid hn
  obtain ⟨i0, hi, hi0, hi1, hi2⟩ := info_parts infoRune
  rw [hn] at hmax
  unfold Rw.RetLines at hLn
  rw [hn] at hLn
  clear hok hp hLe hl hn
  go_enter Tryz.func17, Tryz.ntmps17
  go_wp2_with fail
  refine (hLn _).mono ?_
  rintro e w1 ⟨A, c, rfl, hA, hb1⟩
  have hw0 : Below w.heap.size w w1 := ((Below.refl _ _).alloc (Nat.le_refl _) _).trans (hb1.mono (by simp))
  have hat : Rw.At w1 w.heap.size 42 [.slice none 0 0] := (Rw.At.new w 42 [.slice none 0 0]).below hb1
  have HL1 := Lib.hid (hL.below hw0)
  have HA := Lib.hid hA
  have HW0 := Lib.hid hw0
  clear hA hb1 hL hLn hw0
  go_wp2_with fail
  go_loopw [6, 7, 8, 9, 10, 22] (fun v _ _ _ _ i wr => ∃ (k : Nat) (seen : List Int), k ≤ n ∧ i = .int .i64 k ∧ Ex.steps [] (L.take k) = some seen ∧ wr.ownsRow w1.heap.size 21 1 v seen.length (seen.map (Value.int .i32)) ∧ Below w1.heap.size w1 wr)
    (fun _ _ _ _ _ i _ => n - (intOf i).toNat)
  case atStart => exact ⟨0, [], Nat.zero_le _, rfl, rfl, World.ownsRow_nil _ _ _ _, Below.refl _ _⟩
  case round =>
    obtain ⟨k, seen, hk, rfl, hst, hown, hbel⟩ := hrel
    have hz := hbel.size
    have hsl := Ex.steps_len _ hst
    simp only [List.length_nil, Nat.zero_add] at hsl
    have hkl : (L.take k).length ≤ k := List.length_take_le _ _
    by_cases hlt : k < n
    · obtain ⟨x, hx⟩ : ∃ x, L[k]? = some x := ⟨_, List.getElem?_eq_getElem (by rw [HN.out]; exact hlt)⟩
      obtain ⟨seen', h1, h2⟩ := Ex.steps_take HP.out hx hst
      obtain ⟨ab, ao, rfl, hab, hac⟩ := HA.out (by rw [List.length_map, HN.out]; omega)
      have hc := hac k (by rw [List.length_map, HN.out]; exact hlt)
      rw [List.getElem?_map, hx, Option.map_some, ← (bcell hbel).1 _ _ hab] at hc
      have hxl := HLL.out x (List.mem_of_getElem? hx)
      have hS := Fi.strip_any ⟨x.toArray⟩ (by show x.toArray.size < _; simp; omega) wr (HL1.out.below hbel)
      rw [show (⟨x.toArray⟩ : ByteArray).data.toList = x from rfl] at hS
      obtain ⟨bx, hbx⟩ : ∃ bx : ByteArray, ⟨x.toArray⟩ = bx := ⟨_, rfl⟩
      rw [hbx] at hc hS
      obtain ⟨sx, hsx⟩ : ∃ sx : ByteArray, ⟨(Fi.strip x).toArray⟩ = sx := ⟨_, rfl⟩
      rw [hsx] at hS
      have hsd : sx.data.toList = Fi.strip x := by rw [← hsx]
      have kI : (k : Int) < n := by omega
      have habr : ab < wr.heap.size := by omega
      have HX := Lib.hid h2
      have HBEL := Lib.hid hbel
      have HOWN := Lib.hid hown
      have HH := Lib.hid h1
      have HSD := Lib.hid hsd
      have hss : sx.size ≤ 1000000 := by
        have h3 : sx.data.toList.length = sx.size := by simp
        have h4 : (Fi.strip x).length ≤ x.length := by
          unfold Fi.strip
          exact Ex.strip_le x
        rw [hsd] at h3
        omega
      clear hac hx h1 h2 hbel hbx hsx hown hst hsd
      go_wp2_with fail
      refine hS.mono ?_
      rintro e w2 ⟨rfl, hb2⟩
      have hown2 := own_below HOWN.out hb2 (Nat.le_refl _)
      have HB2 := Lib.hid (HBEL.out.trans (hb2.mono hz))
      have hz2 : w1.heap.size ≤ w2.heap.size := Nat.le_trans hz hb2.size
      clear hb2 hS
      rcases Ex.line_some HH.out with ⟨he, rfl⟩ | ⟨ch, hne, hhex, hisC, hnot, rfl⟩
      · have hemp : sx.toList.isEmpty = true := by rw [ByteArray.toList_eq sx, HSD.out, he]; rfl
        have HOWN2 := Lib.hid hown2
        clear he hown2
        go_wp2_with fail
        exact ⟨⟨k + 1, _, by omega, by go_num, HX.out, HOWN2.out, HB2.out⟩, by simp [intOf]; omega⟩
      · have hemp : sx.toList.isEmpty = false := by
          rw [ByteArray.toList_eq sx, HSD.out]
          rcases hl : Fi.strip x with _ | ⟨q, r⟩
          · exact absurd hl hne
          · rfl
        obtain ⟨Av, cv, rfl⟩ := own_form hown2
        have hCH := Ex.char_any sx Av seen.length cv w2.heap.size seen ch w2 hss rfl (by omega) (Nat.le_refl _) (Sl.of_own hown2) (by rw [HSD.out]; exact hhex) hisC hnot
        have HOWN2 := Lib.hid hown2
        clear hne hhex hisC hnot hown2
        go_wp2_with fail
        refine hCH.mono ?_
        rintro e w3 ⟨rfl, rfl⟩
        go_wp2_with (first | (at_builtin; refine wpList_push1 _ rfl _ _ _ rfl w1.heap.size 21 i0 _ 4 Tryz.underlying29 hi hi0 hi1 hi2 rfl _ seen.length _ rfl HOWN2.out _ rfl rfl (by simp only [maxLen]; omega) (by omega) hz2 ?_; intro v1 w4 hown4 hb4) | fail)
        exact ⟨⟨k + 1, _, by omega, by go_num, HX.out, by rw [List.length_append, List.map_append]; exact hown4, HB2.out.trans hb4⟩, by simp [intOf]; omega⟩
    · obtain rfl : k = n := by omega
      have kI : ¬ (k : Int) < k := by omega
      have hfin : seen = cs := by
        rw [List.take_of_length_le (by rw [HN.out]; exact Nat.le_refl _), HP.out, Option.some.injEq] at hst
        exact hst.symm
      subst hfin
      obtain ⟨Av, cv, rfl⟩ := own_form hown
      have hCH := C.chars_any Av seen.length cv wr.heap.size seen wr rfl (by omega) (Nat.le_refl _) (Sl.of_own hown)
      have hatr := hat.below hbel
      have HBEL := Lib.hid (HW0.out.trans (hbel.mono HW0.out.size))
      clear hst hown hbel
      go_wp2_with fail
      refine hCH.mono ?_
      rintro e w2 ⟨A2, c2, rfl, hown2, hb2⟩
      have hat2 := hatr.below hb2
      have z0 := hat2.cell 0 rfl
      have g0 := hat2.frozen 0
      have hS2 := Slt.of_own hown2
      have HB2 := Lib.hid (HBEL.out.trans (hb2.mono HBEL.out.size))
      have HS2 := Lib.hid hS2
      clear hS2 hown2 hb2 hCH hatr
      go_wp2_with fail
      have hat3 := hat2.set 0 (.slice A2 (C.chars seen).length c2)
      refine bodyPost_ret (Rw.results2 rfl _ _ w.heap.size _ _ _ _ rfl hat3 Tryz.underlying42 rfl (by kernel_rfl)) rfl ⟨A2, c2, rfl, ?_, ?_⟩
      · exact HS2.out.setAt hat2 (by decide) 0 _
      · exact HB2.out.setCell (p := ⟨w.heap.size, 0, none⟩) (Nat.le_refl _) _
end Go.Proofs.YtppmcnpjglackaaGreatDoor
