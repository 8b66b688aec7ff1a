/- The fixed fact of the layer ucd. -/
import Derived.Test.YtkmfegamblmpeaaGreatDoorUdLook
import Derived.Test.YtkmfegamblmpeaaGreatDoorUdBegins
import Derived.Test.YtkmfegamblmpeaaGreatDoorCpChPlain3
import Derived.Test.YtkmfegamblmpeaaGreatDoorRwPlain
import Derived.Test.YtkmfegamblmpeaaGreatDoorFiRef2
import Derived.Test.YtkmfegamblmpeaaGreatDoorMdTable
import Derived.Test.YtkmfegamblmpeaaGreatDoorRwLines
import Derived.Deep.RegionHeld3
import Derived.BigQuiet
import Derived.BigRegion
import Derived.Test.YtkmfegamblmpeaaGreatDoorHangul
import Derived.Test.YtkmfegamblmpeaaGreatDoorShelf
import Derived.Shelf.Strings.Builder1
import Derived.Test.YtkmfegamblmpeaaGreatDoorExPlain
import Derived.Test.YtkmfegamblmpeaaGreatDoorFiPlain2
namespace Go.Proofs.YtkmfegamblmpeaaGreatDoor
open Go.RowKit
set_option linter.unusedSimpArgs false
set_option linter.unusedVariables false
def Ud.litT : List Rw.Row := [(197, 0, [65, 778]), (778, 230, []), (8491, 0, [197])]
def Ud.lit1 : List UInt8 := [48, 48, 67, 53, 59, 88, 59, 59, 48, 59, 59, 48, 48, 52, 49, 32, 48, 51, 48, 65, 59, 59, 59, 59, 59, 59, 59, 59, 59, 10, 48, 51, 48, 65, 59, 88, 59, 59, 50]
def Ud.lit2 : List UInt8 := [51, 48, 59, 59, 59, 59, 59, 59, 59, 59, 59, 59, 59, 10, 50, 49, 50, 66, 59, 88, 59, 59, 48, 59, 59, 48, 48, 67, 53, 59, 59, 59, 59, 59, 59, 59, 59, 59, 10]
theorem Ud.dec0 : Lib.decDigits 0 = [48] := by rw [Lib.decDigits]; rfl
theorem Ud.dec230 : Lib.decDigits 230 = [50, 51, 48] := by
  rw [Lib.decDigits]
  simp
  rw [Lib.decDigits]
  simp
  rw [Lib.decDigits]
  simp
theorem Ud.lit_txt : Rw.txt Ud.litT = Ud.lit1.append Ud.lit2 := by
  have h1 : Fi.text 197 = [48, 48, 67, 53] := by decide +kernel
  have h2 : Fi.text 65 = [48, 48, 52, 49] := by decide +kernel
  have h3 : Fi.text 778 = [48, 51, 48, 65] := by decide +kernel
  have h4 : Fi.text 8491 = [50, 49, 50, 66] := by decide +kernel
  show Rw.txt [(197, 0, [65, 778]), (778, 230, []), (8491, 0, [197])] = _
  rw [show ([(197, 0, [65, 778]), (778, 230, []), (8491, 0, [197])] : List Rw.Row) = [(197, 0, [65, 778])] ++ ([(778, 230, [])] ++ [(8491, 0, [197])]) from rfl, Rw.txt_app, Rw.txt_app, Rw.txt_one, Rw.txt_one, Rw.txt_one]
  unfold Rw.line
  simp only [List.map_cons, List.map_nil, show (197 : Int).toNat = 197 from rfl, show (65 : Int).toNat = 65 from rfl, show (778 : Int).toNat = 778 from rfl, show (8491 : Int).toNat = 8491 from rfl, show (0 : Int).toNat = 0 from rfl, show (230 : Int).toNat = 230 from rfl, h1, h2, h3, h4, Ud.dec0, Ud.dec230]
  rfl
theorem Ud.lit_fine : ∀ r ∈ Ud.litT, Rw.fine r := by
  intro r hr
  unfold Ud.litT at hr
  simp only [List.mem_cons, List.not_mem_nil, or_false] at hr
  rcases hr with rfl | rfl | rfl
  · exact ⟨⟨by decide, by decide, by decide, by decide, by decide, by decide⟩, .inl rfl⟩
  · exact ⟨⟨by decide, by decide, by decide, by decide, by decide, by decide⟩, .inl rfl⟩
  · exact ⟨⟨by decide, by decide, by decide, by decide, by decide, by decide⟩, .inl rfl⟩
theorem Ud.lit_parse : Rw.parse (Ud.lit1.append Ud.lit2) = some Ud.litT := by
  rw [← Ud.lit_txt, Rw.parse_txt _ Ud.lit_fine ⟨by decide, by decide, by decide, trivial⟩ (by decide)]
  rfl
theorem Ud.lit_ok : Ud.Ok Ud.litT (C.chars []) := ⟨by decide +kernel, by rw [show C.chars [] = [] by decide +kernel]; exact List.Pairwise.nil, by decide, by rw [show C.chars [] = [] by decide +kernel]; decide⟩
theorem Ud.lit_begs : Ud.begs Ud.litT 65 = [65, 197, 8491] := by
  have h1 : Ud.beg Ud.litT Ud.litT 65 = [197, 8491] := by decide +kernel
  have h2 : Ud.syls 65 = [] := by decide +kernel
  have h3 : Ud.alone Ud.litT 65 = true := by decide +kernel
  unfold Ud.begs
  rw [h1, h2, h3, if_pos rfl]
  have hs := List.pairwise_mergeSort (le := fun x y : Int => decide (x ≤ y)) (by intro a b c h1 h2; simp at *; omega) (by intro a b; simp; omega) ([197, 8491] ++ [] ++ [65])
  have hp := (List.mergeSort_perm ([197, 8491] ++ [] ++ [65] : List Int) fun x y => decide (x ≤ y)).trans (show ([197, 8491] ++ [] ++ [65] : List Int).Perm [65, 197, 8491] by decide)
  refine List.Perm.eq_of_pairwise (le := fun x y : Int => x ≤ y) (fun a b _ _ h1 h2 => by omega) (hs.imp fun h => by simpa using h) (by simp) hp
theorem Ud.lit_join : Ud.joinK Ud.litT (C.chars []) 65 778 = (197, true) := by decide +kernel
theorem Ud.lit_inn : Ud.inn Ud.litT Ud.litT = [778, 778] := by decide +kernel
theorem Ud.Is.form {w : World} {v : Value} {T : List Rw.Row} {S : List Int} (h : Ud.Is w v T S) : ∃ b, v = .pointer (some ⟨b, 0, none⟩) ∧ b < w.heap.size := by
  obtain ⟨b, A0, c0, XA, xc, pc, pp, A3, c3, mb, jb, A4, c4, A5, c5, A6, c6, es, h1, h2, _⟩ := h.is
  exact ⟨b, h1, h2.lt⟩
set_option maxRecDepth 100000 in
set_option maxHeartbeats 2000000 in
theorem Ud.awake_any (w : World) (hL : Rw.Laid w) : Calls Tryz.prog 5 #[] w fun e w' => e = .returned (.bool true) ∧ Below w.heap.size w w' := by
  have hP := Ud.load_any ⟨(Ud.lit1.append Ud.lit2).toArray⟩ ⟨#[]⟩ (by decide) (by decide) Ud.litT [] Ud.lit_parse (by decide) Ud.lit_ok Ud.lit_ok.bd w hL
  have hB : ∀ p W, Ud.Is W p Ud.litT (C.chars []) → Calls Tryz.prog 20 #[p, .int .i32 65] W (Md.RetOwn [65, 197, 8491] W) := fun p W h => by
    have := Ud.begins_any p Ud.litT (C.chars []) 65 W Ud.lit_ok h (by decide) (by decide)
    rw [Ud.lit_begs] at this
    exact this
  have hJ : ∀ p W, Ud.Is W p Ud.litT (C.chars []) → Calls Tryz.prog 30 #[p, .int .i32 65, .int .i32 778] W fun e w' => e = .returned (.tuple #[.int .i32 197, .bool true]) ∧ Below W.heap.size W w' := fun p W h => by
    have := Ud.join_any p Ud.litT (C.chars []) 65 778 W Ud.lit_ok h (by decide) (by decide) (by decide) (by decide)
    rw [Ud.lit_join] at this
    exact this
  have hI : ∀ p W, Ud.Is W p Ud.litT (C.chars []) → Calls Tryz.prog 31 #[p, .int .i32 778] W fun e w' => e = .returned (.bool true) ∧ Below W.heap.size W w' := fun p W h => by
    have h2 := C.chars_len (Ud.inn Ud.litT Ud.litT)
    rw [Ud.lit_inn] at h2
    simp at h2
    have := Ud.inner_any p Ud.litT (C.chars []) 778 W Ud.lit_ok (by rw [Ud.lit_inn]; omega) h (by decide) (by decide)
    have hm : C.mem (C.chars (Ud.inn Ud.litT Ud.litT)) 778 = true := by rw [(C.chars_spec _).2, Ud.lit_inn]; decide
    rw [hm] at this
    exact this
  have HBG := Lib.hid hB
  have HJN := Lib.hid hJ
  have HIN := Lib.hid hI
  unfold Ud.RetOf at hP
  obtain ⟨S, hS⟩ : ∃ S, C.chars [] = S := ⟨_, rfl⟩
  rw [hS] at hP HBG HJN HIN
  obtain ⟨T, hT⟩ : ∃ T, Ud.litT = T := ⟨_, rfl⟩
  rw [hT] at hP HBG HJN HIN
  clear hB hJ hI hS hT
  go_enter Tryz.func5, Tryz.ntmps5
  go_wp2_with fail
  refine hP.mono ?_
  rintro e w1 ⟨p, rfl, his, hb1⟩
  obtain ⟨b, rfl, hbl⟩ := his.form
  have HIS := Lib.hid his
  have HB1 := Lib.hid hb1
  have hBG := HBG.out _ _ his
  clear his hb1 hP HBG
  go_wp2_with fail
  refine hBG.mono ?_
  rintro e w2 ⟨A, c, rfl, hown, hb2⟩
  obtain ⟨g, o, rfl, hgl, hgc⟩ := (Sl.of_own hown) (by simp)
  have hg0 := hgc 0 (by simp)
  have hg2 := hgc 2 (by simp)
  simp only [List.map_cons, List.map_nil, List.getElem?_cons_succ, List.getElem?_cons_zero, Nat.add_zero] at hg0 hg2
  have HIS2 := Lib.hid (HIS.out.below hb2)
  have HB2 := Lib.hid (HB1.out.trans (hb2.mono HB1.out.size))
  have hJ := HJN.out _ _ HIS2.out
  simp only [List.length_cons, List.length_nil]
  clear hown hgc hb2 HJN hBG
  go_wp2_with fail
  refine hJ.mono ?_
  rintro e w3 ⟨rfl, hb3⟩
  have g0 := ((bcell hb3).1 _ _ hgl).trans hg0
  have g2 := ((bcell hb3).1 _ _ hgl).trans hg2
  have hgl3 := Nat.lt_of_lt_of_le hgl hb3.size
  have hI := HIN.out _ _ (HIS2.out.below hb3)
  have HB3 := Lib.hid (HB2.out.trans (hb3.mono HB2.out.size))
  clear hg0 hg2 hb3 hJ HIN
  go_wp2_with (go_at_call 31; refine hI.mono ?_; rintro e w4 ⟨rfl, hb4⟩)
  have HB4 := HB3.out.trans (hb4.mono HB3.out.size)
  go_ret
  exact ⟨rfl, HB4⟩
end Go.Proofs.YtkmfegamblmpeaaGreatDoor

/- The document's answers for the layer field: Digits, Num, Hex, by walking their texts. -/
namespace Go.Proofs.YtkmfegamblmpeaaGreatDoor
open Go.RowKit Go.Stop
set_option linter.unusedSimpArgs false
set_option linter.unusedVariables false

theorem Fi.dec_step {u x : Nat} {s : List UInt8} (hx : 0 < x) (h : Lib.decDigits u = Lib.decDigits x ++ s) :
    Lib.decDigits u = (if x / 10 = 0 then [] else Lib.decDigits (x / 10)) ++ (UInt8.ofNat (48 + x % 10) :: s) := by
  rw [h, Lib.decDigits]
  by_cases hx10 : x < 10
  · rw [dif_pos hx10, if_pos (by omega), Nat.mod_eq_of_lt hx10]; rfl
  · rw [dif_neg hx10, if_neg (by omega), List.append_assoc]; rfl

set_option maxRecDepth 100000 in
set_option maxHeartbeats 4000000 in
theorem Fi.digits_any (u : Nat) (w : World) (hu : u < 9223372036854775808) :
    Calls Tryz.prog 128 #[.int .i64 u] w fun e w' => e = .returned (.string ⟨(Lib.decDigits u).toArray⟩) ∧ Below w.heap.size w w' := by
  go_enter Tryz.func128, Tryz.ntmps128
  go_wp2
  go_loopw [0, 3, 4] (fun vx vs vi wr => ∃ (i x : Nat) (s : List UInt8), vx = .int .i64 x ∧ vs = .string ⟨s.toArray⟩ ∧ vi = .int .i64 i ∧ i ≤ 64 ∧ s.length = i ∧ x < 2 ^ (63 - i) ∧ ((i = 0 ∧ x = u ∧ s = []) ∨ (0 < i ∧ Lib.decDigits u = (if x = 0 then [] else Lib.decDigits x) ++ s)) ∧ Below w.heap.size w wr) (fun _ _ vi _ => 65 - (intOf vi).toNat)
  case atStart => exact ⟨0, u, [], rfl, rfl, rfl, by omega, rfl, by simpa using hu, .inl ⟨rfl, rfl, rfl⟩, Below.refl _ _⟩
  case round =>
    obtain ⟨i, x, s, rfl, rfl, rfl, hi, hsl, hx, hor, hbr⟩ := hrel
    obtain ⟨w1, rfl⟩ : ∃ w1 : World, w1 = wr := ⟨_, rfl⟩
    have hs1 := hbr.size
    have HBR := Lib.hid hbr
    have hC := Fi.conv1 w1 (48 + (x : Int) % 10)
    rw [show (48 + (x : Int) % 10).toNat = 48 + x % 10 by omega] at hC
    have HSL := Lib.hid hsl
    have hcat : ¬ 9223372036854775807 < 1 + s.length := by omega
    have HBA := Lib.hid (hbr.alloc hs1 (.cells #[.int .u8 (48 + (x : Int) % 10)] 5))
    clear hsl
    have hx64 : x < 9223372036854775808 := by
      have : 2 ^ (63 - i) ≤ 2 ^ 63 := Nat.pow_le_pow_right (by decide) (by omega)
      have e : (2 : Nat) ^ 63 = 9223372036854775808 := by decide
      omega
    by_cases hgo : i = 0 ∨ 0 < x
    · have hst : Lib.decDigits u = (if x / 10 = 0 then [] else Lib.decDigits (x / 10)) ++ (UInt8.ofNat (48 + x % 10) :: s) := by
        rcases hor with ⟨rfl, rfl, rfl⟩ | ⟨h0, h⟩
        · rcases Nat.eq_zero_or_pos x with rfl | hp
          · rw [Lib.decDigits]; rfl
          · exact Fi.dec_step hp (by simp)
        · have hp : 0 < x := by omega
          rw [if_neg (by omega)] at h
          exact Fi.dec_step hp h
      have hi64 : i < 63 := by
        rcases hgo with rfl | hp
        · omega
        · rcases Nat.lt_or_ge i 63 with h | h
          · exact h
          · have : 63 - i = 0 := by omega
            rw [this] at hx; omega
      have hx2 : x / 10 < 2 ^ (63 - (i + 1)) := by
        have e : 63 - i = (63 - (i + 1)) + 1 := by omega
        rw [e, Nat.pow_succ] at hx
        omega
      have HST := Lib.hid hst
      have HX2 := Lib.hid hx2
      clear hst hx2 hx hor hbr
      obtain ⟨dg, hdg⟩ : ∃ dg, UInt8.ofNat (48 + x % 10) = dg := ⟨_, rfl⟩
      rw [hdg] at hC HST
      have HAPP := Lib.hid (Fi.ba_app [dg] s)
      clear hdg
      rcases Nat.eq_zero_or_pos i with hi0 | hp
      · have HI := Lib.hid hi0
        subst hi0
        go_wp2
        refine ⟨⟨1, x / 10, dg :: s, by go_num, by first | exact congrArg Value.string HAPP.out | (congr 1; exact HAPP.out), rfl, by omega, by rw [List.length_cons, HSL.out], HX2.out, .inr ⟨by omega, HST.out⟩, HBA.out⟩, by simp [intOf]⟩
      · have hne : ¬ (i : Int) = 0 := by omega
        have hx0 : 0 < x := by omega
        have hxp : (x : Int) > 0 := by omega
        go_wp2
        refine ⟨⟨i + 1, x / 10, dg :: s, by go_num, by first | exact congrArg Value.string HAPP.out | (congr 1; exact HAPP.out), by go_num, by omega, by rw [List.length_cons, HSL.out], HX2.out, .inr ⟨by omega, HST.out⟩, HBA.out⟩, by simp [intOf]; omega⟩
    · have hx0 : x = 0 := by omega
      have hi0 : 0 < i := by omega
      subst hx0
      have hf : Lib.decDigits u = s := by
        rcases hor with ⟨h, _⟩ | ⟨_, h⟩
        · omega
        · simpa using h
      have HF := Lib.hid hf
      have hne : ¬ (i : Int) = 0 := by omega
      clear hor hf hx hgo hC
      go_wp2
      go_ret
      exact ⟨by rw [HF.out]; rfl, hbr⟩

end Go.Proofs.YtkmfegamblmpeaaGreatDoor

/- The document's Line of a row, by walking its text. -/
namespace Go.Proofs.YtkmfegamblmpeaaGreatDoor
open Go.RowKit
set_option linter.unusedSimpArgs false
set_option linter.unusedVariables false

theorem Rw.third {P Q : Prop} {W w' : World} {B : Nat} (h : P ∧ Q ∧ Below B W w') : Below B W w' := h.2.2
theorem Rw.keep2 {W w' : World} {B b1 b2 o1 o2 : Nat} {v1 v2 : Value} (d1 : W.cell? ⟨b1, o1, none⟩ = some v1) (d2 : W.cell? ⟨b2, o2, none⟩ = some v2) (h1 : b1 < B) (h2 : b2 < B) (h : Below B W w') :
    w'.cell? ⟨b1, o1, none⟩ = some v1 ∧ w'.cell? ⟨b2, o2, none⟩ = some v2 ∧ Below B W w' := ⟨((bcell h).1 _ _ h1).trans d1, ((bcell h).1 _ _ h2).trans d2, h⟩
theorem Rw.rtext_int (v : Int) (h0 : 0 ≤ v) (h1 : v < 16777216) (w : World) :
    Calls Tryz.prog 67 #[.int .i64 v] w fun e w' => e = .returned (.string ⟨(Fi.text v.toNat).toArray⟩) ∧ Below w.heap.size w w' := by
  obtain ⟨n, rfl⟩ : ∃ n : Nat, v = n := ⟨v.toNat, by omega⟩
  rw [Int.toNat_natCast]
  exact Fi.rtext_any n (by omega) w
theorem Rw.rdig_int (v : Int) (h0 : 0 ≤ v) (h1 : v < 9223372036854775808) (w : World) :
    Calls Tryz.prog 128 #[.int .i64 v] w fun e w' => e = .returned (.string ⟨(Lib.decDigits v.toNat).toArray⟩) ∧ Below w.heap.size w w' := by
  obtain ⟨n, rfl⟩ : ∃ n : Nat, v = n := ⟨v.toNat, by omega⟩
  rw [Int.toNat_natCast]
  exact Fi.digits_any n w (by omega)
theorem Rw.ba_size (l : List UInt8) : (⟨l.toArray⟩ : ByteArray).size = l.length := by show l.toArray.size = _; simp
/-- A row's mapping, written. -/
def Rw.mtext (m : List Int) : List UInt8 := Fi.glue 32 (m.map fun c => Fi.text c.toNat)
theorem Rw.mtext_snoc (m : List Int) (c : Int) : Rw.mtext (m ++ [c]) = (if m = [] then Fi.text c.toNat else Rw.mtext m ++ 32 :: Fi.text c.toNat) := by
  unfold Rw.mtext
  rw [List.map_append, List.map_singleton, Fi.glue_snoc]
  rcases m with _ | ⟨a, t⟩ <;> simp
theorem Rw.mtext_len : ∀ (k : Nat) (m : List Int), m.length = k → (∀ c ∈ m, 0 ≤ c ∧ c < 16777216) → (Rw.mtext m).length ≤ 7 * k
  | 0, m, h, _ => by
    obtain rfl : m = [] := List.length_eq_zero_iff.1 h
    simp [Rw.mtext, Fi.glue]
  | k + 1, m, h, hc => by
    rcases List.eq_nil_or_concat m with rfl | ⟨t, c, hmt⟩
    · simp at h
    rw [List.concat_eq_append] at hmt
    subst hmt
    have ih := Rw.mtext_len k t (by simpa using h) fun x hx => hc x (by simp [hx])
    have h1 := hc c (by simp)
    have h2 := Fi.nd_le 5 c.toNat (by rw [show (16 : Nat) ^ (5 + 1) = 16777216 from by decide]; omega)
    have h3 := Fi.text_len c.toNat
    rw [Rw.mtext_snoc]
    split
    · omega
    · simp; omega

set_option maxRecDepth 100000 in
set_option maxHeartbeats 4000000 in
theorem Rw.rline_any (c k : Int) (A : Option Addr) (m : List Int) (n cp B : Nat) (w : World) (c0 : 0 ≤ c) (c1 : c < 16777216) (k0 : 0 ≤ k) (k1 : k < 1000000000) (hn : m.length = n) (hm : n ≤ 1000) (hmb : ∀ x ∈ m, 0 ≤ x ∧ x < 16777216)
    (hB : B ≤ w.heap.size) (hA : Sl w B A (m.map (Value.int .i64))) :
    Calls Tryz.prog 96 #[.agg #[.int .i64 c, .int .i64 k, .slice A n cp]] w fun e w' => e = .returned (.string ⟨(Rw.line (c, k, m)).toArray⟩) ∧ Below w.heap.size w w' := by
  have hT := Rw.rtext_int c c0 c1
  have hD := Rw.rdig_int k k0 (by omega)
  have l1 : (Fi.text c.toNat).length ≤ 6 := by
    have h2 := Fi.nd_le 5 c.toNat (by rw [show (16 : Nat) ^ (5 + 1) = 16777216 from by decide]; omega)
    have h3 := Fi.text_len c.toNat
    omega
  have l2 := Fi.dec_len 9 k.toNat (by rw [show (10 : Nat) ^ (9 + 1) = 10000000000 from by decide]; omega)
  obtain ⟨tc, htc⟩ : ∃ x : ByteArray, ⟨(Fi.text c.toNat).toArray⟩ = x := ⟨_, rfl⟩
  obtain ⟨dk, hdk⟩ : ∃ x : ByteArray, ⟨(Lib.decDigits k.toNat).toArray⟩ = x := ⟨_, rfl⟩
  have s1 : tc.size ≤ 6 := by rw [← htc, Rw.ba_size]; exact l1
  have s2 : dk.size ≤ 10 := by rw [← hdk, Rw.ba_size]; exact l2
  simp only [htc] at hT
  simp only [hdk] at hD
  obtain ⟨mt, hmt⟩ : ∃ x : ByteArray, ⟨(Rw.mtext m).toArray⟩ = x := ⟨_, rfl⟩
  have s3 : mt.size ≤ 7000 := by
    rw [← hmt, Rw.ba_size]
    have := Rw.mtext_len n m hn hmb
    omega
  have hres : (((((tc ++ ⟨#[59, 88, 59, 59]⟩) ++ dk) ++ ⟨#[59, 59]⟩) ++ mt) ++ ⟨#[59, 59, 59, 59, 59, 59, 59, 59, 59]⟩ : ByteArray) = ⟨(Rw.line (c, k, m)).toArray⟩ := by
    rw [← htc, ← hdk, ← hmt, show (⟨#[59, 88, 59, 59]⟩ : ByteArray) = ⟨[59, 88, 59, 59].toArray⟩ from rfl, show (⟨#[59, 59]⟩ : ByteArray) = ⟨[59, 59].toArray⟩ from rfl, show (⟨#[59, 59, 59, 59, 59, 59, 59, 59, 59]⟩ : ByteArray) = ⟨[59, 59, 59, 59, 59, 59, 59, 59, 59].toArray⟩ from rfl]
    simp only [Fi.ba_app]
    unfold Rw.line Rw.mtext
    simp only [List.append_assoc]
  have HR := Lib.hid hres
  have HN := Lib.hid hn
  have HMB := Lib.hid hmb
  have HMT := Lib.hid hmt
  clear hres htc hdk hn hmb hmt l1 l2
  have hnew := Rw.At.new w 59 [.int .i64 c, .int .i64 k, .slice A n cp]
  obtain ⟨d1, d2, d3, d4, d5, d6⟩ := hnew.three
  clear d4 d5 d6
  go_enter Tryz.func96, Tryz.ntmps96
  go_wp2_with fail
  obtain ⟨wa, hwa⟩ : ∃ wa, w.alloc (.cells #[.int .i64 c, .int .i64 k, .slice A n cp] 59) = wa := ⟨_, rfl⟩
  have hwz : w.heap.size < wa.heap.size := by rw [← hwa]; simp
  have hbel0 : Below w.heap.size w wa := by rw [← hwa]; exact (Below.refl _ _).alloc (Nat.le_refl _) _
  have hnewa : Rw.At wa w.heap.size 59 [.int .i64 c, .int .i64 k, .slice A n cp] := by rw [← hwa]; exact hnew
  clear d1 d2 d3
  rw [hwa]
  have HA := Lib.hid (hA.below (hbel0.mono hB) (Nat.le_of_lt (Nat.lt_of_le_of_lt hB hwz)))
  have HB0 := Lib.hid hbel0
  clear hwa hnew hA hbel0
  go_loopw [3, 4, 5, 9] (fun v3 _ _ i wr => ∃ j : Nat, j ≤ n ∧ i = .int .i64 j ∧ v3 = .string ⟨(Rw.mtext (m.take j)).toArray⟩ ∧ Below wa.heap.size wa wr) (fun _ _ _ i _ => n - (intOf i).toNat)
  case atStart => exact ⟨0, Nat.zero_le _, rfl, rfl, Below.refl _ _⟩
  case round =>
    obtain ⟨j, hj, rfl, rfl, hbel⟩ := hrel
    by_cases hlt : j < n
    · obtain ⟨x, hx⟩ : ∃ x, m[j]? = some x := ⟨_, List.getElem?_eq_getElem (by rw [HN.out]; exact hlt)⟩
      have hxb := HMB.out x (List.mem_of_getElem? hx)
      obtain ⟨ab, ao, rfl, hab, hac⟩ := HA.out (by rw [List.length_map, HN.out]; omega)
      have hc := hac j (by rw [List.length_map, HN.out]; exact hlt)
      rw [List.getElem?_map, hx, Option.map_some, ← (bcell hbel).1 _ _ hab] at hc
      have hX := Rw.rtext_int x hxb.1 hxb.2
      have hsz : (⟨(Rw.mtext (m.take j)).toArray⟩ : ByteArray).size ≤ 7000 := by
        rw [Rw.ba_size]
        have := Rw.mtext_len (m.take j).length (m.take j) rfl (fun y hy => HMB.out y (List.mem_of_mem_take hy))
        have : (m.take j).length ≤ j := List.length_take_le _ _
        omega
      have htx : (⟨(Fi.text x.toNat).toArray⟩ : ByteArray).size ≤ 6 := by
        rw [Rw.ba_size]
        have h2 := Fi.nd_le 5 x.toNat (by rw [show (16 : Nat) ^ (5 + 1) = 16777216 from by decide]; omega)
        have h3 := Fi.text_len x.toNat
        omega
      have hnext : m.take (j + 1) = m.take j ++ [x] := by rw [List.take_add_one, hx]; rfl
      have hempty : m.take j = [] ↔ j = 0 := by
        constructor
        · intro h
          have := congrArg List.length h
          rw [List.length_take, HN.out, List.length_nil] at this
          omega
        · rintro rfl; rfl
      obtain ⟨ms, hms⟩ : ∃ y : ByteArray, ⟨(Rw.mtext (m.take j)).toArray⟩ = y := ⟨_, rfl⟩
      obtain ⟨tx, htxe⟩ : ∃ y : ByteArray, ⟨(Fi.text x.toNat).toArray⟩ = y := ⟨_, rfl⟩
      have hfin : (if j = 0 then ms ++ tx else ms ++ ⟨#[32]⟩ ++ tx) = ⟨(Rw.mtext (m.take (j + 1))).toArray⟩ := by
        rw [hnext, Rw.mtext_snoc, ← hms, ← htxe]
        by_cases h0 : j = 0
        · rw [if_pos h0, if_pos (hempty.2 h0), hempty.2 h0]
          simp [Rw.mtext, Fi.glue, Fi.ba_app]
        · rw [if_neg h0, if_neg (fun h => h0 (hempty.1 h)), show (⟨#[32]⟩ : ByteArray) = ⟨[32].toArray⟩ from rfl]
          simp only [Fi.ba_app]
          simp
      rw [hms] at hsz ⊢
      rw [htxe] at htx
      simp only [htxe] at hX
      have HFIN := Lib.hid hfin
      have HBEL := Lib.hid hbel
      have hcat1 : ¬ 9223372036854775807 < ms.size + tx.size := by omega
      have hcat2 : ¬ 9223372036854775807 < ms.size + (⟨#[32]⟩ : ByteArray).size := by have : (⟨#[32]⟩ : ByteArray).size = 1 := rfl; omega
      have hcat3 : ¬ 9223372036854775807 < (ms ++ ⟨#[32]⟩).size + tx.size := by
        have : (⟨#[32]⟩ : ByteArray).size = 1 := rfl
        rw [ByteArray.size_append]; omega
      have hltI : (j : Int) < n := by omega
      clear hnext hempty hms htxe hfin hbel hx hac
      by_cases h0 : j = 0
      · subst h0
        rw [if_pos rfl] at HFIN
        rw [Nat.add_zero] at hc
        go_wp2_with fail
        refine (hX _).mono ?_
        rintro e w3 ⟨rfl, hb3⟩
        have HB3 := Lib.hid hb3
        clear hb3
        go_wp2_with fail
        exact ⟨⟨1, by omega, rfl, by rw [HFIN.out], HBEL.out.trans (HB3.out.mono HBEL.out.size)⟩, by simp [intOf]; omega⟩
      · rw [if_neg h0] at HFIN
        have h1 : (0 : Int) < (j : Int) := by omega
        go_wp2_with fail
        refine (hX _).mono ?_
        rintro e w3 ⟨rfl, hb3⟩
        have HB3 := Lib.hid hb3
        clear hb3
        go_wp2_with fail
        exact ⟨⟨j + 1, by omega, by go_num, by rw [HFIN.out], HBEL.out.trans (HB3.out.mono HBEL.out.size)⟩, by simp [intOf]; omega⟩
    · obtain rfl : j = n := by omega
      have hltI : ¬ (j : Int) < j := by omega
      have hmt : (⟨(Rw.mtext (m.take j)).toArray⟩ : ByteArray) = mt := by rw [List.take_of_length_le (by rw [HN.out]; exact Nat.le_refl _)]; exact HMT.out
      rw [hmt]
      obtain ⟨d1, d2, d3, _, _, _⟩ := (hnewa.below hbel).three
      have hwr : w.heap.size < wr.heap.size := Nat.lt_of_lt_of_le hwz hbel.size
      have HBEL := Lib.hid hbel
      clear hmt hbel hnewa d3
      have hc1 : ¬ 9223372036854775807 < tc.size + (⟨#[59, 88, 59, 59]⟩ : ByteArray).size := by have : (⟨#[59, 88, 59, 59]⟩ : ByteArray).size = 4 := rfl; omega
      have hc2 : ¬ 9223372036854775807 < (tc ++ (⟨#[59, 88, 59, 59]⟩ : ByteArray)).size + dk.size := by
        have : (⟨#[59, 88, 59, 59]⟩ : ByteArray).size = 4 := rfl
        rw [ByteArray.size_append]; omega
      have hc3 : ¬ 9223372036854775807 < (tc ++ (⟨#[59, 88, 59, 59]⟩ : ByteArray) ++ dk).size + (⟨#[59, 59]⟩ : ByteArray).size := by
        have : (⟨#[59, 88, 59, 59]⟩ : ByteArray).size = 4 := rfl
        have : (⟨#[59, 59]⟩ : ByteArray).size = 2 := rfl
        simp only [ByteArray.size_append]; omega
      have hc4 : ¬ 9223372036854775807 < (tc ++ (⟨#[59, 88, 59, 59]⟩ : ByteArray) ++ dk ++ (⟨#[59, 59]⟩ : ByteArray)).size + mt.size := by
        have : (⟨#[59, 88, 59, 59]⟩ : ByteArray).size = 4 := rfl
        have : (⟨#[59, 59]⟩ : ByteArray).size = 2 := rfl
        simp only [ByteArray.size_append]; omega
      have hc5 : ¬ 9223372036854775807 < (tc ++ (⟨#[59, 88, 59, 59]⟩ : ByteArray) ++ dk ++ (⟨#[59, 59]⟩ : ByteArray) ++ mt).size + (⟨#[59, 59, 59, 59, 59, 59, 59, 59, 59]⟩ : ByteArray).size := by
        have : (⟨#[59, 88, 59, 59]⟩ : ByteArray).size = 4 := rfl
        have : (⟨#[59, 59]⟩ : ByteArray).size = 2 := rfl
        have : (⟨#[59, 59, 59, 59, 59, 59, 59, 59, 59]⟩ : ByteArray).size = 9 := rfl
        simp only [ByteArray.size_append]; omega
      have hd1 : ¬ 9223372036854775807 < tc.size + 4 := by omega
      have hd2 : ¬ 9223372036854775807 < tc.size + 4 + dk.size := by omega
      have hd3 : ¬ 9223372036854775807 < tc.size + 4 + dk.size + 2 := by omega
      have hd4 : ¬ 9223372036854775807 < tc.size + 4 + dk.size + 2 + mt.size := by omega
      have hd5 : ¬ 9223372036854775807 < tc.size + 4 + dk.size + 2 + mt.size + 9 := by omega
      have hxx : Below wr.heap.size wr wr := Below.refl _ _
      go_wp2_with fail
      go_region_held3 (fun w' => w'.cell? ⟨w.heap.size, 0, none⟩ = some (.int .i64 c) ∧ w'.cell? ⟨w.heap.size, 1, none⟩ = some (.int .i64 k) ∧ Below wr.heap.size wr w')
        (first
          | exact Rw.keep2 d1 d2 hwr hwr hxx
          | exact Rw.keep2 d1 d2 hwr hwr hxx.drew
          | exact Rw.keep2 d1 d2 hwr hwr hbz9
          | fail)
        (first
          | (go_at_call 67; refine (hT _).mono ?_; rintro e wq ⟨rfl, hbc⟩; have hbz9 := (Rw.third (W := wr) (by assumption)).trans (hbc.mono (Rw.third (W := wr) (by assumption)).size))
          | (go_at_call 128; refine (hD _).mono ?_; rintro e wq ⟨rfl, hbc⟩; have hbz9 := (Rw.third (W := wr) (by assumption)).trans (hbc.mono (Rw.third (W := wr) (by assumption)).size))
          | fail)
      all_goals
        have hbf := Lib.hid (Rw.third (W := wr) (by assumption))
        go_wp2_with fail
        go_ret
        exact ⟨by rw [← HR.out]; rfl, HB0.out.trans ((HBEL.out.trans (hbf.out.mono HBEL.out.size)).mono (Nat.le_of_lt hwz))⟩
end Go.Proofs.YtkmfegamblmpeaaGreatDoor

/- A strings.Builder: copyCheck, WriteString, by walking their texts (the check's refusal stands in this program as a stop). -/
namespace Go.Proofs.YtkmfegamblmpeaaGreatDoor
open Go.RowKit
set_option linter.unusedSimpArgs false
set_option linter.unusedVariables false

end Go.Proofs.YtkmfegamblmpeaaGreatDoor

/- A set's characters rise. -/
namespace Go.Proofs.YtkmfegamblmpeaaGreatDoor
set_option linter.unusedSimpArgs false
set_option linter.unusedVariables false

end Go.Proofs.YtkmfegamblmpeaaGreatDoor

/- The layer excl: Text, by walking its text. -/
namespace Go.Proofs.YtkmfegamblmpeaaGreatDoor
open Go.RowKit
set_option linter.unusedSimpArgs false
set_option linter.unusedVariables false

/-- Characters' lines. -/
def Ex.btxt (X : List Int) : List UInt8 := X.flatMap fun c => Fi.text c.toNat ++ [10]
theorem Ex.btxt_snoc (X : List Int) (c : Int) : Ex.btxt (X ++ [c]) = Ex.btxt X ++ (Fi.text c.toNat ++ [10]) := by simp [Ex.btxt]
theorem Ex.btxt_len : ∀ (X : List Int), (∀ c ∈ X, 0 ≤ c ∧ c ≤ 1114111) → (Ex.btxt X).length ≤ 7 * X.length
  | [], _ => by simp [Ex.btxt]
  | c :: X, h => by
    have h1 := Fi.text_le c.toNat (by have := (h c List.mem_cons_self).2; omega)
    have h2 := Ex.btxt_len X fun d hd => h d (List.mem_cons_of_mem _ hd)
    unfold Ex.btxt at h2 ⊢
    rw [List.flatMap_cons]
    simp only [List.length_append, List.length_cons, List.length_nil]
    omega
theorem Ex.strip_text (n : Nat) : Fi.strip (Fi.text n) = Fi.text n := by
  obtain ⟨x, m, y, h1, h2, h3, h4⟩ := Ex.text_ends n
  unfold Fi.strip
  rw [Ex.cut_miss _ (Ex.text_no35 n)]
  have := Ex.trim_pad 0 (Fi.text n) x y m h1 h2 h3 h4 0
  simpa using this
theorem Ex.steps_texts : ∀ (l : List Int) (seen : List Int), (∀ c ∈ l, C.isC c = true) → l.Nodup → (∀ c ∈ l, c ∉ seen) → Ex.steps seen (l.map fun c => Fi.text c.toNat) = some (seen ++ l)
  | [], seen, _, _, _ => by simp [Ex.steps]
  | c :: l, seen, h1, h2, h3 => by
    have hc := h1 c List.mem_cons_self
    have hc' : 0 ≤ c ∧ c ≤ 1114111 := by
      unfold C.isC at hc
      have := of_decide_eq_true hc
      omega
    have hl : Ex.line seen (Fi.text c.toNat) = some (seen ++ [c]) := by
      unfold Ex.line
      rw [Ex.strip_text, if_neg (Rw.text_ne _), Fi.hex_text _ (by omega), Option.bind_some, Rw.nat_cast hc'.1, if_pos ⟨hc, h3 c List.mem_cons_self⟩]
    rw [List.map_cons, Ex.steps, hl, Option.bind_some, Ex.steps_texts l (seen ++ [c]) (fun d hd => h1 d (List.mem_cons_of_mem _ hd)) (List.nodup_cons.1 h2).2 (fun d hd hm => by
      rcases List.mem_append.1 hm with h | h
      · exact h3 d (List.mem_cons_of_mem _ hd) h
      · rw [List.mem_singleton] at h
        subst h
        exact (List.nodup_cons.1 h2).1 hd)]
    simp
theorem Ex.parse_btxt (l : List Int) (h1 : ∀ c ∈ l, C.isC c = true) (h2 : l.Nodup) (hn : l.length ≤ 1000) : Ex.parse (Ex.btxt l) = some l := by
  have hb : ∀ c ∈ l, 0 ≤ c ∧ c ≤ 1114111 := fun c hc => by
    have := h1 c hc
    unfold C.isC at this
    have := of_decide_eq_true this
    omega
  have hok : ∀ x ∈ l.map (fun c => Fi.text c.toNat), Rw.okl x = true := by
    intro x hx
    obtain ⟨c, hc, rfl⟩ := List.mem_map.1 hx
    have := Fi.text_le c.toNat (by have := (hb c hc).2; omega)
    exact Ex.ok_of (by omega) fun b hb' => by have := Rw.text_bytes _ b hb'; omega
  have hlns : Rw.lns [] (Ex.btxt l) = l.map fun c => Fi.text c.toNat := by
    have := Rw.lns_text (l.map fun c => Fi.text c.toNat) fun x hx => Ex.ok_no (hok x hx)
    rw [List.flatMap_map] at this
    exact this
  unfold Ex.parse
  rw [hlns, if_pos ⟨by rw [List.all_eq_true]; exact hok, by simp; omega⟩, Ex.steps_texts l [] h1 h2 (fun c _ => by simp)]
  simp

end Go.Proofs.YtkmfegamblmpeaaGreatDoor
