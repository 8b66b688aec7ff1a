/- The laws FieldHex and FieldParts, by walking their texts. -/
import Derived.Test.YtbhocnfjpiifiaaDoorFiStrip
import Derived.Laws.Bits128
import Derived.Laws.BitsAllLaws
namespace Go.Proofs.YtbhocnfjpiifiaaDoor
open Go.RowKit Go.Stop
set_option linter.unusedSimpArgs false
set_option linter.unusedVariables false

theorem Fi.ba_len (s : ByteArray) : s.data.toList.length = s.size := by simp
def Fi.cutS (s : ByteArray) (n : Nat) : ByteArray := if n < s.size then s.extract 0 n else s
theorem Fi.cutS_list (s : ByteArray) (n : Nat) : (Fi.cutS s n).data.toList = s.data.toList.take n := by
  unfold Fi.cutS
  split
  · rw [Lib.extract_data]; simp
  · rw [List.take_of_length_le (by simp; omega)]
theorem Fi.cutS_size (s : ByteArray) (n : Nat) : (Fi.cutS s n).size ≤ n := by
  rw [← Fi.ba_len, Fi.cutS_list, List.length_take]; omega

set_option maxRecDepth 100000 in
set_option maxHeartbeats 400000 in
theorem Fi.cut_any (s : ByteArray) (n : Nat) (w : World) (hs : s.size ≤ maxLen) :
    Calls Tryd.prog 9 #[.string s, .int .i64 n] w fun e w' => e = .returned (.string (Fi.cutS s n)) ∧ w = w' := by
  unfold maxLen at hs
  by_cases h : n < s.size
  · have hc : Fi.cutS s n = s.extract 0 n := by unfold Fi.cutS; rw [if_pos h]
    have HC := Lib.hid hc
    clear hc
    go_enter Tryd.func9, Tryd.ntmps9
    go_wp2
    go_ret
    rw [HC.out]
    exact ⟨rfl, rfl⟩
  · have hc : Fi.cutS s n = s := by unfold Fi.cutS; rw [if_neg h]
    have HC := Lib.hid hc
    clear hc
    go_enter Tryd.func9, Tryd.ntmps9
    go_wp2
    go_ret
    rw [HC.out]
    exact ⟨rfl, rfl⟩

def Fi.hexV (l : List UInt8) : Int := (Fi.hex l).getD 0
theorem Fi.k1 : Fi.hex [48, 48, 69, 57] = some 233 := by decide +kernel
theorem Fi.k2 : Fi.hex [48, 48, 48, 69, 57] = none := by decide +kernel
theorem Fi.k3 : Fi.strip [48, 57, 53, 56, 32, 35, 32, 97, 32, 110, 111, 116, 101] = [48, 57, 53, 56] := by decide +kernel
theorem Fi.nd233 : Fi.nd 233 = 2 := by rw [Fi.nd, dif_neg (by decide), Fi.nd, dif_pos (by decide)]
theorem Fi.k4 : Fi.text 233 = [48, 48, 69, 57] := by unfold Fi.text; rw [Fi.nd233]; decide +kernel

set_option maxRecDepth 100000 in
set_option maxHeartbeats 2000000 in
theorem Fi.awake_any (w : World) (hL : Fi.Laid w) : Calls Tryd.prog 5 #[] w fun e w' => e = .returned (.bool true) ∧ Below w.heap.size w w' := by
  have c1 : ∀ W : World, Calls Tryd.prog 7 #[.string ⟨#[48, 48, 69, 57]⟩] W fun e w' => e = .returned (.tuple #[.int .i32 233, .bool true]) ∧ w' = W := fun W => (Fi.hex_any _ W).mono fun e w' h => ⟨by
    have := h.1
    unfold Fi.RetHex at this
    rw [this, show (⟨#[48, 48, 69, 57]⟩ : ByteArray).data.toList = [48, 48, 69, 57] from rfl, Fi.k1]; rfl, h.2⟩
  have c2 : ∀ W : World, Calls Tryd.prog 7 #[.string ⟨#[48, 48, 48, 69, 57]⟩] W fun e w' => e = .returned (.tuple #[.int .i32 0, .bool false]) ∧ w' = W := fun W => (Fi.hex_any _ W).mono fun e w' h => ⟨by
    have := h.1
    unfold Fi.RetHex at this
    rw [this, show (⟨#[48, 48, 48, 69, 57]⟩ : ByteArray).data.toList = [48, 48, 48, 69, 57] from rfl, Fi.k2]; rfl, h.2⟩
  have c3 : ∀ W : World, Fi.Laid W → Calls Tryd.prog 13 #[.string ⟨#[48, 57, 53, 56, 32, 35, 32, 97, 32, 110, 111, 116, 101]⟩] W fun e w' => e = .returned (.string ⟨#[48, 57, 53, 56]⟩) ∧ Below W.heap.size W w' := fun W hW => (Fi.strip_any _ (by decide) W hW).mono fun e w' h => ⟨by
    rw [h.1, show (⟨#[48, 57, 53, 56, 32, 35, 32, 97, 32, 110, 111, 116, 101]⟩ : ByteArray).data.toList = [48, 57, 53, 56, 32, 35, 32, 97, 32, 110, 111, 116, 101] from rfl, Fi.k3], h.2⟩
  have c4 : ∀ W : World, Fi.Laid W → Calls Tryd.prog 6 #[.int .i32 233] W fun e w' => e = .returned (.string ⟨#[48, 48, 69, 57]⟩) ∧ Below W.heap.size W w' := fun W hW => (Fi.text_any 233 (by decide) W hW).mono fun e w' h => ⟨by
    rw [h.1, Fi.k4], h.2⟩
  go_enter Tryd.func5, Tryd.ntmps5
  go_wp2_with fail
  refine (c1 _).mono ?_
  rintro e w1 ⟨rfl, rfl⟩
  go_wp2_with fail
  refine (c2 _).mono ?_
  rintro e w2 ⟨rfl, rfl⟩
  go_wp2_with fail
  refine (c3 _ (by assumption)).mono ?_
  rintro e w3 ⟨rfl, hb3⟩
  have L3 := hL.below hb3
  go_wp2_with fail
  refine (c4 _ L3).mono ?_
  rintro e w4 ⟨rfl, hb4⟩
  go_wp2_with fail
  go_ret
  exact ⟨rfl, hb3.trans (hb4.mono hb3.size)⟩

theorem Fi.and21 (n : Int) : ∃ c : Nat, bits .and .i64 n 2097151 = (c : Int) ∧ c < 2097152 := by
  have hm : (BitVec.ofInt 64 2097151).toNat = 2 ^ 21 - 1 := by decide
  have key : (BitVec.ofInt 64 n &&& BitVec.ofInt 64 2097151).toNat = (n % ((2 ^ 64 : Nat) : Int)).toNat % 2 ^ 21 := by
    rw [BitVec.toNat_and, BitVec.toNat_ofInt, hm, Nat.and_two_pow_sub_one_eq_mod]
  refine ⟨(n % ((2 ^ 64 : Nat) : Int)).toNat % 2 ^ 21, ?_, ?_⟩
  · show IntKind.i64.wrap ((BitVec.ofInt 64 n &&& BitVec.ofInt 64 2097151).toNat : Nat) = _
    rw [key, IntKind.wrap_i64]
    omega
  · have : (2 : Nat) ^ 21 = 2097152 := by decide
    omega

set_option maxRecDepth 100000 in
set_option maxHeartbeats 2000000 in
theorem Fi.hex_row (W : World) (x : Int) (h0 : -9223372036854775808 ≤ x) (h1 : x ≤ 9223372036854775807) (hL : Fi.Laid W) :
    Calls Tryd.prog 3 #[.int .i64 x] W fun e w' => e = .returned (.bool true) ∧ Below W.heap.size W w' := by
  obtain ⟨q, hq, hq2⟩ := Fi.and21 x
  obtain ⟨c, hc⟩ : ∃ c, q % 1114112 = c := ⟨_, rfl⟩
  have hc2 : c < 1114112 := by omega
  have hm : ((q : Int)).tmod 1114112 = (c : Int) := by
    rw [← hc, Int.tmod_eq_emod_of_nonneg (by omega)]; omega
  have hhex := Fi.hex_text c (by omega)
  obtain ⟨s, hs⟩ : ∃ s, (⟨(Fi.text c).toArray⟩ : ByteArray) = s := ⟨_, rfl⟩
  have c1 : ∀ W : World, Fi.Laid W → Calls Tryd.prog 6 #[.int .i32 c] W fun e w' => e = .returned (.string s) ∧ Below W.heap.size W w' := fun W hW => (Fi.text_any c (by omega) W hW).mono fun e w' h => ⟨by rw [h.1, hs], h.2⟩
  have c2 : ∀ W : World, Calls Tryd.prog 7 #[.string s] W fun e w' => e = .returned (.tuple #[.int .i32 c, .bool true]) ∧ w' = W := fun W => (Fi.hex_any _ W).mono fun e w' h => ⟨by
    have := h.1
    unfold Fi.RetHex at this
    rw [this, ← hs, show (⟨(Fi.text c).toArray⟩ : ByteArray).data.toList = Fi.text c from rfl, hhex]; rfl, h.2⟩
  have c3 : ∀ W : World, Calls Tryd.prog 8 #[.int .i64 c] W fun e w' => e = .returned (.string s) ∧ Below W.heap.size W w' := fun W => (Fi.rtext_any c (by omega) W).mono fun e w' h => ⟨by rw [h.1, hs], h.2⟩
  have r0 : (0 : Int) ≤ c := by omega
  have r1 : (c : Int) ≤ 2147483647 := by omega
  clear hc hs hhex
  go_enter Tryd.func3, Tryd.ntmps3
  go_wp2_with fail
  refine (Fi.awake_any _ hL).mono ?_
  rintro e w1 ⟨rfl, hb1⟩
  have L1 := hL.below hb1
  go_wp2_with fail
  refine (c1 _ L1).mono ?_
  rintro e w2 ⟨rfl, hb2⟩
  go_wp2_with fail
  refine (c2 _).mono ?_
  rintro e w3 ⟨rfl, rfl⟩
  go_wp2_with fail
  refine (c3 _).mono ?_
  rintro e w4 ⟨rfl, hb4⟩
  go_wp2_with fail
  go_ret
  exact ⟨rfl, (hb1.trans (hb2.mono hb1.size)).trans (hb4.mono (Nat.le_trans hb1.size hb2.size))⟩

theorem Fi.flat_take : ∀ (l : List (List UInt8)) (i : Nat), (l.take i).flatten.length ≤ l.flatten.length
  | [], i => by simp
  | x :: r, 0 => by simp
  | x :: r, i + 1 => by
    have := Fi.flat_take r i
    simp only [List.take_succ_cons, List.flatten_cons, List.length_append]
    omega
theorem Fi.glue_take (c : UInt8) (l : List (List UInt8)) (i : Nat) : (Fi.glue c (l.take i)).length ≤ (Fi.glue c l).length := by
  rcases l with _ | ⟨x, r⟩
  · simp [Fi.glue]
  rcases i with _ | i
  · simp [Fi.glue]
  simp only [List.take_succ_cons, Fi.glue, List.length_append, List.map_take]
  have := Fi.flat_take (r.map fun y => c :: y) i
  omega
theorem Fi.glue_size {l : List (List UInt8)} {t : List UInt8} (h : Fi.glue 59 l = t) (i : Nat) : (⟨(Fi.glue 59 (l.take i)).toArray⟩ : ByteArray).size ≤ t.length := by
  have := Fi.glue_take 59 l i
  rw [h] at this
  show (Fi.glue 59 (l.take i)).toArray.size ≤ _
  simpa using this

set_option maxRecDepth 100000 in
set_option maxHeartbeats 4000000 in
theorem Fi.parts_row (W : World) (s : ByteArray) (hs : s.size ≤ maxLen) (hL : Fi.Laid W) :
    Calls Tryd.prog 4 #[.string s] W fun e w' => e = .returned (.bool true) ∧ Below W.heap.size W w' := by
  have hcut := Fi.cut_any s 300
  obtain ⟨t, ht⟩ : ∃ t, Fi.cutS s 300 = t := ⟨_, rfl⟩
  have hts : t.size ≤ 300 := by rw [← ht]; exact Fi.cutS_size s 300
  have hcut' : ∀ W : World, Calls Tryd.prog 9 #[.string s, .int .i64 300] W fun e w' => e = .returned (.string t) ∧ W = w' := fun W => by rw [← ht]; exact hcut W hs
  obtain ⟨P, hP⟩ : ∃ P, Fi.spl 59 [] t.data.toList = P := ⟨_, rfl⟩
  have hglue : Fi.glue 59 P = t.data.toList := by rw [← hP, Fi.glue_spl]; rfl
  have htl : t.data.toList.length = t.size := by simp
  have hPl : P.length ≤ 301 := by
    rw [← hP]
    have := Fi.spl_len 59 t.data.toList []
    omega
  have c1 : ∀ W : World, Fi.Laid W → Calls Tryd.prog 10 #[.string t] W (Fi.RetStrs W P) := fun W hW => by rw [← hP]; exact Fi.split_any t (by omega) W hW
  have c2 : ∀ W : World, Calls Tryd.prog 12 #[.string t, .int .u8 59] W (Fi.RetStrs W P) := fun W => by rw [← hP]; exact Fi.rsplit_any 59 t (by omega) W
  obtain ⟨st, hst⟩ : ∃ st, (⟨(Fi.strip t.data.toList).toArray⟩ : ByteArray) = st := ⟨_, rfl⟩
  have c3 : ∀ W : World, Fi.Laid W → Calls Tryd.prog 13 #[.string t] W fun e w' => e = .returned (.string st) ∧ Below W.heap.size W w' := fun W hW => by rw [← hst]; exact Fi.strip_any t (by omega) W hW
  have c4 : ∀ W : World, Calls Tryd.prog 14 #[.string t] W fun e w' => e = .returned (.string st) ∧ Below W.heap.size W w' := fun W => by rw [← hst]; exact Fi.rstrip_any t (by omega) W
  have HG := Lib.hid hglue
  have hgs : ∀ i, (⟨(Fi.glue 59 (P.take i)).toArray⟩ : ByteArray).size ≤ 300 := fun i => by
    have := Fi.glue_size hglue i
    omega
  clear hcut ht hP hglue htl hst
  go_enter Tryd.func4, Tryd.ntmps4
  go_wp2_with fail
  refine (Fi.awake_any _ hL).mono ?_
  rintro e w1 ⟨rfl, hb1⟩
  have L1 := hL.below hb1
  go_wp2_with fail
  refine (hcut' _).mono ?_
  rintro e w2 ⟨rfl, rfl⟩
  go_wp2_with fail
  refine (c1 _ L1).mono ?_
  rintro e w3 ⟨A, n, cp, rfl, hn, hA, hb3⟩
  have HA := Lib.hid hA
  have HN := Lib.hid hn
  have HB3 := Lib.hid hb3
  have HB1 := Lib.hid hb1
  rw [hn] at hPl
  have hn0 : (0 : Int) ≤ n := by omega
  clear hA hn hb3 hb1
  go_wp2_with fail
  go_loopw [4, 15] (fun vj vi wr => ∃ i : Nat, i ≤ n ∧ vi = .int .i64 i ∧ vj = .string ⟨(Fi.glue 59 (P.take i)).toArray⟩ ∧ wr = w3) (fun _ vi _ => n - (intOf vi).toNat)
  case atStart => exact ⟨0, by omega, rfl, rfl, rfl⟩
  case round =>
    obtain ⟨i, hi, rfl, rfl, rfl⟩ := hrel
    have hgi := hgs i
    have hgi1 := hgs (i + 1)
    by_cases hlt : (i : Int) < n
    · have hi' : i < n := by omega
      have n0 : (0 : Int) ≤ (i : Int) := by omega
      obtain ⟨x, hx⟩ : ∃ x, P[i]? = some x := ⟨_, List.getElem?_eq_getElem (by rw [HN.out]; omega)⟩
      obtain ⟨g, o, rfl, hg, hcell⟩ := HA.out (by rw [List.length_map, HN.out]; omega)
      have hc := hcell i (by rw [List.length_map, HN.out]; omega)
      rw [List.getElem?_map, hx] at hc
      simp only [Option.map_some] at hc
      have htk : P.take (i + 1) = P.take i ++ [x] := by rw [List.take_add_one, hx]; rfl
      have hsn := Fi.glue_snoc 59 (P.take i) x
      rw [← htk] at hsn
      obtain ⟨xb, hxb⟩ : ∃ xb : ByteArray, (⟨x.toArray⟩ : ByteArray) = xb := ⟨_, rfl⟩
      rw [hxb] at hc
      obtain ⟨gb, hgb⟩ : ∃ gb : ByteArray, (⟨(Fi.glue 59 (P.take i)).toArray⟩ : ByteArray) = gb := ⟨_, rfl⟩
      rw [hgb] at hgi ⊢
      have hxs : xb.size ≤ 300 := by
        have h1 : x.length ≤ (Fi.glue 59 (P.take (i + 1))).length := by
          rw [hsn]; split <;> simp; omega
        have h2 : (⟨(Fi.glue 59 (P.take (i + 1))).toArray⟩ : ByteArray).size = (Fi.glue 59 (P.take (i + 1))).length := by show (Fi.glue 59 (P.take (i + 1))).toArray.size = _; simp
        have h3 : xb.size = x.length := by rw [← hxb]; show x.toArray.size = _; simp
        omega
      have HX := Lib.hid hx
      have HXB := Lib.hid hxb
      have HGB := Lib.hid hgb
      rcases Nat.eq_zero_or_pos i with h0 | h0
      · subst h0
        rw [Nat.add_zero] at hc
        have hR : xb = ⟨(Fi.glue 59 (P.take 1)).toArray⟩ := by
          rw [show P.take 1 = P.take (0 + 1) from rfl, hsn, if_pos (by simp), hxb]
        have hgb0 : gb = ⟨#[]⟩ := by rw [← hgb]; simp [Fi.glue]
        have hR2 : gb ++ xb = ⟨(Fi.glue 59 (P.take (0 + 1))).toArray⟩ := by
          rw [← hgb, ← hxb, Fi.ba_app, hsn, if_pos (by simp)]
          simp [Fi.glue]
        have hcat : ¬ 9223372036854775807 < gb.size + xb.size := by omega
        have HR2 := Lib.hid hR2
        clear hcell hx htk hsn hxb hgb hR hR2 hgi1 hgb0
        go_wp2_with fail
        exact ⟨⟨1, by omega, by go_num, by first | exact congrArg Value.string HR2.out | (congr 1; exact HR2.out), trivial⟩, by simp [intOf]; omega⟩
      · have h0' : (i : Int) > 0 := by omega
        have hR2 : gb ++ (⟨#[59]⟩ : ByteArray) ++ xb = ⟨(Fi.glue 59 (P.take (i + 1))).toArray⟩ := by
          have hne : ¬ P.take i = [] := by
            intro h
            have := congrArg List.length h
            rw [List.length_take, HN.out] at this
            simp at this
            omega
          rw [← hgb, ← hxb, show (⟨#[59]⟩ : ByteArray) = ⟨[59].toArray⟩ from rfl, Fi.ba_app, Fi.ba_app, hsn, if_neg hne, List.append_assoc]
          rfl
        have hcat1 : ¬ 9223372036854775807 < gb.size + 1 := by omega
        obtain ⟨gb2, hgb2⟩ : ∃ gb2 : ByteArray, gb ++ (⟨#[59]⟩ : ByteArray) = gb2 := ⟨_, rfl⟩
        have hgs2 : gb2.size = gb.size + 1 := by rw [← hgb2, ByteArray.size_append]; rfl
        rw [hgb2] at hR2
        have hcat : ¬ 9223372036854775807 < gb2.size + xb.size := by omega
        have HR2 := Lib.hid hR2
        clear hcell hx htk hsn hxb hgb hR2 hgi1 hgs2
        go_wp2_with fail
        exact ⟨⟨i + 1, by omega, by go_num, by first | exact congrArg Value.string HR2.out | (congr 1; exact HR2.out), trivial⟩, by simp [intOf]; omega⟩
    · obtain rfl : i = n := by omega
      have hfin : (⟨(Fi.glue 59 (P.take i)).toArray⟩ : ByteArray) = t := by
        rw [List.take_of_length_le (by rw [HN.out]; exact Nat.le_refl _), HG.out, Lib.mk_data]
      rw [hfin]
      clear hfin hgi hgi1 hgs
      go_wp2_with fail
      refine (c2 _).mono ?_
      rintro e w4 ⟨A', n', cp', rfl, hn', hA', hb4⟩
      obtain rfl : n' = i := by rw [← hn', HN.out]
      have hb34 := HB3.out.trans (hb4.mono HB3.out.size)
      have L4 := L1.below hb34
      have hxs : P.map (fun x => Value.string ⟨x.toArray⟩) = (P.map fun x => (⟨x.toArray⟩ : ByteArray)).map Value.string := by rw [List.map_map]; rfl
      have hSA := HA.out.below hb4 hb4.size
      rw [hxs] at hSA hA'
      have hsame := Fi.same_any A A' cp cp' n' w4.heap.size _ w4 (by rw [List.length_map, HN.out]) (by omega) hSA hA'
      have HB34 := Lib.hid hb34
      clear hSA hA' hxs hb34 hb4 hn' c1 c2
      go_wp2_with fail
      refine hsame.mono ?_
      rintro e w5 ⟨rfl, hb5⟩
      have L5 := L4.below hb5
      go_wp2_with fail
      refine (c3 _ L5).mono ?_
      rintro e w6 ⟨rfl, hb6⟩
      go_wp2_with fail
      refine (c4 _).mono ?_
      rintro e w7 ⟨rfl, hb7⟩
      go_wp2_with fail
      go_ret
      have b56 := (hb5.trans (hb6.mono hb5.size)).trans (hb7.mono (Nat.le_trans hb5.size hb6.size))
      exact ⟨rfl, HB1.out.trans ((HB34.out.trans (b56.mono HB34.out.size)).mono HB1.out.size)⟩
end Go.Proofs.YtbhocnfjpiifiaaDoor
