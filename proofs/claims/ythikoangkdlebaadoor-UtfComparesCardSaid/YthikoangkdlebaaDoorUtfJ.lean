/- Comparing texts: plain law, and the walks of Compare, Char, Chars. -/
import Derived.Test.YthikoangkdlebaaDoorUtfH
import Derived.Test.YthikoangkdlebaaDoorLib4
import Derived.Lib.Bytealg
namespace Go.Proofs.YthikoangkdlebaaDoor
open Go.RowKit
set_option linter.unusedSimpArgs false
set_option linter.unusedVariables false

theorem U.u8_lt (p q : Int) (h1 : 0 ≤ p) (h2 : p < 256) (h3 : 0 ≤ q) (h4 : q < 256) : (U.u8 p < U.u8 q) ↔ p < q := by
  rw [UInt8.lt_iff_toNat_lt]
  have := U.u8_toNat p h1 h2
  have := U.u8_toNat q h3 h4
  omega
theorem U.cmp_cons (p q : Int) (s t : List UInt8) (h1 : 0 ≤ p) (h2 : p < 256) (h3 : 0 ≤ q) (h4 : q < 256) :
    Lib.compareBytes (U.u8 p :: s) (U.u8 q :: t) = if p < q then -1 else if q < p then 1 else Lib.compareBytes s t := by
  show (if U.u8 p < U.u8 q then _ else if U.u8 q < U.u8 p then _ else _) = _
  simp only [U.u8_lt p q h1 h2 h3 h4, U.u8_lt q p h3 h4 h1 h2]

def U.cmpL : List Int → List Int → Int
  | [], [] => 0
  | [], _ :: _ => -1
  | _ :: _, [] => 1
  | a :: x, b :: y => if a < b then -1 else if b < a then 1 else U.cmpL x y

theorem U.enc_one {c : Int} (h : c < 128) : U.enc c = [U.u8 c] := by unfold U.enc; rw [if_pos h]
theorem U.enc_two {c : Int} (h : ¬ c < 128) (h' : c < 2048) : U.enc c = [U.u8 (192 + c / 64), U.u8 (128 + c % 64)] := by unfold U.enc; rw [if_neg h, if_pos h']
theorem U.enc_three {c : Int} (h : ¬ c < 128) (h' : ¬ c < 2048) (h'' : c < 65536) : U.enc c = [U.u8 (224 + c / 4096), U.u8 (128 + c / 64 % 64), U.u8 (128 + c % 64)] := by unfold U.enc; rw [if_neg h, if_neg h', if_pos h'']
theorem U.enc_four {c : Int} (h : ¬ c < 128) (h' : ¬ c < 2048) (h'' : ¬ c < 65536) : U.enc c = [U.u8 (240 + c / 262144), U.u8 (128 + c / 4096 % 64), U.u8 (128 + c / 64 % 64), U.u8 (128 + c % 64)] := by unfold U.enc; rw [if_neg h, if_neg h', if_neg h'']

theorem U.cmp_enc (x y : Int) (hx : U.isC x = true) (hy : U.isC y = true) (s t : List UInt8) :
    Lib.compareBytes (U.enc x ++ s) (U.enc y ++ t) = if x < y then -1 else if y < x then 1 else Lib.compareBytes s t := by
  obtain ⟨x1, x2, -⟩ := (U.isC_iff x).1 hx
  obtain ⟨y1, y2, -⟩ := (U.isC_iff y).1 hy
  by_cases a1 : x < 128 <;> by_cases b1 : y < 128
  · rw [U.enc_one a1, U.enc_one b1]
    simp only [List.cons_append, List.nil_append]
    rw [U.cmp_cons x y _ _ (by omega) (by omega) (by omega) (by omega)]
  · rw [U.enc_one a1, if_pos (by omega)]
    by_cases b2 : y < 2048
    · rw [U.enc_two b1 b2]; simp only [List.cons_append, List.nil_append]; rw [U.cmp_cons _ _ _ _ (by omega) (by omega) (by omega) (by omega), if_pos (by omega)]
    · by_cases b3 : y < 65536
      · rw [U.enc_three b1 b2 b3]; simp only [List.cons_append, List.nil_append]; rw [U.cmp_cons _ _ _ _ (by omega) (by omega) (by omega) (by omega), if_pos (by omega)]
      · rw [U.enc_four b1 b2 b3]; simp only [List.cons_append, List.nil_append]; rw [U.cmp_cons _ _ _ _ (by omega) (by omega) (by omega) (by omega), if_pos (by omega)]
  · rw [U.enc_one b1, if_neg (by omega), if_pos (by omega)]
    by_cases b2 : x < 2048
    · rw [U.enc_two a1 b2]; simp only [List.cons_append, List.nil_append]; rw [U.cmp_cons _ _ _ _ (by omega) (by omega) (by omega) (by omega), if_neg (by omega), if_pos (by omega)]
    · by_cases b3 : x < 65536
      · rw [U.enc_three a1 b2 b3]; simp only [List.cons_append, List.nil_append]; rw [U.cmp_cons _ _ _ _ (by omega) (by omega) (by omega) (by omega), if_neg (by omega), if_pos (by omega)]
      · rw [U.enc_four a1 b2 b3]; simp only [List.cons_append, List.nil_append]; rw [U.cmp_cons _ _ _ _ (by omega) (by omega) (by omega) (by omega), if_neg (by omega), if_pos (by omega)]
  · by_cases a2 : x < 2048 <;> by_cases b2 : y < 2048
    · rw [U.enc_two a1 a2, U.enc_two b1 b2]
      simp only [List.cons_append, List.nil_append]
      rw [U.cmp_cons _ _ _ _ (by omega) (by omega) (by omega) (by omega), U.cmp_cons _ _ _ _ (by omega) (by omega) (by omega) (by omega)]
      repeat' split
      all_goals first | rfl | omega
    · rw [U.enc_two a1 a2, if_pos (by omega)]
      by_cases b3 : y < 65536
      · rw [U.enc_three b1 b2 b3]; simp only [List.cons_append, List.nil_append]; rw [U.cmp_cons _ _ _ _ (by omega) (by omega) (by omega) (by omega), if_pos (by omega)]
      · rw [U.enc_four b1 b2 b3]; simp only [List.cons_append, List.nil_append]; rw [U.cmp_cons _ _ _ _ (by omega) (by omega) (by omega) (by omega), if_pos (by omega)]
    · rw [U.enc_two b1 b2, if_neg (by omega), if_pos (by omega)]
      by_cases b3 : x < 65536
      · rw [U.enc_three a1 a2 b3]; simp only [List.cons_append, List.nil_append]; rw [U.cmp_cons _ _ _ _ (by omega) (by omega) (by omega) (by omega), if_neg (by omega), if_pos (by omega)]
      · rw [U.enc_four a1 a2 b3]; simp only [List.cons_append, List.nil_append]; rw [U.cmp_cons _ _ _ _ (by omega) (by omega) (by omega) (by omega), if_neg (by omega), if_pos (by omega)]
    · by_cases a3 : x < 65536 <;> by_cases b3 : y < 65536
      · rw [U.enc_three a1 a2 a3, U.enc_three b1 b2 b3]
        simp only [List.cons_append, List.nil_append]
        rw [U.cmp_cons _ _ _ _ (by omega) (by omega) (by omega) (by omega), U.cmp_cons _ _ _ _ (by omega) (by omega) (by omega) (by omega), U.cmp_cons _ _ _ _ (by omega) (by omega) (by omega) (by omega)]
        repeat' split
        all_goals first | rfl | omega
      · rw [U.enc_three a1 a2 a3, U.enc_four b1 b2 b3, if_pos (by omega)]; simp only [List.cons_append, List.nil_append]; rw [U.cmp_cons _ _ _ _ (by omega) (by omega) (by omega) (by omega), if_pos (by omega)]
      · rw [U.enc_three b1 b2 b3, U.enc_four a1 a2 a3, if_neg (by omega), if_pos (by omega)]; simp only [List.cons_append, List.nil_append]; rw [U.cmp_cons _ _ _ _ (by omega) (by omega) (by omega) (by omega), if_neg (by omega), if_pos (by omega)]
      · rw [U.enc_four a1 a2 a3, U.enc_four b1 b2 b3]
        simp only [List.cons_append, List.nil_append]
        rw [U.cmp_cons _ _ _ _ (by omega) (by omega) (by omega) (by omega), U.cmp_cons _ _ _ _ (by omega) (by omega) (by omega) (by omega), U.cmp_cons _ _ _ _ (by omega) (by omega) (by omega) (by omega), U.cmp_cons _ _ _ _ (by omega) (by omega) (by omega) (by omega)]
        repeat' split
        all_goals first | rfl | omega

theorem U.cmp_encs : ∀ (x y : List Int), (∀ c ∈ x, U.isC c = true) → (∀ c ∈ y, U.isC c = true) → Lib.compareBytes (U.encs x) (U.encs y) = U.cmpL x y
  | [], [], _, _ => rfl
  | [], c :: y, _, hy => by
    rw [U.encs_cons]
    have := (U.enc_pos c).1
    rcases he : U.enc c with _ | ⟨a, r⟩
    · rw [he] at this; simp at this
    · rfl
  | c :: x, [], hx, _ => by
    rw [U.encs_cons]
    have := (U.enc_pos c).1
    rcases he : U.enc c with _ | ⟨a, r⟩
    · rw [he] at this; simp at this
    · rfl
  | c :: x, d :: y, hx, hy => by
    rw [U.encs_cons, U.encs_cons, U.cmp_enc c d (hx c (by simp)) (hy d (by simp)), U.cmp_encs x y (fun z hz => hx z (List.mem_cons_of_mem _ hz)) (fun z hz => hy z (List.mem_cons_of_mem _ hz))]
    rfl

theorem U.cmpL_swap : ∀ x y : List Int, U.cmpL y x = - U.cmpL x y
  | [], [] => rfl
  | [], _ :: _ => rfl
  | _ :: _, [] => rfl
  | a :: x, b :: y => by
    show (if b < a then _ else if a < b then _ else _) = -(if a < b then _ else if b < a then _ else _)
    rw [U.cmpL_swap x y]
    repeat' split
    all_goals first | rfl | omega
theorem U.cmpL_zero : ∀ x y : List Int, U.cmpL x y = 0 ↔ x = y
  | [], [] => by simp [U.cmpL]
  | [], _ :: _ => by simp [U.cmpL]
  | _ :: _, [] => by simp [U.cmpL]
  | a :: x, b :: y => by
    show (if a < b then _ else if b < a then _ else _) = _ ↔ _
    rw [List.cons.injEq, ← U.cmpL_zero x y]
    repeat' split
    all_goals omega
theorem U.cmpL_bd : ∀ x y : List Int, -1 ≤ U.cmpL x y ∧ U.cmpL x y ≤ 1
  | [], [] => by simp [U.cmpL]
  | [], _ :: _ => by simp [U.cmpL]
  | _ :: _, [] => by simp [U.cmpL]
  | a :: x, b :: y => by
    have := U.cmpL_bd x y
    show _ ≤ (if a < b then _ else if b < a then _ else _) ∧ (if a < b then _ else if b < a then _ else _) ≤ _
    repeat' split
    all_goals omega
theorem U.encs_inj {x y : List Int} (hx : ∀ c ∈ x, U.isC c = true) (hy : ∀ c ∈ y, U.isC c = true) (h : U.encs x = U.encs y) : x = y :=
  (U.dec_unique (l := U.encs x) (r := []) (r' := []) ⟨by simp, hx, rfl⟩ ⟨by simp [h], hy, rfl⟩).1

set_option maxRecDepth 100000 in
set_option maxHeartbeats 400000 in
theorem U.compare_any (a b : ByteArray) (w : World) :
    Calls Tryd.prog 17 #[.string a, .string b] w fun e w' => e = .returned (.int .i64 (Lib.compareBytes a.data.toList b.data.toList)) ∧ w = w' := by
  have hr := fun w => Lib.run_compareString (P := Tryd.prog) a b w
  go_enter Tryd.func17, Tryd.ntmps17
  go_wp2
  rw [run_callFunc_extern Tryd.func32 (by kernel_rfl) (by kernel_rfl) (by kernel_rfl) (e := Extern.BytealgCompare.compare) (by kernel_rfl), hr]
  simp only [Result.andThen]
  rw [Oper.upon_value]
  go_wp2
  go_ret
  exact ⟨rfl, rfl⟩

theorem and_21 (n : Int) : bits .and .i64 n 2097151 = n % 2097152 := by
  have hm : (BitVec.ofInt 64 2097151).toNat = 2 ^ 21 - 1 := by decide
  have key : (BitVec.ofInt 64 n &&& BitVec.ofInt 64 2097151).toNat = (n % ((2 ^ 64 : Nat) : Int)).toNat % 2 ^ 21 := by
    rw [BitVec.toNat_and, BitVec.toNat_ofInt, hm, Nat.and_two_pow_sub_one_eq_mod]
  show IntKind.i64.wrap ((BitVec.ofInt 64 n &&& BitVec.ofInt 64 2097151).toNat : Nat) = n % 2097152
  rw [key, IntKind.wrap_i64]
  omega
theorem and_11 (n : Int) : bits .and .i64 n 2047 = n % 2048 := by
  have hm : (BitVec.ofInt 64 2047).toNat = 2 ^ 11 - 1 := by decide
  have key : (BitVec.ofInt 64 n &&& BitVec.ofInt 64 2047).toNat = (n % ((2 ^ 64 : Nat) : Int)).toNat % 2 ^ 11 := by
    rw [BitVec.toNat_and, BitVec.toNat_ofInt, hm, Nat.and_two_pow_sub_one_eq_mod]
  show IntKind.i64.wrap ((BitVec.ofInt 64 n &&& BitVec.ofInt 64 2047).toNat : Nat) = n % 2048
  rw [key, IntKind.wrap_i64]
  omega

def U.charK (x : Int) : Int := if U.isC (x % 2097152) then x % 2097152 else x % 2097152 % 2048
theorem U.charK_is (x : Int) : U.isC (U.charK x) = true := by
  unfold U.charK
  split
  · assumption
  · rw [U.isC_iff]; omega

theorem U.charK_bd (x : Int) : -2147483648 ≤ U.charK x ∧ U.charK x ≤ 2147483647 := by
  have := (U.isC_iff _).1 (U.charK_is x)
  omega

set_option maxRecDepth 100000 in
set_option maxHeartbeats 400000 in
theorem U.char_any (x : Int) (w : World) :
    Calls Tryd.prog 28 #[.int .i64 x] w fun e w' => e = .returned (.int .i32 (U.charK x)) ∧ w = w' := by
  have e1 := and_21 x
  have e2 := and_11 (x % 2097152)
  have b1 : 0 ≤ x % 2097152 := by omega
  have b2 : x % 2097152 ≤ 2097151 := by omega
  have b3 : 0 ≤ x % 2048 := by omega
  have b4 : x % 2048 ≤ 2047 := by omega
  by_cases hi : U.isC (x % 2097152) = true
  · have hk : U.charK x = x % 2097152 := by unfold U.charK; rw [if_pos hi]
    have HK := Lib.hid hk
    clear hk
    go_enter Tryd.func28, Tryd.ntmps28
    go_wp2_with (go_at_call 21; refine (U.ris_any _ _).mono ?_; rintro e w' ⟨rfl, rfl⟩)
    go_ret
    exact ⟨ret_int HK.out.symm, rfl⟩
  · have hk : U.charK x = x % 2048 := by unfold U.charK; rw [if_neg hi]; omega
    have hi' : U.isC (x % 2097152) = false := by simpa using hi
    have HK := Lib.hid hk
    clear hk hi
    go_enter Tryd.func28, Tryd.ntmps28
    go_wp2_with (go_at_call 21; refine (U.ris_any _ _).mono ?_; rintro e w' ⟨rfl, rfl⟩)
    go_ret
    exact ⟨ret_int HK.out.symm, rfl⟩

set_option maxRecDepth 100000 in
set_option maxHeartbeats 1000000 in
theorem U.chars_any (A : Option Addr) (len cap B : Nat) (l : List Int) (m : Nat) (w : World) (hB : B ≤ w.heap.size) (hl : l.length = min len m) (hm : m ≤ 1000) (hA : Sl w B A (l.map (Value.int .i64))) (hlen : len ≤ maxLen) :
    Calls Tryd.prog 15 #[.slice A len cap, .int .i64 m] w (RetOwn 21 .i32 (l.map U.charK) w) := by
  have HL := Lib.hid hl
  clear hl
  unfold maxLen at hlen
  obtain ⟨i0, hi, hz0, hz1, hz2⟩ := info_parts infoRune
  go_enter Tryd.func15, Tryd.ntmps15
  go_wp2
  go_loopw [6, 5] (fun i v wr => ∃ k : Nat, k ≤ len ∧ k ≤ m ∧ i = .int .i64 k ∧ wr.ownsRow w.heap.size 21 1 v k (((l.take k).map U.charK).map (Value.int .i32)) ∧ Below w.heap.size w wr) (fun i _ _ => m - (intOf i).toNat)
  case atStart => exact ⟨0, by omega, by omega, rfl, World.ownsRow_nil _ _ _ _, Below.refl _ _⟩
  case round =>
    obtain ⟨k, hk, hkm, rfl, hown, hbel⟩ := hrel
    have hsz := hbel.size
    have hfin : ¬ (k < len ∧ k < m) → wr.ownsRow w.heap.size 21 1 u5 (l.map U.charK).length ((l.map U.charK).map (Value.int .i32)) := by
      intro h
      have hkl : l.length = k := by rw [HL.out]; omega
      rw [List.length_map, hkl]
      rwa [List.take_of_length_le (by omega)] at hown
    have HF := Lib.hid hfin
    clear hfin
    by_cases hkn : (k : Int) < len
    · by_cases hkm' : (k : Int) < m
      · obtain ⟨x, hx⟩ : ∃ x, l[k]? = some x := ⟨_, List.getElem?_eq_getElem (by rw [HL.out]; omega)⟩
        obtain ⟨b, o, rfl, hlt, hc⟩ := hA.belowN hbel hB (Nat.le_refl _) (by rw [List.length_map, HL.out]; omega)
        have hcell := hc k (by rw [List.length_map, HL.out]; omega)
        rw [List.getElem?_map, hx] at hcell
        simp only [Option.map] at hcell
        have htk := take_succ_get hx
        have HTK := Lib.hid htk
        clear hx htk hc
        go_wp2_with (first | (go_at_call 28; refine (U.char_any _ _).mono ?_; rintro e w' ⟨rfl, rfl⟩) | (at_builtin; refine wpList_push1 _ rfl _ _ _ rfl w.heap.size 21 i0 _ 4 Tryd.underlying31 hi hz0 hz1 hz2 rfl _ k _ rfl hown _ rfl rfl (by simp only [maxLen]; omega) (by omega) hsz ?_; intro v1 w2 hown2 hb2))
        exact ⟨⟨k + 1, by omega, by omega, by go_num, by rw [HTK.out, List.map_append, List.map_append]; exact hown2, hbel.trans hb2⟩, by simp [intOf]; omega⟩
      · go_wp2
        go_ret
        exact RetOwn.mk (HF.out (by omega)) rfl rfl hbel
    · go_wp2
      go_ret
      exact RetOwn.mk (HF.out (by omega)) rfl rfl hbel

set_option maxRecDepth 100000 in
set_option maxHeartbeats 1000000 in
theorem U.rcompare_any (A A' : Option Addr) (c c' n m B : Nat) (x y : List Int) (w : World) (hB : B ≤ w.heap.size) (hx : x.length = n) (hy : y.length = m) (hn : n ≤ 1000000) (hm : m ≤ 1000000) (hA : Sl w B A (x.map (Value.int .i64))) (hA' : Sl w B A' (y.map (Value.int .i64))) :
    Calls Tryd.prog 18 #[.slice A n c, .slice A' m c'] w fun e w' => e = .returned (.int .i64 (U.cmpL x y)) ∧ Below w.heap.size w w' := by
  have HX := Lib.hid hx
  have HY := Lib.hid hy
  clear hx hy
  go_enter Tryd.func18, Tryd.ntmps18
  go_wp2
  go_loopw [5] (fun i wr => ∃ k : Nat, k ≤ n ∧ k ≤ m ∧ i = .int .i64 k ∧ U.cmpL (x.drop k) (y.drop k) = U.cmpL x y ∧ Below w.heap.size w wr) (fun i _ => n - (intOf i).toNat)
  case atStart => exact ⟨0, by omega, by omega, rfl, rfl, Below.refl _ _⟩
  case round =>
    obtain ⟨k, hk, hkm, rfl, hcmp, hbel⟩ := hrel
    have hsz := hbel.size
    have HC := Lib.hid hcmp
    clear hcmp
    by_cases hkn : (k : Int) < n
    · by_cases hkm' : (k : Int) < m
      · obtain ⟨p, hp⟩ : ∃ p, x[k]? = some p := ⟨_, List.getElem?_eq_getElem (by rw [HX.out]; omega)⟩
        obtain ⟨q, hq⟩ : ∃ q, y[k]? = some q := ⟨_, List.getElem?_eq_getElem (by rw [HY.out]; omega)⟩
        obtain ⟨b, o, rfl, hlt, hc⟩ := hA.belowN hbel hB (Nat.le_refl _) (by rw [List.length_map, HX.out]; omega)
        obtain ⟨b', o', rfl, hlt', hc'⟩ := hA'.belowN hbel hB (Nat.le_refl _) (by rw [List.length_map, HY.out]; omega)
        have d1 := hc k (by rw [List.length_map, HX.out]; omega)
        have d2 := hc' k (by rw [List.length_map, HY.out]; omega)
        rw [List.getElem?_map, hp] at d1
        rw [List.getElem?_map, hq] at d2
        simp only [Option.map] at d1 d2
        have dx : x.drop k = p :: x.drop (k + 1) := by
          have hkl : k < x.length := by rw [HX.out]; omega
          rw [List.drop_eq_getElem_cons hkl]
          rw [List.getElem?_eq_getElem hkl] at hp
          simp only [Option.some.injEq] at hp
          rw [hp]
        have dy : y.drop k = q :: y.drop (k + 1) := by
          have hkl : k < y.length := by rw [HY.out]; omega
          rw [List.drop_eq_getElem_cons hkl]
          rw [List.getElem?_eq_getElem hkl] at hq
          simp only [Option.some.injEq] at hq
          rw [hq]
        have hstep : U.cmpL x y = if p < q then -1 else if q < p then 1 else U.cmpL (x.drop (k + 1)) (y.drop (k + 1)) := by rw [← HC.out, dx, dy]; rfl
        have HS := Lib.hid hstep
        have g0 : (0 : Int) ≤ (k : Int) := by omega
        clear hc hc' hp hq dx dy hstep
        by_cases hlt1 : p < q
        · go_wp2
          go_quiet (fail)
          go_wp2
          go_ret
          rw [HS.out, if_pos hlt1]
          exact ⟨rfl, below_drewN hbel _⟩
        · by_cases hlt2 : q < p
          · go_wp2
            go_quiet (fail)
            go_wp2
            go_quiet (fail)
            go_wp2
            go_ret
            rw [HS.out, if_neg (by omega), if_pos hlt2]
            exact ⟨rfl, below_drewN (below_drewN hbel _) _⟩
          · go_wp2
            go_quiet (fail)
            go_wp2
            go_quiet (fail)
            go_wp2
            exact ⟨⟨k + 1, by omega, by omega, by go_num, by rw [HS.out, if_neg (by omega), if_neg (by omega)], below_drewN hbel _⟩, by simp [intOf]; omega⟩
      · obtain rfl : m = k := by omega
        have hd : y.drop m = [] := List.drop_of_length_le (by rw [HY.out]; omega)
        have hd' : x.drop m ≠ [] := fun h => by have := List.drop_eq_nil_iff.1 h; rw [HX.out] at this; omega
        have hr : U.cmpL x y = 1 := by
          rw [← HC.out, hd]
          rcases hx' : x.drop m with _ | ⟨a, r⟩
          · exact absurd hx' hd'
          · rfl
        have HR := Lib.hid hr
        clear hd hd' hr
        go_wp2
        go_ret
        rw [HR.out]
        exact ⟨rfl, hbel⟩
    · obtain rfl : n = k := by omega
      have hd : x.drop n = [] := List.drop_of_length_le (by rw [HX.out]; omega)
      by_cases hnm : (n : Int) < m
      · have hd' : y.drop n ≠ [] := fun h => by have := List.drop_eq_nil_iff.1 h; rw [HY.out] at this; omega
        have hr : U.cmpL x y = -1 := by
          rw [← HC.out, hd]
          rcases hx' : y.drop n with _ | ⟨a, r⟩
          · exact absurd hx' hd'
          · rfl
        have HR := Lib.hid hr
        clear hd hd' hr
        go_wp2
        go_ret
        rw [HR.out]
        exact ⟨rfl, hbel⟩
      · have hd' : y.drop n = [] := List.drop_of_length_le (by rw [HY.out]; omega)
        have hr : U.cmpL x y = 0 := by rw [← HC.out, hd, hd']; rfl
        have HR := Lib.hid hr
        clear hd hd' hr
        go_wp2
        go_ret
        rw [HR.out]
        exact ⟨rfl, hbel⟩

theorem U.map_charK_is (l : List Int) : ∀ c ∈ l.map U.charK, U.isC c = true := by
  intro c hc
  obtain ⟨x, _, rfl⟩ := List.mem_map.1 hc
  exact U.charK_is x

set_option maxRecDepth 100000 in
set_option maxHeartbeats 1000000 in
theorem U.compares_walk (w : World) (A1 : Option Addr) (len1 cap1 : Nat) (z1 : List Int) (r1 : IsRow .i64 w A1 len1 cap1 z1) (bd1 : ∀ c ∈ z1, -9223372036854775808 ≤ c ∧ c ≤ 9223372036854775807)
    (A2 : Option Addr) (len2 cap2 : Nat) (z2 : List Int) (r2 : IsRow .i64 w A2 len2 cap2 z2) (bd2 : ∀ c ∈ z2, -9223372036854775808 ≤ c ∧ c ≤ 9223372036854775807) (hH : Heads w) :
    Calls Tryd.prog 5 #[.slice A1 len1 cap1, .slice A2 len2 cap2] w fun e w' => e = .returned (.bool true) ∧ Below w.heap.size w w' := by
  obtain ⟨p1, p2, p3⟩ := r1.len_le
  obtain ⟨p4, p5, p6⟩ := r2.len_le
  have hS1 := r1.sl (min len1 30) (Nat.min_le_left _ _)
  have hS2 := r2.sl (min len2 30) (Nat.min_le_left _ _)
  have hl1 : (z1.take (min len1 30)).length = min len1 30 := by rw [List.length_take]; omega
  have hl2 : (z2.take (min len2 30)).length = min len2 30 := by rw [List.length_take]; omega
  generalize z1.take (min len1 30) = l1 at *
  generalize z2.take (min len2 30) = l2 at *
  have HL1 := Lib.hid hl1
  have HL2 := Lib.hid hl2
  have hn1 : (l1.map U.charK).length ≤ 30 := by rw [List.length_map, hl1]; omega
  have hn2 : (l2.map U.charK).length ≤ 30 := by rw [List.length_map, hl2]; omega
  clear hl1 hl2 r1 r2 bd1 bd2
  have hx := U.map_charK_is l1
  have hy := U.map_charK_is l2
  obtain ⟨x, hxe⟩ : ∃ x, l1.map U.charK = x := ⟨_, rfl⟩
  obtain ⟨y, hye⟩ : ∃ y, l2.map U.charK = y := ⟨_, rfl⟩
  rw [hxe] at hx hn1
  rw [hye] at hy hn2
  have HXE := Lib.hid hxe
  have HYE := Lib.hid hye
  have HX := Lib.hid hx
  have HY := Lib.hid hy
  clear hxe hye hx hy
  go_enter Tryd.func5, Tryd.ntmps5
  go_wp2_with fail
  refine (U.awake _ hH).mono ?_
  rintro e w1 ⟨rfl, hb1⟩
  have hH1 := hH.next hb1
  have hS11 := hS1.below hb1 hb1.size
  have hS21 := hS2.below hb1 hb1.size
  go_wp2_with fail
  refine (U.chars_any A1 len1 cap1 _ l1 30 _ (Nat.le_refl _) HL1.out (by omega) hS11 (Nat.le_trans p1 p2)).mono ?_
  rintro e w2 ⟨A3, c3, rfl, hown2, hb2⟩
  rw [HXE.out] at hown2 ⊢
  have hb02 := hb1.trans (hb2.mono hb1.size)
  have hS22 := hS21.below hb2 hb2.size
  have hX2 := Sl.of_own hown2
  have hH2 := hH1.next hb2
  go_wp2_with fail
  refine (U.chars_any A2 len2 cap2 _ l2 30 _ (Nat.le_refl _) HL2.out (by omega) hS22 (Nat.le_trans p4 p5)).mono ?_
  rintro e w3 ⟨A4, c4, rfl, hown3, hb3⟩
  rw [HYE.out] at hown3 ⊢
  have hb03 := hb02.trans (hb3.mono hb02.size)
  have hX3 := hX2.below hb3 hb3.size
  have hY3 := Sl.of_own hown3
  have hH3 := hH2.next hb3
  clear hb1 hb2 hb3 hown2 hown3 hS11 hS21 hS22 hX2 hH1 hH2 hb02
  obtain ⟨n, hn⟩ : ∃ n, x.length = n := ⟨_, rfl⟩
  obtain ⟨m, hm⟩ : ∃ m, y.length = m := ⟨_, rfl⟩
  rw [hn] at hn1 ⊢
  rw [hm] at hn2 ⊢
  have HN := Lib.hid hn
  have HM := Lib.hid hm
  clear hn hm
  go_wp2_with fail
  refine (U.encode_n A3 c3 _ x n _ HN.out (Nat.le_refl _) hX3 (by omega) (U.chars_bd HX.out) hH3).mono ?_
  rintro e w4 ⟨rfl, hb4⟩
  rw [U.encS_of HX.out, U.encN_of HX.out]
  have hb04 := hb03.trans (hb4.mono hb03.size)
  have hX4 := hX3.below hb4 hb4.size
  have hY4 := hY3.below hb4 hb4.size
  have hH4 := hH3.next hb4
  go_wp2_with fail
  refine (U.encode_n A4 c4 _ y m _ HM.out (Nat.le_refl _) hY4 (by omega) (U.chars_bd HY.out) hH4).mono ?_
  rintro e w5 ⟨rfl, hb5⟩
  rw [U.encS_of HY.out, U.encN_of HY.out]
  have hb05 := hb04.trans (hb5.mono hb04.size)
  have hX5 := hX4.below hb5 hb5.size
  have hY5 := hY4.below hb5 hb5.size
  clear hb4 hb5 hX3 hX4 hY3 hY4 hH3 hH4 hb03 hb04
  have hcmp : Lib.compareBytes (⟨(U.encs x).toArray⟩ : ByteArray).data.toList (⟨(U.encs y).toArray⟩ : ByteArray).data.toList = U.cmpL x y := U.cmp_encs x y HX.out HY.out
  have hcmp' : Lib.compareBytes (⟨(U.encs y).toArray⟩ : ByteArray).data.toList (⟨(U.encs x).toArray⟩ : ByteArray).data.toList = - U.cmpL x y := by rw [← U.cmpL_swap]; exact U.cmp_encs y x HY.out HX.out
  have hz : (U.encs x == U.encs y) = (U.cmpL x y == 0) := by
    rw [Bool.eq_iff_iff, beq_iff_eq, beq_iff_eq, U.cmpL_zero]
    exact ⟨U.encs_inj HX.out HY.out, fun h => by rw [h]⟩
  obtain ⟨v1, v2⟩ := U.cmpL_bd x y
  obtain ⟨v, hv⟩ : ∃ v, U.cmpL x y = v := ⟨_, rfl⟩
  rw [hv] at hcmp hcmp' hz v1 v2
  have HV := Lib.hid hv
  clear hv
  have C1 := Lib.hid hcmp
  have C2 := Lib.hid hcmp'
  clear hcmp hcmp'
  go_wp2_with fail
  refine (U.compare_any _ _ _).mono ?_
  rintro e w' ⟨rfl, rfl⟩
  rw [C1.out]
  go_wp2_with fail
  refine (U.told_n A3 c3 _ x n _ HN.out (Nat.le_refl _) hX5 (by omega) (U.chars_bd HX.out)).mono ?_
  rintro e w6 ⟨A6, c6, rfl, hown6, hb6⟩
  have hb06 := hb05.trans (hb6.mono hb05.size)
  have hX6 := Sl.of_own hown6
  have hY6 := hY5.below hb6 hb6.size
  go_wp2_with fail
  refine (U.told_n A4 c4 _ y m _ HM.out (Nat.le_refl _) hY6 (by omega) (U.chars_bd HY.out)).mono ?_
  rintro e w7 ⟨A7, c7, rfl, hown7, hb7⟩
  have hb07 := hb06.trans (hb7.mono hb06.size)
  have hX7 := hX6.below hb7 hb7.size
  have hY7 := Sl.of_own hown7
  go_wp2_with fail
  refine (U.rcompare_any A6 A7 c6 c7 _ _ _ x y _ (Nat.le_refl _) rfl rfl (by rw [HN.out]; omega) (by rw [HM.out]; omega) hX7 hY7).mono ?_
  rintro e w8 ⟨rfl, hb8⟩
  rw [HV.out]
  have hb08 := hb07.trans (hb8.mono hb07.size)
  clear hb6 hb7 hb8 hown6 hown7 hX6 hX7 hY6 hY7
  go_wp2_with fail
  refine (U.compare_any _ _ _).mono ?_
  rintro e w' ⟨rfl, rfl⟩
  rw [C2.out]
  go_wp2
  go_ret
  exact ⟨rfl, hb08⟩
end Go.Proofs.YthikoangkdlebaaDoor
