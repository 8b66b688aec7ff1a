/- The law UtfEncodes' walk. -/
import Derived.Test.YtgfkcbckddpbaaaDoorUtfG
import Derived.Test.YtgfkcbckddpbaaaDoorLib3
import Derived.Test.YtgfkcbckddpbaaaDoorLib4
import Derived.Lib.Bytealg
namespace Go.Proofs.YtgfkcbckddpbaaaDoor
open Go.RowKit
set_option linter.unusedSimpArgs false
set_option linter.unusedVariables false

theorem U.encode_n (A : Option Addr) (cap B : Nat) (l : List Int) (n : Nat) (w : World) (hn : l.length = n) (hB : B ≤ w.heap.size) (hA : Sl w B A (l.map (Value.int .i32))) (hl : n ≤ 100000000000) (hb : ∀ c ∈ l, -2147483648 ≤ c ∧ c ≤ 2147483647) (hH : Heads w) :
    Calls Tryd.prog 18 #[.slice A n cap] w fun e w' => e = .returned (.tuple #[.string (U.encS l), .int .i64 (U.encN l)]) ∧ Below w.heap.size w w' := by
  subst hn; exact U.encode_any A cap B l w hB hA hl hb hH
end Go.Proofs.YtgfkcbckddpbaaaDoor

/- Comparing texts: plain law, and the walks of Compare, Char, Chars. -/
namespace Go.Proofs.YtgfkcbckddpbaaaDoor
open Go.RowKit
set_option linter.unusedSimpArgs false
set_option linter.unusedVariables false

theorem U.u8_lt (p q : Int) (h1 : 0 ≤ p) (h2 : p < 256) (h3 : 0 ≤ q) (h4 : q < 256) : (U.u8 p < U.u8 q) ↔ p < q := by
  rw [UInt8.lt_iff_toNat_lt]
  have := U.u8_toNat p h1 h2
  have := U.u8_toNat q h3 h4
  omega
theorem U.cmp_cons (p q : Int) (s t : List UInt8) (h1 : 0 ≤ p) (h2 : p < 256) (h3 : 0 ≤ q) (h4 : q < 256) :
    Lib.compareBytes (U.u8 p :: s) (U.u8 q :: t) = if p < q then -1 else if q < p then 1 else Lib.compareBytes s t := by
  show (if U.u8 p < U.u8 q then _ else if U.u8 q < U.u8 p then _ else _) = _
  simp only [U.u8_lt p q h1 h2 h3 h4, U.u8_lt q p h3 h4 h1 h2]

def U.cmpL : List Int → List Int → Int
  | [], [] => 0
  | [], _ :: _ => -1
  | _ :: _, [] => 1
  | a :: x, b :: y => if a < b then -1 else if b < a then 1 else U.cmpL x y

theorem U.enc_one {c : Int} (h : c < 128) : U.enc c = [U.u8 c] := by unfold U.enc; rw [if_pos h]
theorem U.enc_two {c : Int} (h : ¬ c < 128) (h' : c < 2048) : U.enc c = [U.u8 (192 + c / 64), U.u8 (128 + c % 64)] := by unfold U.enc; rw [if_neg h, if_pos h']
theorem U.enc_three {c : Int} (h : ¬ c < 128) (h' : ¬ c < 2048) (h'' : c < 65536) : U.enc c = [U.u8 (224 + c / 4096), U.u8 (128 + c / 64 % 64), U.u8 (128 + c % 64)] := by unfold U.enc; rw [if_neg h, if_neg h', if_pos h'']
theorem U.enc_four {c : Int} (h : ¬ c < 128) (h' : ¬ c < 2048) (h'' : ¬ c < 65536) : U.enc c = [U.u8 (240 + c / 262144), U.u8 (128 + c / 4096 % 64), U.u8 (128 + c / 64 % 64), U.u8 (128 + c % 64)] := by unfold U.enc; rw [if_neg h, if_neg h', if_neg h'']

theorem U.cmp_enc (x y : Int) (hx : U.isC x = true) (hy : U.isC y = true) (s t : List UInt8) :
    Lib.compareBytes (U.enc x ++ s) (U.enc y ++ t) = if x < y then -1 else if y < x then 1 else Lib.compareBytes s t := by
  obtain ⟨x1, x2, -⟩ := (U.isC_iff x).1 hx
  obtain ⟨y1, y2, -⟩ := (U.isC_iff y).1 hy
  by_cases a1 : x < 128 <;> by_cases b1 : y < 128
  · rw [U.enc_one a1, U.enc_one b1]
    simp only [List.cons_append, List.nil_append]
    rw [U.cmp_cons x y _ _ (by omega) (by omega) (by omega) (by omega)]
  · rw [U.enc_one a1, if_pos (by omega)]
    by_cases b2 : y < 2048
    · rw [U.enc_two b1 b2]; simp only [List.cons_append, List.nil_append]; rw [U.cmp_cons _ _ _ _ (by omega) (by omega) (by omega) (by omega), if_pos (by omega)]
    · by_cases b3 : y < 65536
      · rw [U.enc_three b1 b2 b3]; simp only [List.cons_append, List.nil_append]; rw [U.cmp_cons _ _ _ _ (by omega) (by omega) (by omega) (by omega), if_pos (by omega)]
      · rw [U.enc_four b1 b2 b3]; simp only [List.cons_append, List.nil_append]; rw [U.cmp_cons _ _ _ _ (by omega) (by omega) (by omega) (by omega), if_pos (by omega)]
  · rw [U.enc_one b1, if_neg (by omega), if_pos (by omega)]
    by_cases b2 : x < 2048
    · rw [U.enc_two a1 b2]; simp only [List.cons_append, List.nil_append]; rw [U.cmp_cons _ _ _ _ (by omega) (by omega) (by omega) (by omega), if_neg (by omega), if_pos (by omega)]
    · by_cases b3 : x < 65536
      · rw [U.enc_three a1 b2 b3]; simp only [List.cons_append, List.nil_append]; rw [U.cmp_cons _ _ _ _ (by omega) (by omega) (by omega) (by omega), if_neg (by omega), if_pos (by omega)]
      · rw [U.enc_four a1 b2 b3]; simp only [List.cons_append, List.nil_append]; rw [U.cmp_cons _ _ _ _ (by omega) (by omega) (by omega) (by omega), if_neg (by omega), if_pos (by omega)]
  · by_cases a2 : x < 2048 <;> by_cases b2 : y < 2048
    · rw [U.enc_two a1 a2, U.enc_two b1 b2]
      simp only [List.cons_append, List.nil_append]
      rw [U.cmp_cons _ _ _ _ (by omega) (by omega) (by omega) (by omega), U.cmp_cons _ _ _ _ (by omega) (by omega) (by omega) (by omega)]
      repeat' split
      all_goals first | rfl | omega
    · rw [U.enc_two a1 a2, if_pos (by omega)]
      by_cases b3 : y < 65536
      · rw [U.enc_three b1 b2 b3]; simp only [List.cons_append, List.nil_append]; rw [U.cmp_cons _ _ _ _ (by omega) (by omega) (by omega) (by omega), if_pos (by omega)]
      · rw [U.enc_four b1 b2 b3]; simp only [List.cons_append, List.nil_append]; rw [U.cmp_cons _ _ _ _ (by omega) (by omega) (by omega) (by omega), if_pos (by omega)]
    · rw [U.enc_two b1 b2, if_neg (by omega), if_pos (by omega)]
      by_cases b3 : x < 65536
      · rw [U.enc_three a1 a2 b3]; simp only [List.cons_append, List.nil_append]; rw [U.cmp_cons _ _ _ _ (by omega) (by omega) (by omega) (by omega), if_neg (by omega), if_pos (by omega)]
      · rw [U.enc_four a1 a2 b3]; simp only [List.cons_append, List.nil_append]; rw [U.cmp_cons _ _ _ _ (by omega) (by omega) (by omega) (by omega), if_neg (by omega), if_pos (by omega)]
    · by_cases a3 : x < 65536 <;> by_cases b3 : y < 65536
      · rw [U.enc_three a1 a2 a3, U.enc_three b1 b2 b3]
        simp only [List.cons_append, List.nil_append]
        rw [U.cmp_cons _ _ _ _ (by omega) (by omega) (by omega) (by omega), U.cmp_cons _ _ _ _ (by omega) (by omega) (by omega) (by omega), U.cmp_cons _ _ _ _ (by omega) (by omega) (by omega) (by omega)]
        repeat' split
        all_goals first | rfl | omega
      · rw [U.enc_three a1 a2 a3, U.enc_four b1 b2 b3, if_pos (by omega)]; simp only [List.cons_append, List.nil_append]; rw [U.cmp_cons _ _ _ _ (by omega) (by omega) (by omega) (by omega), if_pos (by omega)]
      · rw [U.enc_three b1 b2 b3, U.enc_four a1 a2 a3, if_neg (by omega), if_pos (by omega)]; simp only [List.cons_append, List.nil_append]; rw [U.cmp_cons _ _ _ _ (by omega) (by omega) (by omega) (by omega), if_neg (by omega), if_pos (by omega)]
      · rw [U.enc_four a1 a2 a3, U.enc_four b1 b2 b3]
        simp only [List.cons_append, List.nil_append]
        rw [U.cmp_cons _ _ _ _ (by omega) (by omega) (by omega) (by omega), U.cmp_cons _ _ _ _ (by omega) (by omega) (by omega) (by omega), U.cmp_cons _ _ _ _ (by omega) (by omega) (by omega) (by omega), U.cmp_cons _ _ _ _ (by omega) (by omega) (by omega) (by omega)]
        repeat' split
        all_goals first | rfl | omega

theorem U.cmp_encs : ∀ (x y : List Int), (∀ c ∈ x, U.isC c = true) → (∀ c ∈ y, U.isC c = true) → Lib.compareBytes (U.encs x) (U.encs y) = U.cmpL x y
  | [], [], _, _ => rfl
  | [], c :: y, _, hy => by
    rw [U.encs_cons]
    have := (U.enc_pos c).1
    rcases he : U.enc c with _ | ⟨a, r⟩
    · rw [he] at this; simp at this
    · rfl
  | c :: x, [], hx, _ => by
    rw [U.encs_cons]
    have := (U.enc_pos c).1
    rcases he : U.enc c with _ | ⟨a, r⟩
    · rw [he] at this; simp at this
    · rfl
  | c :: x, d :: y, hx, hy => by
    rw [U.encs_cons, U.encs_cons, U.cmp_enc c d (hx c (by simp)) (hy d (by simp)), U.cmp_encs x y (fun z hz => hx z (List.mem_cons_of_mem _ hz)) (fun z hz => hy z (List.mem_cons_of_mem _ hz))]
    rfl

theorem U.cmpL_swap : ∀ x y : List Int, U.cmpL y x = - U.cmpL x y
  | [], [] => rfl
  | [], _ :: _ => rfl
  | _ :: _, [] => rfl
  | a :: x, b :: y => by
    show (if b < a then _ else if a < b then _ else _) = -(if a < b then _ else if b < a then _ else _)
    rw [U.cmpL_swap x y]
    repeat' split
    all_goals first | rfl | omega
theorem U.cmpL_zero : ∀ x y : List Int, U.cmpL x y = 0 ↔ x = y
  | [], [] => by simp [U.cmpL]
  | [], _ :: _ => by simp [U.cmpL]
  | _ :: _, [] => by simp [U.cmpL]
  | a :: x, b :: y => by
    show (if a < b then _ else if b < a then _ else _) = _ ↔ _
    rw [List.cons.injEq, ← U.cmpL_zero x y]
    repeat' split
    all_goals omega
theorem U.cmpL_bd : ∀ x y : List Int, -1 ≤ U.cmpL x y ∧ U.cmpL x y ≤ 1
  | [], [] => by simp [U.cmpL]
  | [], _ :: _ => by simp [U.cmpL]
  | _ :: _, [] => by simp [U.cmpL]
  | a :: x, b :: y => by
    have := U.cmpL_bd x y
    show _ ≤ (if a < b then _ else if b < a then _ else _) ∧ (if a < b then _ else if b < a then _ else _) ≤ _
    repeat' split
    all_goals omega
theorem U.encs_inj {x y : List Int} (hx : ∀ c ∈ x, U.isC c = true) (hy : ∀ c ∈ y, U.isC c = true) (h : U.encs x = U.encs y) : x = y :=
  (U.dec_unique (l := U.encs x) (r := []) (r' := []) ⟨by simp, hx, rfl⟩ ⟨by simp [h], hy, rfl⟩).1

set_option maxRecDepth 100000 in
set_option maxHeartbeats 400000 in
theorem U.compare_any (a b : ByteArray) (w : World) :
    Calls Tryd.prog 27 #[.string a, .string b] w fun e w' => e = .returned (.int .i64 (Lib.compareBytes a.data.toList b.data.toList)) ∧ w = w' := by
  have hr := fun w => Lib.run_compareString (P := Tryd.prog) a b w
  go_enter Tryd.func27, Tryd.ntmps27
  go_wp2
  rw [run_callFunc_extern Tryd.func94 (by kernel_rfl) (by kernel_rfl) (by kernel_rfl) (e := Extern.BytealgCompare.compare) (by kernel_rfl), hr]
  simp only [Result.andThen]
  rw [Oper.upon_value]
  go_wp2
  go_ret
  exact ⟨rfl, rfl⟩

theorem and_21 (n : Int) : bits .and .i64 n 2097151 = n % 2097152 := by
  have hm : (BitVec.ofInt 64 2097151).toNat = 2 ^ 21 - 1 := by decide
  have key : (BitVec.ofInt 64 n &&& BitVec.ofInt 64 2097151).toNat = (n % ((2 ^ 64 : Nat) : Int)).toNat % 2 ^ 21 := by
    rw [BitVec.toNat_and, BitVec.toNat_ofInt, hm, Nat.and_two_pow_sub_one_eq_mod]
  show IntKind.i64.wrap ((BitVec.ofInt 64 n &&& BitVec.ofInt 64 2097151).toNat : Nat) = n % 2097152
  rw [key, IntKind.wrap_i64]
  omega
theorem and_11 (n : Int) : bits .and .i64 n 2047 = n % 2048 := by
  have hm : (BitVec.ofInt 64 2047).toNat = 2 ^ 11 - 1 := by decide
  have key : (BitVec.ofInt 64 n &&& BitVec.ofInt 64 2047).toNat = (n % ((2 ^ 64 : Nat) : Int)).toNat % 2 ^ 11 := by
    rw [BitVec.toNat_and, BitVec.toNat_ofInt, hm, Nat.and_two_pow_sub_one_eq_mod]
  show IntKind.i64.wrap ((BitVec.ofInt 64 n &&& BitVec.ofInt 64 2047).toNat : Nat) = n % 2048
  rw [key, IntKind.wrap_i64]
  omega

def U.charK (x : Int) : Int := if U.isC (x % 2097152) then x % 2097152 else x % 2097152 % 2048
theorem U.charK_is (x : Int) : U.isC (U.charK x) = true := by
  unfold U.charK
  split
  · assumption
  · rw [U.isC_iff]; omega

theorem U.charK_bd (x : Int) : -2147483648 ≤ U.charK x ∧ U.charK x ≤ 2147483647 := by
  have := (U.isC_iff _).1 (U.charK_is x)
  omega

set_option maxRecDepth 100000 in
set_option maxHeartbeats 400000 in
theorem U.char_any (x : Int) (w : World) :
    Calls Tryd.prog 50 #[.int .i64 x] w fun e w' => e = .returned (.int .i32 (U.charK x)) ∧ w = w' := by
  have e1 := and_21 x
  have e2 := and_11 (x % 2097152)
  have b1 : 0 ≤ x % 2097152 := by omega
  have b2 : x % 2097152 ≤ 2097151 := by omega
  have b3 : 0 ≤ x % 2048 := by omega
  have b4 : x % 2048 ≤ 2047 := by omega
  by_cases hi : U.isC (x % 2097152) = true
  · have hk : U.charK x = x % 2097152 := by unfold U.charK; rw [if_pos hi]
    have HK := Lib.hid hk
    clear hk
    go_enter Tryd.func50, Tryd.ntmps50
    go_wp2_with (go_at_call 75; refine (U.ris_any _ _).mono ?_; rintro e w' ⟨rfl, rfl⟩)
    go_ret
    exact ⟨ret_int HK.out.symm, rfl⟩
  · have hk : U.charK x = x % 2048 := by unfold U.charK; rw [if_neg hi]; omega
    have hi' : U.isC (x % 2097152) = false := by simpa using hi
    have HK := Lib.hid hk
    clear hk hi
    go_enter Tryd.func50, Tryd.ntmps50
    go_wp2_with (go_at_call 75; refine (U.ris_any _ _).mono ?_; rintro e w' ⟨rfl, rfl⟩)
    go_ret
    exact ⟨ret_int HK.out.symm, rfl⟩

set_option maxRecDepth 100000 in
set_option maxHeartbeats 1000000 in
theorem U.chars_any (A : Option Addr) (len cap B : Nat) (l : List Int) (m : Nat) (w : World) (hB : B ≤ w.heap.size) (hl : l.length = min len m) (hm : m ≤ 1000) (hA : Sl w B A (l.map (Value.int .i64))) (hlen : len ≤ maxLen) :
    Calls Tryd.prog 19 #[.slice A len cap, .int .i64 m] w (RetOwn 21 .i32 (l.map U.charK) w) := by
  have HL := Lib.hid hl
  clear hl
  unfold maxLen at hlen
  obtain ⟨i0, hi, hz0, hz1, hz2⟩ := info_parts infoRune
  go_enter Tryd.func19, Tryd.ntmps19
  go_wp2
  go_loopw [6, 5] (fun i v wr => ∃ k : Nat, k ≤ len ∧ k ≤ m ∧ i = .int .i64 k ∧ wr.ownsRow w.heap.size 21 1 v k (((l.take k).map U.charK).map (Value.int .i32)) ∧ Below w.heap.size w wr) (fun i _ _ => m - (intOf i).toNat)
  case atStart => exact ⟨0, by omega, by omega, rfl, World.ownsRow_nil _ _ _ _, Below.refl _ _⟩
  case round =>
    obtain ⟨k, hk, hkm, rfl, hown, hbel⟩ := hrel
    have hsz := hbel.size
    have hfin : ¬ (k < len ∧ k < m) → wr.ownsRow w.heap.size 21 1 u5 (l.map U.charK).length ((l.map U.charK).map (Value.int .i32)) := by
      intro h
      have hkl : l.length = k := by rw [HL.out]; omega
      rw [List.length_map, hkl]
      rwa [List.take_of_length_le (by omega)] at hown
    have HF := Lib.hid hfin
    clear hfin
    by_cases hkn : (k : Int) < len
    · by_cases hkm' : (k : Int) < m
      · obtain ⟨x, hx⟩ : ∃ x, l[k]? = some x := ⟨_, List.getElem?_eq_getElem (by rw [HL.out]; omega)⟩
        obtain ⟨b, o, rfl, hlt, hc⟩ := hA.belowN hbel hB (Nat.le_refl _) (by rw [List.length_map, HL.out]; omega)
        have hcell := hc k (by rw [List.length_map, HL.out]; omega)
        rw [List.getElem?_map, hx] at hcell
        simp only [Option.map] at hcell
        have htk := take_succ_get hx
        have HTK := Lib.hid htk
        clear hx htk hc
        go_wp2_with (first | (go_at_call 50; refine (U.char_any _ _).mono ?_; rintro e w' ⟨rfl, rfl⟩) | (at_builtin; refine wpList_push1 _ rfl _ _ _ rfl w.heap.size 21 i0 _ 4 Tryd.underlying49 hi hz0 hz1 hz2 rfl _ k _ rfl hown _ rfl rfl (by simp only [maxLen]; omega) (by omega) hsz ?_; intro v1 w2 hown2 hb2))
        exact ⟨⟨k + 1, by omega, by omega, by go_num, by rw [HTK.out, List.map_append, List.map_append]; exact hown2, hbel.trans hb2⟩, by simp [intOf]; omega⟩
      · go_wp2
        go_ret
        exact RetOwn.mk (HF.out (by omega)) rfl rfl hbel
    · go_wp2
      go_ret
      exact RetOwn.mk (HF.out (by omega)) rfl rfl hbel

theorem U.map_charK_is (l : List Int) : ∀ c ∈ l.map U.charK, U.isC c = true := by
  intro c hc
  obtain ⟨x, _, rfl⟩ := List.mem_map.1 hc
  exact U.charK_is x

end Go.Proofs.YtgfkcbckddpbaaaDoor
