/- The lookups of a loaded table: Map, Full, Join, Inner. -/
import Derived.Test.YtkmfegamblmpeaaGreatDoorUdLook
import Derived.Test.YtkmfegamblmpeaaGreatDoorMdTab
import Derived.Test.YtkmfegamblmpeaaGreatDoorUdPlain
import Derived.Laws.BitsAllLaws
import Derived.Test.YtkmfegamblmpeaaGreatDoorRwPlain
import Derived.Test.YtkmfegamblmpeaaGreatDoorCpUtf
import Derived.Test.YtkmfegamblmpeaaGreatDoorCpIsPlain
import Derived.Test.YtkmfegamblmpeaaGreatDoorUdIs
import Derived.Test.YtkmfegamblmpeaaGreatDoorUdBegins
import Derived.Test.YtkmfegamblmpeaaGreatDoorMdFind
import Derived.Test.YtkmfegamblmpeaaGreatDoorClone
import Derived.Test.YtkmfegamblmpeaaGreatDoorLib3
import Derived.Deep.SlicePairs
import Derived.Deep.Strs
import Derived.ProofKit
import Derived.OpenShut
namespace Go.Proofs.YtkmfegamblmpeaaGreatDoor
open Go.RowKit
set_option linter.unusedSimpArgs false
set_option linter.unusedVariables false
/-- What two are composed to. -/
def Ud.joinK (T : List Rw.Row) (S : List Int) (a b : Int) : Int × Bool :=
  if (Hg.joinK a b).2 = true then ((Hg.joinK a b).1, true) else ((Ud.joi T (C.mem S) T a b).getD 0, (Ud.joi T (C.mem S) T a b).isSome)
set_option maxRecDepth 100000 in
set_option maxHeartbeats 1000000 in
theorem Ud.join_any (v : Value) (T : List Rw.Row) (S : List Int) (a c : Int) (w : World) (ok : Ud.Ok T S) (h : Ud.Is w v T S) (h1 : -2147483648 ≤ a) (h2 : a ≤ 2147483647) (h3 : -2147483648 ≤ c) (h4 : c ≤ 2147483647) :
    Calls Tryz.prog 30 #[v, .int .i32 a, .int .i32 c] w fun e w' => e = .returned (.tuple #[.int .i32 (Ud.joinK T S a c).1, .bool (Ud.joinK T S a c).2]) ∧ Below w.heap.size w w' := by
  have hJ := Hg.join_any a c w h1 h2 h3 h4
  have hj : Ud.joinK T S a c = if (Hg.joinK a c).2 = true then ((Hg.joinK a c).1, true) else ((Ud.joi T (C.mem S) T a c).getD 0, (Ud.joi T (C.mem S) T a c).isSome) := rfl
  rcases hjk : Hg.joinK a c with ⟨x, is⟩
  rw [hjk] at hj hJ
  cases is
  · rw [if_neg (by simp)] at hj
    rw [hj]
    obtain ⟨b, A0, c0, XA, xc, pc, pp, A3, c3, mb, jb, A4, c4, A5, c5, A6, c6, es, rfl, hat, _, _, hpc, hpp, hents, _, hjoi, _⟩ := h.is
    obtain ⟨F, hF1, hF2⟩ := hjoi
    have hl := Ud.lookP hF1 ⟨h1, h2⟩ ⟨h3, h4⟩
    have e0 : F (Md.pk a c) = (Ud.joi T (C.mem S) T a c).map (Value.int .i32) := hF2 a c
    rw [e0] at hl
    have z6 := hat.cell 6 rfl
    have hbl := hat.lt
    obtain ⟨o, ho⟩ : ∃ o, Ud.joi T (C.mem S) T a c = o := ⟨_, rfl⟩
    rw [ho] at hl ⊢
    have e1 : (o.map (Value.int .i32)).getD (.int .i32 0) = .int .i32 (o.getD 0) := by cases o <;> rfl
    have e2 : (o.map (Value.int .i32)).isSome = o.isSome := by cases o <;> rfl
    rw [e1, e2] at hl
    obtain ⟨u, hu⟩ : ∃ u, o.getD 0 = u := ⟨_, rfl⟩
    obtain ⟨t, ht⟩ : ∃ t, o.isSome = t := ⟨_, rfl⟩
    rw [hu, ht] at hl ⊢
    clear hF1 hF2 e0 e1 e2 ho hu ht hents hpc hpp hat h ok hj hjk h1 h2 h3 h4
    go_enter Tryz.func30, Tryz.ntmps30
    go_wp2_with fail
    refine hJ.mono ?_
    rintro e w0 ⟨rfl, rfl⟩
    clear hJ
    go_wp2_with fail
    go_ret2
    exact ⟨rfl, Below.refl _ _⟩
  · rw [if_pos rfl] at hj
    rw [hj]
    clear h ok hj hjk h1 h2 h3 h4
    go_enter Tryz.func30, Tryz.ntmps30
    go_wp2_with fail
    refine hJ.mono ?_
    rintro e w0 ⟨rfl, rfl⟩
    clear hJ
    go_wp2_with fail
    go_ret2
    exact ⟨rfl, Below.refl _ _⟩

set_option maxRecDepth 100000 in
set_option maxHeartbeats 1000000 in
theorem Ud.inner_any (v : Value) (T : List Rw.Row) (S : List Int) (c : Int) (w : World) (ok : Ud.Ok T S) (hl : (C.chars (Ud.inn T T)).length ≤ 1000000) (h : Ud.Is w v T S) (h3 : -2147483648 ≤ c) (h4 : c ≤ 2147483647) :
    Calls Tryz.prog 31 #[v, .int .i32 c] w fun e w' => e = .returned (.bool (C.mem (C.chars (Ud.inn T T)) c || decide (Hg.ofK c = 2) || decide (Hg.ofK c = 3))) ∧ Below w.heap.size w w' := by
  obtain ⟨b, A0, c0, XA, xc, pc, pp, A3, c3, mb, jb, A4, c4, A5, c5, A6, c6, es, rfl, hat, _, _, hpc, hpp, hents, _, hjoi, hi, _⟩ := h.is
  have hH := C.has_any A4 c4 _ w.heap.size _ c w rfl hl (C.chars_spec _).1.1 (Nat.le_refl _) hi
  have hO := Hg.of_any c w h3 h4
  have z7 := hat.cell 7 rfl
  have hbl := hat.lt
  obtain ⟨n, hn⟩ : ∃ n, (C.chars (Ud.inn T T)).length = n := ⟨_, rfl⟩
  obtain ⟨m, hm⟩ : ∃ m, C.mem (C.chars (Ud.inn T T)) c = m := ⟨_, rfl⟩
  obtain ⟨k, hk⟩ : ∃ k, Hg.ofK c = k := ⟨_, rfl⟩
  rw [hn] at z7 hH
  rw [hm] at hH ⊢
  rw [hk] at hO ⊢
  clear hjoi hents hpc hpp hat h ok hi hn hm hk h3 h4 hl
  go_enter Tryz.func31, Tryz.ntmps31
  go_wp2_with fail
  refine hO.mono ?_
  rintro e w0 ⟨rfl, rfl⟩
  clear hO
  go_wp2_with fail
  refine hH.mono ?_
  rintro e w1 ⟨rfl, hb1⟩
  have HB := Lib.hid hb1
  clear hb1 hH z7
  cases m
  · by_cases k2 : k = 2
    · subst k2
      go_wp2_with fail
      go_ret
      exact ⟨rfl, HB.out⟩
    · have k2b : (k == 2) = false := by simpa using k2
      by_cases k3 : k = 3
      · subst k3
        go_wp2_with fail
        go_ret
        exact ⟨rfl, HB.out⟩
      · have k3b : (k == 3) = false := by simpa using k3
        go_wp2_with fail
        go_ret
        exact ⟨by simp [k2, k3], HB.out⟩
  · go_wp2_with fail
    go_ret
    exact ⟨rfl, HB.out⟩
end Go.Proofs.YtkmfegamblmpeaaGreatDoor

/- The laws' Char and Chars, by walking their texts. -/
namespace Go.Proofs.YtkmfegamblmpeaaGreatDoor
open Go.RowKit
set_option linter.unusedSimpArgs false
set_option linter.unusedVariables false

theorem Ch.isC_iff (c : Int) : C.isC c = true ↔ (0 ≤ c ∧ c ≤ 1114111 ∧ (c < 55296 ∨ 57343 < c)) := by unfold C.isC; simp
def Ch.RetOwn (el : TypeId) (k : IntKind) (l : List Int) (w : World) (e : Ending) (w' : World) : Prop :=
  ∃ A c, e = .returned (.slice A l.length c) ∧ w'.ownsRow w.heap.size el 1 (.slice A l.length c) l.length (l.map (Value.int k)) ∧ Below w.heap.size w w'
theorem Ch.RetOwn.mk {el : TypeId} {k : IntKind} {l : List Int} {w w' : World} {v : Value} {m : Nat} {xs : List Value} (h : w'.ownsRow w.heap.size el 1 v m xs) (hm : m = l.length) (hx : xs = l.map (Value.int k)) (hb : Below w.heap.size w w') :
    Ch.RetOwn el k l w (.returned v) w' := by
  subst hm hx
  obtain ⟨A, c, rfl⟩ := own_form h
  exact ⟨A, c, rfl, h, hb⟩
theorem Ch.and_21 (n : Int) : bits .and .i64 n 2097151 = n % 2097152 := by
  have hm : (BitVec.ofInt 64 2097151).toNat = 2 ^ 21 - 1 := by decide
  have key : (BitVec.ofInt 64 n &&& BitVec.ofInt 64 2097151).toNat = (n % ((2 ^ 64 : Nat) : Int)).toNat % 2 ^ 21 := by
    rw [BitVec.toNat_and, BitVec.toNat_ofInt, hm, Nat.and_two_pow_sub_one_eq_mod]
  show IntKind.i64.wrap ((BitVec.ofInt 64 n &&& BitVec.ofInt 64 2097151).toNat : Nat) = n % 2097152
  rw [key, IntKind.wrap_i64]
  omega
theorem Ch.and_11 (n : Int) : bits .and .i64 n 2047 = n % 2048 := by
  have hm : (BitVec.ofInt 64 2047).toNat = 2 ^ 11 - 1 := by decide
  have key : (BitVec.ofInt 64 n &&& BitVec.ofInt 64 2047).toNat = (n % ((2 ^ 64 : Nat) : Int)).toNat % 2 ^ 11 := by
    rw [BitVec.toNat_and, BitVec.toNat_ofInt, hm, Nat.and_two_pow_sub_one_eq_mod]
  show IntKind.i64.wrap ((BitVec.ofInt 64 n &&& BitVec.ofInt 64 2047).toNat : Nat) = n % 2048
  rw [key, IntKind.wrap_i64]
  omega

def Ch.K (x : Int) : Int := if C.isC (x % 2097152) then x % 2097152 else x % 2097152 % 2048
theorem Ch.K_is (x : Int) : C.isC (Ch.K x) = true := by
  unfold Ch.K
  split
  · assumption
  · rw [Ch.isC_iff]; omega

theorem Ch.K_bd (x : Int) : -2147483648 ≤ Ch.K x ∧ Ch.K x ≤ 2147483647 := by
  have := (Ch.isC_iff _).1 (Ch.K_is x)
  omega

set_option maxRecDepth 100000 in
theorem Ch.ris_any (c : Int) (w : World) : Calls Tryz.prog 59 #[.int .i64 c] w fun e w' => e = .returned (.bool (C.isC c)) ∧ w = w' := by
  obtain ⟨q, hq⟩ : ∃ q, C.isC c = q := ⟨_, rfl⟩
  rw [hq]
  have HQ := Lib.hid hq
  clear hq
  go_enter Tryz.func59, Tryz.ntmps59
  by_cases h0 : 0 ≤ c
  · by_cases h1 : c ≤ 1114111
    · by_cases h2 : c < 55296
      · go_wp2
        go_ret
        exact ⟨by rw [← HQ.out]; exact ret_bool (by unfold C.isC; symm; exact decide_eq_true (by omega)), rfl⟩
      · by_cases h3 : 57343 < c
        · go_wp2
          go_ret
          exact ⟨by rw [← HQ.out]; exact ret_bool (by unfold C.isC; symm; exact decide_eq_true (by omega)), rfl⟩
        · go_wp2
          go_ret
          exact ⟨by rw [← HQ.out]; exact ret_bool (by unfold C.isC; symm; exact decide_eq_false (by omega)), rfl⟩
    · go_wp2
      go_ret
      exact ⟨by rw [← HQ.out]; exact ret_bool (by unfold C.isC; symm; exact decide_eq_false (by omega)), rfl⟩
  · go_wp2
    go_ret
    exact ⟨by rw [← HQ.out]; exact ret_bool (by unfold C.isC; symm; exact decide_eq_false (by omega)), rfl⟩

set_option maxRecDepth 100000 in
set_option maxHeartbeats 400000 in
theorem Ch.char_any (x : Int) (w : World) :
    Calls Tryz.prog 34 #[.int .i64 x] w fun e w' => e = .returned (.int .i32 (Ch.K x)) ∧ w = w' := by
  have e1 := Ch.and_21 x
  have e2 := Ch.and_11 (x % 2097152)
  have b1 : 0 ≤ x % 2097152 := by omega
  have b2 : x % 2097152 ≤ 2097151 := by omega
  have b3 : 0 ≤ x % 2048 := by omega
  have b4 : x % 2048 ≤ 2047 := by omega
  by_cases hi : C.isC (x % 2097152) = true
  · have hk : Ch.K x = x % 2097152 := by unfold Ch.K; rw [if_pos hi]
    have HK := Lib.hid hk
    clear hk
    go_enter Tryz.func34, Tryz.ntmps34
    go_wp2_with (go_at_call 59; refine (Ch.ris_any _ _).mono ?_; rintro e w' ⟨rfl, rfl⟩)
    go_ret
    exact ⟨ret_int HK.out.symm, rfl⟩
  · have hk : Ch.K x = x % 2048 := by unfold Ch.K; rw [if_neg hi]; omega
    have hi' : C.isC (x % 2097152) = false := by simpa using hi
    have HK := Lib.hid hk
    clear hk hi
    go_enter Tryz.func34, Tryz.ntmps34
    go_wp2_with (go_at_call 59; refine (Ch.ris_any _ _).mono ?_; rintro e w' ⟨rfl, rfl⟩)
    go_ret
    exact ⟨ret_int HK.out.symm, rfl⟩

end Go.Proofs.YtkmfegamblmpeaaGreatDoor

/- RowsPlain, plain: rows that say nothing, put between; no program in sight. -/
namespace Go.Proofs.YtkmfegamblmpeaaGreatDoor
open Go.RowKit Go.Stop
set_option linter.unusedSimpArgs false
set_option linter.unusedVariables false

/-- Rows' text. -/
def Rw.txt (l : List Rw.Row) : List UInt8 := l.flatMap fun r => Rw.line r ++ [10]
theorem Rw.txt_app (a b : List Rw.Row) : Rw.txt (a ++ b) = Rw.txt a ++ Rw.txt b := by simp [Rw.txt]
theorem Rw.txt_one (r : Rw.Row) : Rw.txt [r] = Rw.line r ++ [10] := by simp [Rw.txt]
theorem Rw.txt_eq (l : List Rw.Row) : Rw.txt l = (l.map Rw.line).flatMap fun x => x ++ [10] := by simp [Rw.txt, List.flatMap_map]
def Rw.fine (r : Rw.Row) : Prop := Rw.right r ∧ (C.isC r.1 = true ∨ Rw.quiet r = true)
theorem Rw.parse_txt (l : List Rw.Row) (h : ∀ r ∈ l, Rw.fine r) (hr : Rw.rise (-1) l) (hl : l.length ≤ 40000) : Rw.parse (Rw.txt l) = some (l.filter fun r => !Rw.quiet r) := by
  rw [Rw.txt_eq]
  exact Rw.parse_lines l h hr hl

def Rp.cl (k : Int) : Int := 1 + k % 256 % 254
abbrev Rp.St := List Rw.Row × List Rw.Row × Int
def Rp.next (st : Rp.St) (r : Rw.Row) : Rp.St :=
  if Ch.K r.1 ≤ st.2.2 + 1 then st else (st.1 ++ [(Ch.K r.1, Rp.cl r.2.1, [])], st.2.1 ++ [(st.2.2 + 1, 0, []), (Ch.K r.1, Rp.cl r.2.1, [])], Ch.K r.1)
end Go.Proofs.YtkmfegamblmpeaaGreatDoor

/- The layer cpset: all characters of a set, by walking its text. -/
namespace Go.Proofs.YtkmfegamblmpeaaGreatDoor
open Go.RowKit
set_option linter.unusedSimpArgs false
set_option linter.unusedVariables false

/-- n numbers, one behind the other. -/
def C.run (a : Int) (n : Nat) : List Int := (List.range n).map fun (i : Nat) => a + (i : Int)
end Go.Proofs.YtkmfegamblmpeaaGreatDoor

/- The layer cpset: all characters of a set, in plain Lean. -/
namespace Go.Proofs.YtkmfegamblmpeaaGreatDoor
set_option linter.unusedSimpArgs false
set_option linter.unusedVariables false

theorem C.chF_len : ∀ (cs acc : List Int), (C.chF cs acc).length ≤ acc.length + 2 * cs.length
  | [], acc => by simp [C.chF]
  | c :: t, acc => by
    have h : (C.step C.isC acc c (c + 1)).length ≤ acc.length + 2 := by
      unfold C.step
      split
      · split
        · rw [List.length_append, List.length_dropLast]; simp; omega
        · rw [List.length_append]; simp
      · omega
    have h2 := C.chF_len t (C.step C.isC acc c (c + 1))
    show (C.chF t (C.step C.isC acc c (c + 1))).length ≤ _
    rw [List.length_cons]
    omega
theorem C.chars_len (l : List Int) : (C.chars l).length ≤ 2 * l.length := by
  have h1 := C.chF_len (C.once l) []
  have h2 : (C.once l).length ≤ l.length := by
    unfold C.once Lib.compactUpTo
    rw [List.length_map]
    exact Nat.le_trans (List.length_filter_le _ _) (by simp)
  unfold C.chars
  simp at h1
  omega
end Go.Proofs.YtkmfegamblmpeaaGreatDoor

/- The fixed fact of the layer ucd. -/
namespace Go.Proofs.YtkmfegamblmpeaaGreatDoor
open Go.RowKit
set_option linter.unusedSimpArgs false
set_option linter.unusedVariables false
def Ud.litT : List Rw.Row := [(197, 0, [65, 778]), (778, 230, []), (8491, 0, [197])]
def Ud.lit1 : List UInt8 := [48, 48, 67, 53, 59, 88, 59, 59, 48, 59, 59, 48, 48, 52, 49, 32, 48, 51, 48, 65, 59, 59, 59, 59, 59, 59, 59, 59, 59, 10, 48, 51, 48, 65, 59, 88, 59, 59, 50]
def Ud.lit2 : List UInt8 := [51, 48, 59, 59, 59, 59, 59, 59, 59, 59, 59, 59, 59, 10, 50, 49, 50, 66, 59, 88, 59, 59, 48, 59, 59, 48, 48, 67, 53, 59, 59, 59, 59, 59, 59, 59, 59, 59, 10]
theorem Ud.dec0 : Lib.decDigits 0 = [48] := by rw [Lib.decDigits]; rfl
theorem Ud.dec230 : Lib.decDigits 230 = [50, 51, 48] := by
  rw [Lib.decDigits]
  simp
  rw [Lib.decDigits]
  simp
  rw [Lib.decDigits]
  simp
theorem Ud.lit_txt : Rw.txt Ud.litT = Ud.lit1.append Ud.lit2 := by
  have h1 : Fi.text 197 = [48, 48, 67, 53] := by decide +kernel
  have h2 : Fi.text 65 = [48, 48, 52, 49] := by decide +kernel
  have h3 : Fi.text 778 = [48, 51, 48, 65] := by decide +kernel
  have h4 : Fi.text 8491 = [50, 49, 50, 66] := by decide +kernel
  show Rw.txt [(197, 0, [65, 778]), (778, 230, []), (8491, 0, [197])] = _
  rw [show ([(197, 0, [65, 778]), (778, 230, []), (8491, 0, [197])] : List Rw.Row) = [(197, 0, [65, 778])] ++ ([(778, 230, [])] ++ [(8491, 0, [197])]) from rfl, Rw.txt_app, Rw.txt_app, Rw.txt_one, Rw.txt_one, Rw.txt_one]
  unfold Rw.line
  simp only [List.map_cons, List.map_nil, show (197 : Int).toNat = 197 from rfl, show (65 : Int).toNat = 65 from rfl, show (778 : Int).toNat = 778 from rfl, show (8491 : Int).toNat = 8491 from rfl, show (0 : Int).toNat = 0 from rfl, show (230 : Int).toNat = 230 from rfl, h1, h2, h3, h4, Ud.dec0, Ud.dec230]
  rfl
theorem Ud.lit_fine : ∀ r ∈ Ud.litT, Rw.fine r := by
  intro r hr
  unfold Ud.litT at hr
  simp only [List.mem_cons, List.not_mem_nil, or_false] at hr
  rcases hr with rfl | rfl | rfl
  · exact ⟨⟨by decide, by decide, by decide, by decide, by decide, by decide⟩, .inl rfl⟩
  · exact ⟨⟨by decide, by decide, by decide, by decide, by decide, by decide⟩, .inl rfl⟩
  · exact ⟨⟨by decide, by decide, by decide, by decide, by decide, by decide⟩, .inl rfl⟩
theorem Ud.lit_parse : Rw.parse (Ud.lit1.append Ud.lit2) = some Ud.litT := by
  rw [← Ud.lit_txt, Rw.parse_txt _ Ud.lit_fine ⟨by decide, by decide, by decide, trivial⟩ (by decide)]
  rfl
theorem Ud.lit_ok : Ud.Ok Ud.litT (C.chars []) := ⟨by decide +kernel, by rw [show C.chars [] = [] by decide +kernel]; exact List.Pairwise.nil, by decide, by rw [show C.chars [] = [] by decide +kernel]; decide⟩
theorem Ud.lit_begs : Ud.begs Ud.litT 65 = [65, 197, 8491] := by
  have h1 : Ud.beg Ud.litT Ud.litT 65 = [197, 8491] := by decide +kernel
  have h2 : Ud.syls 65 = [] := by decide +kernel
  have h3 : Ud.alone Ud.litT 65 = true := by decide +kernel
  unfold Ud.begs
  rw [h1, h2, h3, if_pos rfl]
  have hs := List.pairwise_mergeSort (le := fun x y : Int => decide (x ≤ y)) (by intro a b c h1 h2; simp at *; omega) (by intro a b; simp; omega) ([197, 8491] ++ [] ++ [65])
  have hp := (List.mergeSort_perm ([197, 8491] ++ [] ++ [65] : List Int) fun x y => decide (x ≤ y)).trans (show ([197, 8491] ++ [] ++ [65] : List Int).Perm [65, 197, 8491] by decide)
  refine List.Perm.eq_of_pairwise (le := fun x y : Int => x ≤ y) (fun a b _ _ h1 h2 => by omega) (hs.imp fun h => by simpa using h) (by simp) hp
theorem Ud.lit_join : Ud.joinK Ud.litT (C.chars []) 65 778 = (197, true) := by decide +kernel
theorem Ud.lit_inn : Ud.inn Ud.litT Ud.litT = [778, 778] := by decide +kernel
theorem Ud.Is.form {w : World} {v : Value} {T : List Rw.Row} {S : List Int} (h : Ud.Is w v T S) : ∃ b, v = .pointer (some ⟨b, 0, none⟩) ∧ b < w.heap.size := by
  obtain ⟨b, A0, c0, XA, xc, pc, pp, A3, c3, mb, jb, A4, c4, A5, c5, A6, c6, es, h1, h2, _⟩ := h.is
  exact ⟨b, h1, h2.lt⟩
set_option maxRecDepth 100000 in
set_option maxHeartbeats 2000000 in
theorem Ud.awake_any (w : World) (hL : Rw.Laid w) : Calls Tryz.prog 5 #[] w fun e w' => e = .returned (.bool true) ∧ Below w.heap.size w w' := by
  have hP := Ud.load_any ⟨(Ud.lit1.append Ud.lit2).toArray⟩ ⟨#[]⟩ (by decide) (by decide) Ud.litT [] Ud.lit_parse (by decide) Ud.lit_ok Ud.lit_ok.bd w hL
  have hB : ∀ p W, Ud.Is W p Ud.litT (C.chars []) → Calls Tryz.prog 20 #[p, .int .i32 65] W (Md.RetOwn [65, 197, 8491] W) := fun p W h => by
    have := Ud.begins_any p Ud.litT (C.chars []) 65 W Ud.lit_ok h (by decide) (by decide)
    rw [Ud.lit_begs] at this
    exact this
  have hJ : ∀ p W, Ud.Is W p Ud.litT (C.chars []) → Calls Tryz.prog 30 #[p, .int .i32 65, .int .i32 778] W fun e w' => e = .returned (.tuple #[.int .i32 197, .bool true]) ∧ Below W.heap.size W w' := fun p W h => by
    have := Ud.join_any p Ud.litT (C.chars []) 65 778 W Ud.lit_ok h (by decide) (by decide) (by decide) (by decide)
    rw [Ud.lit_join] at this
    exact this
  have hI : ∀ p W, Ud.Is W p Ud.litT (C.chars []) → Calls Tryz.prog 31 #[p, .int .i32 778] W fun e w' => e = .returned (.bool true) ∧ Below W.heap.size W w' := fun p W h => by
    have h2 := C.chars_len (Ud.inn Ud.litT Ud.litT)
    rw [Ud.lit_inn] at h2
    simp at h2
    have := Ud.inner_any p Ud.litT (C.chars []) 778 W Ud.lit_ok (by rw [Ud.lit_inn]; omega) h (by decide) (by decide)
    have hm : C.mem (C.chars (Ud.inn Ud.litT Ud.litT)) 778 = true := by rw [(C.chars_spec _).2, Ud.lit_inn]; decide
    rw [hm] at this
    exact this
  have HBG := Lib.hid hB
  have HJN := Lib.hid hJ
  have HIN := Lib.hid hI
  unfold Ud.RetOf at hP
  obtain ⟨S, hS⟩ : ∃ S, C.chars [] = S := ⟨_, rfl⟩
  rw [hS] at hP HBG HJN HIN
  obtain ⟨T, hT⟩ : ∃ T, Ud.litT = T := ⟨_, rfl⟩
  rw [hT] at hP HBG HJN HIN
  clear hB hJ hI hS hT
  go_enter Tryz.func5, Tryz.ntmps5
  go_wp2_with fail
  refine hP.mono ?_
  rintro e w1 ⟨p, rfl, his, hb1⟩
  obtain ⟨b, rfl, hbl⟩ := his.form
  have HIS := Lib.hid his
  have HB1 := Lib.hid hb1
  have hBG := HBG.out _ _ his
  clear his hb1 hP HBG
  go_wp2_with fail
  refine hBG.mono ?_
  rintro e w2 ⟨A, c, rfl, hown, hb2⟩
  obtain ⟨g, o, rfl, hgl, hgc⟩ := (Sl.of_own hown) (by simp)
  have hg0 := hgc 0 (by simp)
  have hg2 := hgc 2 (by simp)
  simp only [List.map_cons, List.map_nil, List.getElem?_cons_succ, List.getElem?_cons_zero, Nat.add_zero] at hg0 hg2
  have HIS2 := Lib.hid (HIS.out.below hb2)
  have HB2 := Lib.hid (HB1.out.trans (hb2.mono HB1.out.size))
  have hJ := HJN.out _ _ HIS2.out
  simp only [List.length_cons, List.length_nil]
  clear hown hgc hb2 HJN hBG
  go_wp2_with fail
  refine hJ.mono ?_
  rintro e w3 ⟨rfl, hb3⟩
  have g0 := ((bcell hb3).1 _ _ hgl).trans hg0
  have g2 := ((bcell hb3).1 _ _ hgl).trans hg2
  have hgl3 := Nat.lt_of_lt_of_le hgl hb3.size
  have hI := HIN.out _ _ (HIS2.out.below hb3)
  have HB3 := Lib.hid (HB2.out.trans (hb3.mono HB2.out.size))
  clear hg0 hg2 hb3 hJ HIN
  go_wp2_with (go_at_call 31; refine hI.mono ?_; rintro e w4 ⟨rfl, hb4⟩)
  have HB4 := HB3.out.trans (hb4.mono HB3.out.size)
  go_ret
  exact ⟨rfl, HB4⟩
end Go.Proofs.YtkmfegamblmpeaaGreatDoor

/- A slice of the document's rows that came in. -/
namespace Go.Proofs.YtkmfegamblmpeaaGreatDoor
open Go.ChangeShapes Go.WideShapes Go.RowKit Go.Deep
set_option linter.unusedSimpArgs false
set_option linter.unusedVariables false

def Rw.bounds (r : Rw.Row) : Prop := (-9223372036854775808 ≤ r.1 ∧ r.1 ≤ 9223372036854775807) ∧ (-9223372036854775808 ≤ r.2.1 ∧ r.2.1 ≤ 9223372036854775807) ∧ r.2.2.length ≤ maxLen ∧ ∀ c ∈ r.2.2, -9223372036854775808 ≤ c ∧ c ≤ 9223372036854775807
/-- Rows that came in: nil; or a row of them. -/
def Rw.IsRows (w : World) (a : Option Addr) (len cap : Nat) (l : List Rw.Row) : Prop :=
  ∃ ads, ads.length = l.length ∧ l.length = len ∧ len ≤ cap ∧ cap ≤ maxLen ∧ Sl w w.heap.size a (Rw.flI l ads) ∧
    (∀ (i : Nat) (r : Rw.Row) (a : Option Addr × Nat), l[i]? = some r → ads[i]? = some a → Sl w w.heap.size a.1 (r.2.2.map (Value.int .i64))) ∧ ∀ r ∈ l, Rw.bounds r

theorem Rw.getD_get {α : Type} {n : Nat} {f : Nat → α} {i : Nat} {x : α} (h : ((List.range n).map f)[i]? = some x) : i < n ∧ f i = x := by
  have hlt := (List.getElem?_eq_some_iff.1 h).1
  simp at hlt
  rw [List.getElem?_map, List.getElem?_range hlt] at h
  simp at h
  exact ⟨hlt, h⟩
theorem Rw.flI_cell {w : World} {b o : Nat} : ∀ (l : List Rw.Row) (ads : List (Option Addr × Nat)) (k : Nat), ads.length = l.length →
    (∀ i r a, l[i]? = some r → ads[i]? = some a → w.cell? ⟨b, o + (k + i) * 3, none⟩ = some (.int .i64 r.1) ∧ w.cell? ⟨b, o + (k + i) * 3 + 1, none⟩ = some (.int .i64 r.2.1) ∧ w.cell? ⟨b, o + (k + i) * 3 + 2, none⟩ = some (.slice a.1 r.2.2.length a.2)) →
    ∀ j, j < (Rw.flI l ads).length → w.cell? ⟨b, o + k * 3 + j, none⟩ = (Rw.flI l ads)[j]?
  | [], _, k, _, _, j, hj => by simp [Rw.flI] at hj
  | _ :: _, [], k, h, _, j, hj => by simp at h
  | r :: t, a :: as', k, hl, h, j, hj => by
    obtain ⟨h0, h1, h2⟩ := h 0 r a rfl rfl
    rw [Nat.add_zero] at h0 h1 h2
    have ih := Rw.flI_cell t as' (k + 1) (by simpa using hl) (fun i r' a' hi hi' => by
      have := h (i + 1) r' a' (by simpa using hi) (by simpa using hi')
      rw [show k + (i + 1) = k + 1 + i by omega] at this
      exact this)
    rcases j with _ | _ | _ | j
    · exact h0
    · rw [show o + k * 3 + (0 + 1) = o + k * 3 + 1 by omega]; exact h1
    · rw [show o + k * 3 + (0 + 1 + 1) = o + k * 3 + 2 by omega]; exact h2
    · have := ih j (by simp only [Rw.flI, List.length_cons] at hj; omega)
      rw [show o + k * 3 + (j + 1 + 1 + 1) = o + (k + 1) * 3 + j by omega, this]
      rfl

theorem Rw.isRows_of {H : Type} {enc : TypeId × Value → H} {P : Program} {w : World} {t e q : TypeId} {f0 f1 f2 : Field} {fuel : Nat} {a : Option Addr} {len cap : Nat} {x : DataW H × List MemPlace} (ht : P.underlying t = some (.slice e)) (he : P.underlying e = some (.struct #[f0, f1, f2]))
    (ce : P.cellsOf e = 3) (o0 : f0.offset = 0) (o1 : f1.offset = 1) (o2 : f2.offset = 2) (c0 : P.cellsOf f0.type = 1) (c1 : P.cellsOf f1.type = 1) (c2 : P.cellsOf f2.type = 1) (k0 : P.underlying f0.type = some (.int .i64)) (k1 : P.underlying f1.type = some (.int .i64))
    (k2 : P.underlying f2.type = some (.slice q)) (k3 : P.underlying q = some (.int .i64)) (c3 : P.cellsOf q = 1)
    (h : DataW.trod enc P w 0 (fun _ => true) true fuel t [.slice a len cap] = some x) : ∃ l, Rw.IsRows w a len cap l := by
  rcases open_slice ht h with ⟨hcs, _⟩ | ⟨ad, l, c, m, n, D, Pl, hcs, hb, hl, hm, hmm, _, hx⟩
  · simp only [List.cons.injEq, Value.slice.injEq, and_true] at hcs
    obtain ⟨rfl, rfl, rfl⟩ := hcs
    exact ⟨[], [], rfl, rfl, Nat.le_refl _, by decide, Sl.nil _ _ _, by simp, by simp⟩
  · simp only [List.cons.injEq, Value.slice.injEq, and_true] at hcs
    obtain ⟨rfl, rfl, rfl⟩ := hcs
    have hlm : len ≤ m := by rw [hmm]; split <;> omega
    have each : ∀ i, i < len → ∃ q : Rw.Row × Option Addr × Nat, w.cell? (ad.add (i * 3)) = some (.int .i64 q.1.1) ∧ w.cell? (ad.add (i * 3 + 1)) = some (.int .i64 q.1.2.1) ∧ w.cell? (ad.add (i * 3 + 2)) = some (.slice q.2.1 q.1.2.2.length q.2.2) ∧
        Sl w w.heap.size q.2.1 (q.1.2.2.map (Value.int .i64)) ∧ Rw.bounds q.1 := by
      intro i hi
      obtain ⟨cs', h1, h2⟩ := hx i (by omega)
      rw [ce] at h1
      obtain ⟨_, hlen, hcell⟩ := World.cells?_some h1
      obtain ⟨y0, y1, y2, n', _, _, g0, g1, g2⟩ := trod_struct3 he h2
      match cs', hlen with
      | [v0, v1, v2], _ =>
        simp [o0, o1, o2, c0, c1, c2] at g0 g1 g2
        obtain ⟨z0, e0, _, w0⟩ := DataW.trod_int k0 g0
        obtain ⟨z1, e1, _, w1⟩ := DataW.trod_int k1 g1
        simp only [List.cons.injEq, and_true] at e0 e1
        have d0 := hcell 0 (by omega)
        have d1 := hcell 1 (by omega)
        have d2 := hcell 2 (by omega)
        rw [add_add] at d0 d1 d2
        obtain ⟨a2, l2, p2, zs, ev, hR⟩ : ∃ a2 l2 p2 zs, v2 = .slice a2 l2 p2 ∧ IsRow .i64 w a2 l2 p2 zs := by
          rcases open_ints k2 k3 c3 g2 with ⟨hcs, _⟩ | ⟨x, l, c, zs, hcs, _, hl, hm, hz, _, hcel2, hwz⟩
          · simp only [List.cons.injEq, and_true] at hcs
            subst hcs
            exact ⟨none, 0, 0, [], rfl, .inl ⟨rfl, rfl, rfl, rfl⟩⟩
          · simp only [List.cons.injEq, and_true] at hcs
            subst hcs
            exact ⟨some x, l, c, zs, rfl, .inr ⟨_, rfl, hl, hm, by simpa using hz, hcel2, hwz⟩⟩
        subst ev
        obtain ⟨q1, q2, q3⟩ := hR.len_le
        have hlz : (zs.take l2).length = l2 := by rw [List.length_take, q3]; omega
        refine ⟨((z0, z1, zs.take l2), a2, p2), ?_, ?_, ?_, hR.sl l2 (Nat.le_refl _), bounds_i64 w0, bounds_i64 w1, by show (zs.take l2).length ≤ maxLen; omega, fun c hc => bounds_i64 (hR.wf c (List.mem_of_mem_take hc))⟩
        · rw [← e0]; simpa using d0
        · rw [← e1]; simpa using d1
        · show w.cell? (ad.add (i * 3 + 2)) = some (.slice a2 (zs.take l2).length p2)
          rw [hlz]; simpa using d2
    obtain ⟨q, hq⟩ := choose_lt each
    refine ⟨(List.range len).map fun i => (q i).1, (List.range len).map fun i => (q i).2, by simp, by simp, hl, hm, ?_, ?_, ?_⟩
    · intro hne
      rw [Rw.flI_len _ _ (by simp), List.length_map, List.length_range] at hne
      obtain ⟨b, off, spot⟩ := ad
      have hc0 := (hq 0 (by omega)).1
      have hspot : spot = none := by simpa [Addr.add] using World.cell?_spot hc0
      subst hspot
      have hadd : ∀ i, (⟨b, off, none⟩ : Addr).add i = ⟨b, off + i, none⟩ := by
        intro i; unfold Addr.add; split <;> simp_all
      refine ⟨b, off, rfl, ?_, fun j hj => ?_⟩
      · rw [hadd] at hc0
        exact World.block_lt_of_cell? w _ hc0
      · have := Rw.flI_cell (w := w) (b := b) (o := off) ((List.range len).map fun i => (q i).1) ((List.range len).map fun i => (q i).2) 0 (by simp) (fun i r a hi hi' => by
          obtain ⟨hi1, he1⟩ := Rw.getD_get hi
          obtain ⟨_, he2⟩ := Rw.getD_get hi'
          obtain ⟨a0, a1, a2, _⟩ := hq i hi1
          rw [hadd] at a0 a1 a2
          rw [he1] at a0 a1 a2
          rw [he2] at a2
          rw [Nat.zero_add]
          exact ⟨a0, a1, a2⟩) j hj
        simpa using this
    · intro i r a hi hi'
      obtain ⟨hi1, he1⟩ := Rw.getD_get hi
      obtain ⟨_, he2⟩ := Rw.getD_get hi'
      have := (hq i hi1).2.2.2.1
      rw [he1, he2] at this
      exact this
    · intro r hr
      obtain ⟨i, hi, rfl⟩ := List.mem_map.1 hr
      exact (hq i (List.mem_range.1 hi)).2.2.2.2
end Go.Proofs.YtkmfegamblmpeaaGreatDoor
