/- The lookups of a loaded table: Map, Full, Join, Inner. -/
import Derived.Test.YtkmfegamblmpeaaGreatDoorUdLook
import Derived.Test.YtkmfegamblmpeaaGreatDoorLib3
import Derived.Test.YtkmfegamblmpeaaGreatDoorUdPlain
import Derived.Laws.BitsAllLaws
import Derived.Test.YtkmfegamblmpeaaGreatDoorRwPlain
import Derived.Test.YtkmfegamblmpeaaGreatDoorExt
import Derived.Test.YtkmfegamblmpeaaGreatDoorCpIsPlain
import Derived.Test.YtkmfegamblmpeaaGreatDoorUdIs
namespace Go.Proofs.YtkmfegamblmpeaaGreatDoor
open Go.RowKit
set_option linter.unusedSimpArgs false
set_option linter.unusedVariables false
theorem Ud.rmp_le {T : List Rw.Row} {S : List Int} (ok : Ud.Ok T S) (c : Int) : (Md.rmp T c).length ≤ 2 := by
  unfold Md.rmp
  cases hf : Md.find T c with
  | none => simp
  | some r => exact (ok.good r (Md.find_some hf).1).2.2.2.1
theorem Ud.fullT_le {T : List Rw.Row} {S : List Int} (ok : Ud.Ok T S) (c : Int) : (Ud.full T c).length ≤ 32 := by
  obtain ⟨l, hl⟩ := Md.full_some ok.chk c
  unfold Ud.full
  rw [hl]
  exact (Md.full_none hl).2.2.1

set_option maxRecDepth 100000 in
set_option maxHeartbeats 1000000 in
theorem Ud.map_any (v : Value) (T : List Rw.Row) (S : List Int) (c : Int) (w : World) (ok : Ud.Ok T S) (h : Ud.Is w v T S) (h3 : -2147483648 ≤ c) (h4 : c ≤ 2147483647) :
    Calls Tryz.prog 13 #[v, .int .i32 c] w (RetInts .i32 (Md.mp T c) w) := by
  have hF := Ud.find_any v T S c w ok h
  have hm := Ud.mp_pair (T := T) (c := c)
  have hP := Hg.pair_any c w h3 h4
  have hle := Ud.rmp_le ok c
  rcases hpk : Hg.pairK c with ⟨x, y, is⟩
  rw [hpk] at hm hP
  cases is
  · rw [if_neg (by simp)] at hm
    rw [hm]
    unfold Ud.RetFind at hF
    obtain ⟨l, hl⟩ : ∃ l, Md.rmp T c = l := ⟨_, rfl⟩
    obtain ⟨z, hz⟩ : ∃ z, Ud.isr T c = z := ⟨_, rfl⟩
    obtain ⟨fl, hfl⟩ : ∃ z, Ud.fl T c = z := ⟨_, rfl⟩
    obtain ⟨pb, hpb⟩ : ∃ z, Ud.isp T S c = z := ⟨_, rfl⟩
    rw [hz, hfl, hl, hpb] at hF
    rw [hl] at hle ⊢
    have HF := Lib.hid hF
    clear hF hz hfl hl hpb hm hpk h ok h3 h4
    go_enter Tryz.func13, Tryz.ntmps13
    go_wp2_with fail
    refine hP.mono ?_
    rintro e w0 ⟨rfl, rfl⟩
    go_wp2_with fail
    refine HF.out.mono ?_
    rintro e w1 ⟨m, mc, f, fc, rfl, hsl, _, hb1⟩
    have hbn : Below w1.heap.size w1 (w1.alloc (.cells #[.slice m l.length mc, .slice f fl.length fc, .bool pb] 81)) := (Below.refl _ _).alloc (Nat.le_refl _) _
    have hn := Rw.At.new w1 81 [.slice m l.length mc, .slice f fl.length fc, .bool pb]
    have y0 := hn.cell 0 rfl
    have hC := R.clone_any m l.length mc _ l _ rfl (by omega) (Nat.le_refl _) (hsl.below hbn hbn.size)
    have HB := Lib.hid (hb1.trans (hbn.mono hb1.size))
    clear hb1 hn hsl hbn HF hP
    go_wp2_with fail
    refine hC.mono ?_
    rintro e w2 ⟨A', c', rfl, hown, hb2⟩
    have HO := Lib.hid (Sl.of_own hown)
    have HB2 := Lib.hid (HB.out.trans (hb2.mono HB.out.size))
    clear hown hb2 hC y0
    go_wp2_with fail
    go_ret
    exact ⟨A', c', rfl, HO.out, HB2.out⟩
  · rw [if_pos rfl] at hm
    rw [hm]
    clear hF hm hpk h ok h3 h4 hle
    go_enter Tryz.func13, Tryz.ntmps13
    go_wp2_with fail
    refine hP.mono ?_
    rintro e w0 ⟨rfl, rfl⟩
    clear hP
    go_wp2_with fail
    go_ret
    exact ⟨_, _, rfl, Sl.lit rfl _ _ (heap_alloc_new _ _), (Below.refl _ _).alloc (Nat.le_refl _) _⟩

set_option maxRecDepth 100000 in
set_option maxHeartbeats 1000000 in
theorem Ud.full_any (v : Value) (T : List Rw.Row) (S : List Int) (c : Int) (w : World) (ok : Ud.Ok T S) (h : Ud.Is w v T S) (h3 : -2147483648 ≤ c) (h4 : c ≤ 2147483647) :
    Calls Tryz.prog 14 #[v, .int .i32 c] w (RetInts .i32 (Ud.full T c) w) := by
  have hS := Hg.split_any c w h3 h4
  obtain ⟨s, hs⟩ : ∃ s, Hg.splitK c = s := ⟨_, rfl⟩
  rw [hs] at hS
  by_cases hne : s = []
  · subst hne
    have hF : ∀ W, Below w.heap.size w W → Calls Tryz.prog 39 #[v, .int .i32 c] W (Ud.RetFind T S c W) := fun W hW => Ud.find_any v T S c W ok (h.below hW)
    have hk := Ud.split_kind hs
    have hle := Ud.fullT_le ok c
    have hA : Ud.isr T c = true → Ud.fl T c = Ud.full T c := fun hz => by unfold Ud.fl; rw [if_pos hz]
    have hB : Ud.isr T c = false → Ud.full T c = [c] := fun hz => by
      refine Ud.full_one ?_ hk
      unfold Ud.isr at hz
      rw [decide_eq_false_iff_not] at hz
      exact List.eq_nil_of_length_eq_zero (by omega)
    obtain ⟨rn, hrn⟩ : ∃ z, (Md.rmp T c).length = z := ⟨_, rfl⟩
    obtain ⟨z, hz⟩ : ∃ z, Ud.isr T c = z := ⟨_, rfl⟩
    obtain ⟨fl, hfl⟩ : ∃ z, Ud.fl T c = z := ⟨_, rfl⟩
    obtain ⟨pb, hpb⟩ : ∃ z, Ud.isp T S c = z := ⟨_, rfl⟩
    obtain ⟨l, hl⟩ : ∃ z, Ud.full T c = z := ⟨_, rfl⟩
    unfold Ud.RetFind at hF
    rw [hz, hfl, hrn, hpb] at hF
    rw [hl] at hle ⊢
    rw [hz, hfl, hl] at hA
    rw [hz, hl] at hB
    have HF := Lib.hid hF
    have HA := Lib.hid hA
    have HB := Lib.hid hB
    clear hF hz hfl hl hpb h ok h3 h4 hA hB hs hk hrn
    go_enter Tryz.func14, Tryz.ntmps14
    go_wp2_with fail
    refine hS.mono ?_
    rintro e w0 ⟨A, cc, rfl, _, hb0⟩
    have hF0 := HF.out w0 hb0
    have HB0 := Lib.hid hb0
    clear hS hb0 HF
    go_wp2_with fail
    refine hF0.mono ?_
    rintro e w1 ⟨m, mc, f, fc, rfl, _, hsl, hb1⟩
    have hbn : Below w1.heap.size w1 (w1.alloc (.cells #[.slice m rn mc, .slice f fl.length fc, .bool pb] 81)) := (Below.refl _ _).alloc (Nat.le_refl _) _
    have hn := Rw.At.new w1 81 [.slice m rn mc, .slice f fl.length fc, .bool pb]
    have y1 := hn.cell 1 rfl
    have HB1 := Lib.hid (HB0.out.trans (hb1.mono HB0.out.size))
    have HB2 := Lib.hid (HB1.out.trans (hbn.mono HB1.out.size))
    have HSL := Lib.hid (hsl.below hbn hbn.size)
    clear hb1 hn hsl hbn hF0
    cases z
    · have hlc := HB.out rfl
      clear HB
      subst hlc
      clear y1 HA
      go_wp2_with fail
      go_ret
      have hh := heap_alloc_new (w1.alloc (.cells #[.slice m rn mc, .slice f fl.length fc, .bool pb] 81)) (.cells #[.int .i32 c] 21)
      rw [show (w1.alloc (.cells #[.slice m rn mc, .slice f fl.length fc, .bool pb] 81)).heap.size = w1.heap.size + 1 by simp] at hh
      exact ⟨_, _, rfl, Sl.lit rfl _ _ hh, HB2.out.alloc HB2.out.size _⟩
    · have hlc := HA.out rfl
      subst hlc
      have hC := R.clone_any f fl.length fc _ fl _ rfl (by omega) (Nat.le_refl _) HSL.out
      clear HA HB
      go_wp2_with fail
      refine hC.mono ?_
      rintro e w2 ⟨A', c', rfl, hown, hb2⟩
      have HO := Lib.hid (Sl.of_own hown)
      have HB3 := Lib.hid (HB2.out.trans (hb2.mono HB2.out.size))
      clear hown hb2 hC y1
      go_wp2_with fail
      go_ret
      exact ⟨A', c', rfl, HO.out, HB3.out⟩
  · have hfs := Ud.full_split ok (c := c) (by rw [hs]; exact hne)
    rw [hs] at hfs
    rw [hfs]
    have hpos : (0 : Int) < s.length := by
      have := List.length_pos_iff.2 hne
      omega
    clear hs hne hfs h ok h3 h4
    go_enter Tryz.func14, Tryz.ntmps14
    go_wp2_with fail
    refine hS.mono ?_
    rintro e w0 ⟨A, cc, rfl, hsl, hb0⟩
    have HSL := Lib.hid hsl
    have HB0 := Lib.hid hb0
    clear hS hb0 hsl
    go_wp2_with fail
    go_ret
    exact ⟨A, cc, rfl, HSL.out, HB0.out⟩

/-- What two are composed to. -/
def Ud.joinK (T : List Rw.Row) (S : List Int) (a b : Int) : Int × Bool :=
  if (Hg.joinK a b).2 = true then ((Hg.joinK a b).1, true) else ((Ud.joi T (C.mem S) T a b).getD 0, (Ud.joi T (C.mem S) T a b).isSome)
set_option maxRecDepth 100000 in
set_option maxHeartbeats 1000000 in
theorem Ud.join_any (v : Value) (T : List Rw.Row) (S : List Int) (a c : Int) (w : World) (ok : Ud.Ok T S) (h : Ud.Is w v T S) (h1 : -2147483648 ≤ a) (h2 : a ≤ 2147483647) (h3 : -2147483648 ≤ c) (h4 : c ≤ 2147483647) :
    Calls Tryz.prog 30 #[v, .int .i32 a, .int .i32 c] w fun e w' => e = .returned (.tuple #[.int .i32 (Ud.joinK T S a c).1, .bool (Ud.joinK T S a c).2]) ∧ Below w.heap.size w w' := by
  have hJ := Hg.join_any a c w h1 h2 h3 h4
  have hj : Ud.joinK T S a c = if (Hg.joinK a c).2 = true then ((Hg.joinK a c).1, true) else ((Ud.joi T (C.mem S) T a c).getD 0, (Ud.joi T (C.mem S) T a c).isSome) := rfl
  rcases hjk : Hg.joinK a c with ⟨x, is⟩
  rw [hjk] at hj hJ
  cases is
  · rw [if_neg (by simp)] at hj
    rw [hj]
    obtain ⟨b, A0, c0, XA, xc, pc, pp, A3, c3, mb, jb, A4, c4, A5, c5, A6, c6, es, rfl, hat, _, _, hpc, hpp, hents, _, hjoi, _⟩ := h.is
    obtain ⟨F, hF1, hF2⟩ := hjoi
    have hl := Ud.lookP hF1 ⟨h1, h2⟩ ⟨h3, h4⟩
    have e0 : F (Md.pk a c) = (Ud.joi T (C.mem S) T a c).map (Value.int .i32) := hF2 a c
    rw [e0] at hl
    have z6 := hat.cell 6 rfl
    have hbl := hat.lt
    obtain ⟨o, ho⟩ : ∃ o, Ud.joi T (C.mem S) T a c = o := ⟨_, rfl⟩
    rw [ho] at hl ⊢
    have e1 : (o.map (Value.int .i32)).getD (.int .i32 0) = .int .i32 (o.getD 0) := by cases o <;> rfl
    have e2 : (o.map (Value.int .i32)).isSome = o.isSome := by cases o <;> rfl
    rw [e1, e2] at hl
    obtain ⟨u, hu⟩ : ∃ u, o.getD 0 = u := ⟨_, rfl⟩
    obtain ⟨t, ht⟩ : ∃ t, o.isSome = t := ⟨_, rfl⟩
    rw [hu, ht] at hl ⊢
    clear hF1 hF2 e0 e1 e2 ho hu ht hents hpc hpp hat h ok hj hjk h1 h2 h3 h4
    go_enter Tryz.func30, Tryz.ntmps30
    go_wp2_with fail
    refine hJ.mono ?_
    rintro e w0 ⟨rfl, rfl⟩
    clear hJ
    go_wp2_with fail
    go_ret2
    exact ⟨rfl, Below.refl _ _⟩
  · rw [if_pos rfl] at hj
    rw [hj]
    clear h ok hj hjk h1 h2 h3 h4
    go_enter Tryz.func30, Tryz.ntmps30
    go_wp2_with fail
    refine hJ.mono ?_
    rintro e w0 ⟨rfl, rfl⟩
    clear hJ
    go_wp2_with fail
    go_ret2
    exact ⟨rfl, Below.refl _ _⟩

set_option maxRecDepth 100000 in
set_option maxHeartbeats 1000000 in
theorem Ud.inner_any (v : Value) (T : List Rw.Row) (S : List Int) (c : Int) (w : World) (ok : Ud.Ok T S) (hl : (C.chars (Ud.inn T T)).length ≤ 1000000) (h : Ud.Is w v T S) (h3 : -2147483648 ≤ c) (h4 : c ≤ 2147483647) :
    Calls Tryz.prog 31 #[v, .int .i32 c] w fun e w' => e = .returned (.bool (C.mem (C.chars (Ud.inn T T)) c || decide (Hg.ofK c = 2) || decide (Hg.ofK c = 3))) ∧ Below w.heap.size w w' := by
  obtain ⟨b, A0, c0, XA, xc, pc, pp, A3, c3, mb, jb, A4, c4, A5, c5, A6, c6, es, rfl, hat, _, _, hpc, hpp, hents, _, hjoi, hi, _⟩ := h.is
  have hH := C.has_any A4 c4 _ w.heap.size _ c w rfl hl (C.chars_spec _).1.1 (Nat.le_refl _) hi
  have hO := Hg.of_any c w h3 h4
  have z7 := hat.cell 7 rfl
  have hbl := hat.lt
  obtain ⟨n, hn⟩ : ∃ n, (C.chars (Ud.inn T T)).length = n := ⟨_, rfl⟩
  obtain ⟨m, hm⟩ : ∃ m, C.mem (C.chars (Ud.inn T T)) c = m := ⟨_, rfl⟩
  obtain ⟨k, hk⟩ : ∃ k, Hg.ofK c = k := ⟨_, rfl⟩
  rw [hn] at z7 hH
  rw [hm] at hH ⊢
  rw [hk] at hO ⊢
  clear hjoi hents hpc hpp hat h ok hi hn hm hk h3 h4 hl
  go_enter Tryz.func31, Tryz.ntmps31
  go_wp2_with fail
  refine hO.mono ?_
  rintro e w0 ⟨rfl, rfl⟩
  clear hO
  go_wp2_with fail
  refine hH.mono ?_
  rintro e w1 ⟨rfl, hb1⟩
  have HB := Lib.hid hb1
  clear hb1 hH z7
  cases m
  · by_cases k2 : k = 2
    · subst k2
      go_wp2_with fail
      go_ret
      exact ⟨rfl, HB.out⟩
    · have k2b : (k == 2) = false := by simpa using k2
      by_cases k3 : k = 3
      · subst k3
        go_wp2_with fail
        go_ret
        exact ⟨rfl, HB.out⟩
      · have k3b : (k == 3) = false := by simpa using k3
        go_wp2_with fail
        go_ret
        exact ⟨by simp [k2, k3], HB.out⟩
  · go_wp2_with fail
    go_ret
    exact ⟨rfl, HB.out⟩
end Go.Proofs.YtkmfegamblmpeaaGreatDoor

/- The laws' Char and Chars, by walking their texts. -/
namespace Go.Proofs.YtkmfegamblmpeaaGreatDoor
open Go.RowKit
set_option linter.unusedSimpArgs false
set_option linter.unusedVariables false

theorem Ch.isC_iff (c : Int) : C.isC c = true ↔ (0 ≤ c ∧ c ≤ 1114111 ∧ (c < 55296 ∨ 57343 < c)) := by unfold C.isC; simp
def Ch.RetOwn (el : TypeId) (k : IntKind) (l : List Int) (w : World) (e : Ending) (w' : World) : Prop :=
  ∃ A c, e = .returned (.slice A l.length c) ∧ w'.ownsRow w.heap.size el 1 (.slice A l.length c) l.length (l.map (Value.int k)) ∧ Below w.heap.size w w'
theorem Ch.RetOwn.mk {el : TypeId} {k : IntKind} {l : List Int} {w w' : World} {v : Value} {m : Nat} {xs : List Value} (h : w'.ownsRow w.heap.size el 1 v m xs) (hm : m = l.length) (hx : xs = l.map (Value.int k)) (hb : Below w.heap.size w w') :
    Ch.RetOwn el k l w (.returned v) w' := by
  subst hm hx
  obtain ⟨A, c, rfl⟩ := own_form h
  exact ⟨A, c, rfl, h, hb⟩
theorem Ch.and_21 (n : Int) : bits .and .i64 n 2097151 = n % 2097152 := by
  have hm : (BitVec.ofInt 64 2097151).toNat = 2 ^ 21 - 1 := by decide
  have key : (BitVec.ofInt 64 n &&& BitVec.ofInt 64 2097151).toNat = (n % ((2 ^ 64 : Nat) : Int)).toNat % 2 ^ 21 := by
    rw [BitVec.toNat_and, BitVec.toNat_ofInt, hm, Nat.and_two_pow_sub_one_eq_mod]
  show IntKind.i64.wrap ((BitVec.ofInt 64 n &&& BitVec.ofInt 64 2097151).toNat : Nat) = n % 2097152
  rw [key, IntKind.wrap_i64]
  omega
theorem Ch.and_11 (n : Int) : bits .and .i64 n 2047 = n % 2048 := by
  have hm : (BitVec.ofInt 64 2047).toNat = 2 ^ 11 - 1 := by decide
  have key : (BitVec.ofInt 64 n &&& BitVec.ofInt 64 2047).toNat = (n % ((2 ^ 64 : Nat) : Int)).toNat % 2 ^ 11 := by
    rw [BitVec.toNat_and, BitVec.toNat_ofInt, hm, Nat.and_two_pow_sub_one_eq_mod]
  show IntKind.i64.wrap ((BitVec.ofInt 64 n &&& BitVec.ofInt 64 2047).toNat : Nat) = n % 2048
  rw [key, IntKind.wrap_i64]
  omega

def Ch.K (x : Int) : Int := if C.isC (x % 2097152) then x % 2097152 else x % 2097152 % 2048
theorem Ch.K_is (x : Int) : C.isC (Ch.K x) = true := by
  unfold Ch.K
  split
  · assumption
  · rw [Ch.isC_iff]; omega

theorem Ch.K_bd (x : Int) : -2147483648 ≤ Ch.K x ∧ Ch.K x ≤ 2147483647 := by
  have := (Ch.isC_iff _).1 (Ch.K_is x)
  omega

set_option maxRecDepth 100000 in
theorem Ch.ris_any (c : Int) (w : World) : Calls Tryz.prog 59 #[.int .i64 c] w fun e w' => e = .returned (.bool (C.isC c)) ∧ w = w' := by
  obtain ⟨q, hq⟩ : ∃ q, C.isC c = q := ⟨_, rfl⟩
  rw [hq]
  have HQ := Lib.hid hq
  clear hq
  go_enter Tryz.func59, Tryz.ntmps59
  by_cases h0 : 0 ≤ c
  · by_cases h1 : c ≤ 1114111
    · by_cases h2 : c < 55296
      · go_wp2
        go_ret
        exact ⟨by rw [← HQ.out]; exact ret_bool (by unfold C.isC; symm; exact decide_eq_true (by omega)), rfl⟩
      · by_cases h3 : 57343 < c
        · go_wp2
          go_ret
          exact ⟨by rw [← HQ.out]; exact ret_bool (by unfold C.isC; symm; exact decide_eq_true (by omega)), rfl⟩
        · go_wp2
          go_ret
          exact ⟨by rw [← HQ.out]; exact ret_bool (by unfold C.isC; symm; exact decide_eq_false (by omega)), rfl⟩
    · go_wp2
      go_ret
      exact ⟨by rw [← HQ.out]; exact ret_bool (by unfold C.isC; symm; exact decide_eq_false (by omega)), rfl⟩
  · go_wp2
    go_ret
    exact ⟨by rw [← HQ.out]; exact ret_bool (by unfold C.isC; symm; exact decide_eq_false (by omega)), rfl⟩

set_option maxRecDepth 100000 in
set_option maxHeartbeats 400000 in
theorem Ch.char_any (x : Int) (w : World) :
    Calls Tryz.prog 34 #[.int .i64 x] w fun e w' => e = .returned (.int .i32 (Ch.K x)) ∧ w = w' := by
  have e1 := Ch.and_21 x
  have e2 := Ch.and_11 (x % 2097152)
  have b1 : 0 ≤ x % 2097152 := by omega
  have b2 : x % 2097152 ≤ 2097151 := by omega
  have b3 : 0 ≤ x % 2048 := by omega
  have b4 : x % 2048 ≤ 2047 := by omega
  by_cases hi : C.isC (x % 2097152) = true
  · have hk : Ch.K x = x % 2097152 := by unfold Ch.K; rw [if_pos hi]
    have HK := Lib.hid hk
    clear hk
    go_enter Tryz.func34, Tryz.ntmps34
    go_wp2_with (go_at_call 59; refine (Ch.ris_any _ _).mono ?_; rintro e w' ⟨rfl, rfl⟩)
    go_ret
    exact ⟨ret_int HK.out.symm, rfl⟩
  · have hk : Ch.K x = x % 2048 := by unfold Ch.K; rw [if_neg hi]; omega
    have hi' : C.isC (x % 2097152) = false := by simpa using hi
    have HK := Lib.hid hk
    clear hk hi
    go_enter Tryz.func34, Tryz.ntmps34
    go_wp2_with (go_at_call 59; refine (Ch.ris_any _ _).mono ?_; rintro e w' ⟨rfl, rfl⟩)
    go_ret
    exact ⟨ret_int HK.out.symm, rfl⟩

end Go.Proofs.YtkmfegamblmpeaaGreatDoor

/- RowsPlain, plain: rows that say nothing, put between; no program in sight. -/
namespace Go.Proofs.YtkmfegamblmpeaaGreatDoor
open Go.RowKit Go.Stop
set_option linter.unusedSimpArgs false
set_option linter.unusedVariables false

/-- Rows' text. -/
def Rw.txt (l : List Rw.Row) : List UInt8 := l.flatMap fun r => Rw.line r ++ [10]
theorem Rw.txt_app (a b : List Rw.Row) : Rw.txt (a ++ b) = Rw.txt a ++ Rw.txt b := by simp [Rw.txt]
theorem Rw.txt_one (r : Rw.Row) : Rw.txt [r] = Rw.line r ++ [10] := by simp [Rw.txt]
theorem Rw.txt_eq (l : List Rw.Row) : Rw.txt l = (l.map Rw.line).flatMap fun x => x ++ [10] := by simp [Rw.txt, List.flatMap_map]
theorem Rw.line_len (r : Rw.Row) (h : Rw.right r) : (Rw.line r).length ≤ 1000 := by
  have := Rw.line_ok r h
  unfold Rw.okl at this
  rw [Bool.and_eq_true, decide_eq_true_eq] at this
  exact this.1
theorem Rw.txt_len : ∀ (l : List Rw.Row), (∀ r ∈ l, Rw.right r) → (Rw.txt l).length ≤ 1001 * l.length
  | [], _ => by simp [Rw.txt]
  | r :: l, h => by
    have h1 := Rw.line_len r (h r List.mem_cons_self)
    have h2 := Rw.txt_len l fun q hq => h q (List.mem_cons_of_mem _ hq)
    rw [show r :: l = [r] ++ l from rfl, Rw.txt_app, Rw.txt_one]
    simp
    omega
def Rw.fine (r : Rw.Row) : Prop := Rw.right r ∧ (C.isC r.1 = true ∨ Rw.quiet r = true)
theorem Rw.parse_txt (l : List Rw.Row) (h : ∀ r ∈ l, Rw.fine r) (hr : Rw.rise (-1) l) (hl : l.length ≤ 40000) : Rw.parse (Rw.txt l) = some (l.filter fun r => !Rw.quiet r) := by
  rw [Rw.txt_eq]
  exact Rw.parse_lines l h hr hl

def Rp.cl (k : Int) : Int := 1 + k % 256 % 254
abbrev Rp.St := List Rw.Row × List Rw.Row × Int
def Rp.next (st : Rp.St) (r : Rw.Row) : Rp.St :=
  if Ch.K r.1 ≤ st.2.2 + 1 then st else (st.1 ++ [(Ch.K r.1, Rp.cl r.2.1, [])], st.2.1 ++ [(st.2.2 + 1, 0, []), (Ch.K r.1, Rp.cl r.2.1, [])], Ch.K r.1)
def Rp.lit : List UInt8 := [48, 48, 67, 53, 59, 88, 59, 76, 117, 59, 48, 59, 76, 59, 48, 48, 52, 49, 32, 48, 51, 48, 65, 59, 59, 59, 59, 78, 59, 59, 59, 59, 48, 48, 69, 53, 59]
end Go.Proofs.YtkmfegamblmpeaaGreatDoor

/- The layer cpset: all characters of a set, by walking its text. -/
namespace Go.Proofs.YtkmfegamblmpeaaGreatDoor
open Go.RowKit
set_option linter.unusedSimpArgs false
set_option linter.unusedVariables false

/-- n numbers, one behind the other. -/
def C.run (a : Int) (n : Nat) : List Int := (List.range n).map fun (i : Nat) => a + (i : Int)
end Go.Proofs.YtkmfegamblmpeaaGreatDoor

/- The layer cpset: all characters of a set, in plain Lean. -/
namespace Go.Proofs.YtkmfegamblmpeaaGreatDoor
set_option linter.unusedSimpArgs false
set_option linter.unusedVariables false

theorem C.chF_len : ∀ (cs acc : List Int), (C.chF cs acc).length ≤ acc.length + 2 * cs.length
  | [], acc => by simp [C.chF]
  | c :: t, acc => by
    have h : (C.step C.isC acc c (c + 1)).length ≤ acc.length + 2 := by
      unfold C.step
      split
      · split
        · rw [List.length_append, List.length_dropLast]; simp; omega
        · rw [List.length_append]; simp
      · omega
    have h2 := C.chF_len t (C.step C.isC acc c (c + 1))
    show (C.chF t (C.step C.isC acc c (c + 1))).length ≤ _
    rw [List.length_cons]
    omega
theorem C.chars_len (l : List Int) : (C.chars l).length ≤ 2 * l.length := by
  have h1 := C.chF_len (C.once l) []
  have h2 : (C.once l).length ≤ l.length := by
    unfold C.once Lib.compactUpTo
    rw [List.length_map]
    exact Nat.le_trans (List.length_filter_le _ _) (by simp)
  unfold C.chars
  simp at h1
  omega
end Go.Proofs.YtkmfegamblmpeaaGreatDoor
