/- The law's same: characters against numbers: by walking its text. -/
import Derived.Test.YtamcpdggpdaioaaSlt
import Derived.BigRegion
import Derived.Deep.DeepCutAuto
import Derived.Test.YtamcpdggpdaioaaMdTab
import Derived.Test.YtamcpdggpdaioaaExt
import Derived.Test.YtamcpdggpdaioaaCpPlainE
import Derived.Test.YtamcpdggpdaioaaCpArgs
namespace Go.Proofs.Ytamcpdggpdaioaa
open Go.RowKit
set_option linter.unusedSimpArgs false
set_option linter.unusedVariables false

set_option maxRecDepth 100000 in
set_option maxHeartbeats 4000000 in
theorem Md.same_any (A B : Option Addr) (na ca nb cb : Nat) (LA LB : List Int) (w : World) (hna : LA.length = na) (hnb : LB.length = nb) (hal : na ≤ 1000000) (hbl : nb ≤ 1000000) (hbd : ∀ x ∈ LA, -2147483648 ≤ x ∧ x ≤ 2147483647)
    (hA : Sl w w.heap.size A (LA.map (Value.int .i32))) (hB : Sl w w.heap.size B (LB.map (Value.int .i64))) :
    Calls Try.prog 23 #[.slice A na ca, .slice B nb cb] w fun e w' => e = .returned (.bool (decide (LA = LB))) ∧ Below w.heap.size w w' := by
  have HA := Lib.hid hA
  have HB := Lib.hid hB
  have HNA := Lib.hid hna
  have HNB := Lib.hid hnb
  have HBD := Lib.hid hbd
  obtain ⟨r, hr⟩ : ∃ r, decide (LA = LB) = r := ⟨_, rfl⟩
  rw [hr]
  have HR := Lib.hid hr
  clear hA hB hna hnb hr hbd
  go_enter Try.func23, Try.ntmps23
  rcases hd : ((na : Int) != (nb : Int)) with _ | _
  · have hnn : na = nb := by
      have : (na : Int) = nb := by simpa using hd
      omega
    subst hnn
    go_wp2_with fail
    go_loopw [13] (fun i wr => ∃ k : Nat, k ≤ na ∧ i = .int .i64 k ∧ LA.take k = LB.take k ∧ Below w.heap.size w wr) (fun i _ => na - (intOf i).toNat)
    case atStart => exact ⟨0, Nat.zero_le _, rfl, rfl, Below.refl _ _⟩
    case round =>
      obtain ⟨k, hk, rfl, htake, hbel⟩ := hrel
      have HTAKE := Lib.hid htake
      have HBEL := Lib.hid hbel
      by_cases hlt : k < na
      · obtain ⟨x, hx⟩ : ∃ x, LA[k]? = some x := ⟨_, List.getElem?_eq_getElem (by rw [HNA.out]; exact hlt)⟩
        obtain ⟨y, hy⟩ : ∃ y, LB[k]? = some y := ⟨_, List.getElem?_eq_getElem (by rw [HNB.out]; exact hlt)⟩
        obtain ⟨ba, oa, rfl, hba, hca⟩ := (HA.out.below hbel hbel.size) (by rw [List.length_map, HNA.out]; omega)
        obtain ⟨bb, ob, rfl, hbb, hcb⟩ := (HB.out.below hbel hbel.size) (by rw [List.length_map, HNB.out]; omega)
        have c0 := hca k (by rw [List.length_map, HNA.out]; exact hlt)
        have c1 := hcb k (by rw [List.length_map, HNB.out]; exact hlt)
        rw [List.getElem?_map, hx, Option.map_some] at c0
        rw [List.getElem?_map, hy, Option.map_some] at c1
        have hxb := HBD.out x (List.mem_of_getElem? hx)
        have ex : IntKind.i64.wrap x = x := by rw [IntKind.wrap_i64]; omega
        have hkI : (k : Int) < na := by omega
        have hk0 : (0 : Int) ≤ k := by omega
        have HX := Lib.hid hx
        have HY := Lib.hid hy
        clear htake hbel hx hy hca hcb hd hxb
        rcases hxy : (x != y) with _ | _
        · have he : x = y := by simpa using hxy
          have htk : LA.take (k + 1) = LB.take (k + 1) := by rw [List.take_add_one, List.take_add_one, HX.out, HY.out, HTAKE.out, he]
          have HTK := Lib.hid htk
          clear htk he
          go_upto_region 6 with (fail)
          go_region
          all_goals go_wp2_with fail
          all_goals exact ⟨⟨k + 1, by omega, by go_num, HTK.out, HBEL.out.drew⟩, by simp [intOf]; omega⟩
        · have hne : LA ≠ LB := by
            rintro rfl
            have := HX.out.symm.trans HY.out
            simp only [Option.some.injEq] at this
            subst this
            simp at hxy
          have hr : r = false := by rw [← HR.out]; exact decide_eq_false hne
          have HRF := Lib.hid hr
          clear hne hr
          go_upto_region 6 with (fail)
          go_region
          all_goals go_wp2_with fail
          all_goals go_ret
          all_goals exact ⟨by rw [HRF.out]; rfl, HBEL.out.drew⟩
      · obtain rfl : na = k := by omega
        have he : LA = LB := by
          have h := HTAKE.out
          rw [List.take_of_length_le (Nat.le_of_eq HNA.out), List.take_of_length_le (Nat.le_of_eq HNB.out)] at h
          exact h
        have hr : r = true := by rw [← HR.out]; exact decide_eq_true he
        have HRF := Lib.hid hr
        clear he hr htake hbel hlt hd
        go_wp2_with fail
        go_ret
        exact ⟨by rw [HRF.out]; rfl, HBEL.out⟩
  · have hr : r = false := by
      rw [← HR.out]
      refine decide_eq_false fun e => ?_
      have h1 := HNA.out
      rw [e, HNB.out] at h1
      subst h1
      simp at hd
    have HRF := Lib.hid hr
    clear hr
    go_wp2_with fail
    go_ret
    exact ⟨by rw [HRF.out]; rfl, Below.refl _ _⟩
end Go.Proofs.Ytamcpdggpdaioaa

/- A right table: each character has a full decomposition. -/
namespace Go.Proofs.Ytamcpdggpdaioaa
set_option linter.unusedVariables false
theorem Md.chk_none {T : List Rw.Row} {X : Int → Bool} (h : Md.chk T X = 0) : (∀ r ∈ T, Md.good r) ∧ Md.rises T ∧ (∀ r ∈ T, ∃ l, Md.full T r.1 = some l) ∧ Md.twice T X [] T = false := by
  unfold Md.chk at h
  by_cases h1 : Md.rowsBad (-1) T = 0
  · rw [if_neg (by simp [h1])] at h
    obtain ⟨g1, g2⟩ := Md.rowsBad_zero T (-1) h1
    cases h2 : Md.fullBad T with
    | true => rw [if_pos h2] at h; cases h
    | false =>
      rw [if_neg (by simp [h2])] at h
      refine ⟨fun r hr => (g1 r hr).1, g2, fun r hr => ?_, ?_⟩
      · unfold Md.fullBad at h2
        have := List.any_eq_false.1 h2 r hr
        cases hf : Md.full T r.1 with
        | none => simp [hf] at this
        | some l => exact ⟨l, rfl⟩
      · cases h3 : Md.twice T X [] T with
        | true => rw [if_pos h3] at h; cases h
        | false => rfl
  · rw [if_pos h1] at h
    exact absurd h h1
theorem Md.rmp_kind {T : List Rw.Row} (h : ∀ r ∈ T, Md.good r) {x : Int} (hx : Hg.ofK x ≠ 0) : Md.rmp T x = [] := by
  unfold Md.rmp
  rw [Md.find_none fun r hr he => hx (by rw [← he]; exact (h r hr).2.2.2.2.1)]
  rfl
theorem Md.mp_kind {T : List Rw.Row} (h : ∀ r ∈ T, Md.good r) {x : Int} (hx : Hg.ofK x = 1 ∨ Hg.ofK x = 2 ∨ Hg.ofK x = 3) : Md.mp T x = [] := by
  unfold Md.mp
  rw [Hg.pairK_none x (by omega) (by omega)]
  simp only [Bool.false_eq_true, if_false]
  exact Md.rmp_kind h (by omega)
theorem Md.lv_two (mp : Int → List Int) (k : Nat) {c x y : Int} (hc : mp c = [x, y]) (hx : mp x = []) (hy : mp y = []) : Md.lv mp (k + 1) c = some [x, y] := by
  unfold Md.lv
  rw [if_neg (by rw [hc]; simp), hc]
  simp [Md.lvL, Md.lv_plain mp k hx, Md.lv_plain mp k hy]
theorem Md.full_some {T : List Rw.Row} {X : Int → Bool} (h : Md.chk T X = 0) (a : Int) : ∃ l, Md.full T a = some l := by
  obtain ⟨hg, hr, hf, _⟩ := Md.chk_none h
  cases hfa : Md.find T a with
  | some r =>
    obtain ⟨h1, h2⟩ := Md.find_some hfa
    rw [← h2]
    exact hf r h1
  | none =>
    have hrm : Md.rmp T a = [] := by unfold Md.rmp; rw [hfa]; rfl
    unfold Md.full
    by_cases h4 : Hg.ofK a = 4
    · have hs := Hg.ofK_syl a (.inl h4)
      have hm : Md.mp T a = [4352 + (a - 44032) / 588, 4449 + (a - 44032) % 588 / 28] := by
        unfold Md.mp; rw [Hg.pairK_four a h4]; simp
      have hl : Hg.ofK (4352 + (a - 44032) / 588) = 1 := by unfold Hg.ofK; grind
      have hv : Hg.ofK (4449 + (a - 44032) % 588 / 28) = 2 := by unfold Hg.ofK; grind
      rw [Md.exp_lv _ _ _ _ (by simp), show T.length + 3 = (T.length + 2) + 1 from rfl, Md.lv_two _ _ hm (Md.mp_kind hg (by omega)) (Md.mp_kind hg (by omega))]
      exact ⟨_, rfl⟩
    · by_cases h5 : Hg.ofK a = 5
      · have hs := Hg.ofK_syl a (.inr h5)
        have hm : Md.mp T a = [a - (a - 44032) % 28, 4519 + (a - 44032) % 28] := by
          unfold Md.mp; rw [Hg.pairK_five a h5]; simp
        have hm2 : Md.mp T (a - (a - 44032) % 28) = [4352 + (a - 44032) / 588, 4449 + (a - 44032) % 588 / 28] := by
          unfold Md.mp; rw [Hg.two_of a hs.1 hs.2]; simp
        have h50 : (a - 44032) % 28 ≠ 0 := fun e => by rw [Hg.ofK_four a hs.1 hs.2 e] at h5; omega
        have hl : Hg.ofK (4352 + (a - 44032) / 588) = 1 := by unfold Hg.ofK; grind
        have hv : Hg.ofK (4449 + (a - 44032) % 588 / 28) = 2 := by unfold Hg.ofK; grind
        have ht : Hg.ofK (4519 + (a - 44032) % 28) = 3 := by unfold Hg.ofK; grind
        rw [Md.exp_lv _ _ _ _ (by simp), show T.length + 3 = (T.length + 2) + 1 from rfl]
        have e1 : Md.lv (Md.mp T) (T.length + 2 + 1) a = some [4352 + (a - 44032) / 588, 4449 + (a - 44032) % 588 / 28, 4519 + (a - 44032) % 28] := by
          unfold Md.lv
          rw [if_neg (by rw [hm]; simp), hm]
          simp [Md.lvL, Md.lv_plain _ (T.length + 2) (Md.mp_kind hg (.inr (.inr ht))), show T.length + 2 = (T.length + 1) + 1 from rfl, Md.lv_two _ (T.length + 1) hm2 (Md.mp_kind hg (.inl hl)) (Md.mp_kind hg (.inr (.inl hv)))]
        rw [e1]
        exact ⟨_, rfl⟩
      · have hm : Md.mp T a = [] := by
          unfold Md.mp
          rw [Hg.pairK_none a h4 h5]
          simpa using hrm
        exact ⟨_, Md.exp_plain _ hm⟩
/-- What a full decomposition is like. -/
theorem Md.full_none {T : List Rw.Row} {a : Int} {l : List Int} (h : Md.full T a = some l) : (∀ y ∈ l, Md.mp T y = [] ∧ Md.full T y = some [y]) ∧ 1 ≤ l.length ∧ l.length ≤ 32 ∧ (3 < Hg.ofK a → 2 ≤ l.length) := by
  obtain ⟨h1, h2, h3, h4⟩ := Md.exp_none h
  refine ⟨fun y hy => ⟨h1 y hy, Md.exp_plain _ (h1 y hy)⟩, h2, h4, fun hk => ?_⟩
  have hm : (Md.mp T a).length = 2 := by
    unfold Md.mp
    by_cases h4 : Hg.ofK a = 4
    · rw [Hg.pairK_four a h4]; simp
    · have h5 : Hg.ofK a = 5 := by unfold Hg.ofK at hk h4 ⊢; grind
      rw [Hg.pairK_five a h5]; simp
  omega
theorem Md.lvL_all {Q : Int → Prop} {f : Int → Option (List Int)} (hf : ∀ c l, f c = some l → Q c → ∀ d ∈ l, Q d) : ∀ (L l : List Int), Md.lvL f L = some l → (∀ c ∈ L, Q c) → ∀ d ∈ l, Q d
  | [], l, h, _, d, hd => by
    simp only [Md.lvL, Option.some.injEq] at h
    subst h
    cases hd
  | e :: r, l, h, hL, d, hd => by
    simp only [Md.lvL] at h
    cases he : f e with
    | none => rw [he] at h; cases h
    | some a =>
      rw [he, Option.bind_some] at h
      cases hr : Md.lvL f r with
      | none => rw [hr] at h; cases h
      | some b =>
        rw [hr, Option.map_some] at h
        cases h
        rcases List.mem_append.1 hd with h1 | h1
        · exact hf e a he (hL e List.mem_cons_self) d h1
        · exact Md.lvL_all hf r b hr (fun c hc => hL c (List.mem_cons_of_mem _ hc)) d h1
theorem Md.lv_all {Q : Int → Prop} {mp : Int → List Int} (hm : ∀ c, ∀ d ∈ mp c, Q d) : ∀ (k : Nat) (c : Int) (l : List Int), Md.lv mp k c = some l → Q c → ∀ d ∈ l, Q d
  | 0, c, l, h, hc, d, hd => by
    unfold Md.lv at h
    split at h
    · cases h
      rw [List.mem_singleton] at hd
      rw [hd]; exact hc
    · cases h
  | k + 1, c, l, h, hc, d, hd => by
    unfold Md.lv at h
    split at h
    · cases h
      rw [List.mem_singleton] at hd
      rw [hd]; exact hc
    · exact Md.lvL_all (Md.lv_all hm k) _ _ h (hm c) d hd
theorem Md.full_bd {T : List Rw.Row} (hT : Md.bd T) {a : Int} (ha : -2147483648 ≤ a ∧ a ≤ 2147483647) {l : List Int} (h : Md.full T a = some l) : ∀ y ∈ l, -2147483648 ≤ y ∧ y ≤ 2147483647 := by
  unfold Md.full at h
  rw [Md.exp_lv _ _ _ _ (by simp)] at h
  cases hl : Md.lv (Md.mp T) (T.length + 3) a with
  | none => rw [hl] at h; cases h
  | some b =>
    rw [hl, Option.bind_some] at h
    unfold Md.fit at h
    split at h
    · cases h
      rw [List.nil_append]
      exact Md.lv_all (Md.mp_bd hT) _ a b hl ha
    · cases h
end Go.Proofs.Ytamcpdggpdaioaa

/- The layer cpset: all characters of a set, by walking its text. -/
namespace Go.Proofs.Ytamcpdggpdaioaa
open Go.RowKit
set_option linter.unusedSimpArgs false
set_option linter.unusedVariables false

/-- n numbers, one behind the other. -/
def C.run (a : Int) (n : Nat) : List Int := (List.range n).map fun (i : Nat) => a + (i : Int)
theorem C.run_succ (a : Int) (n : Nat) : C.run a (n + 1) = C.run a n ++ [a + (n : Int)] := by
  unfold C.run; rw [List.range_succ, List.map_append]; rfl
theorem C.run_len (a : Int) (n : Nat) : (C.run a n).length = n := by simp [C.run]
/-- All of some ranges. -/
def C.all1 (rs : List (Int × Int)) : List Int := rs.flatMap fun r => C.run r.1 (r.2 - r.1 + 1).toNat
theorem C.all1_succ {rs : List (Int × Int)} {i : Nat} {r : Int × Int} (h : rs[i]? = some r) : C.all1 (rs.take (i + 1)) = C.all1 (rs.take i) ++ C.run r.1 (r.2 - r.1 + 1).toNat := by
  unfold C.all1
  rw [List.take_add_one, h, List.flatMap_append]
  simp
theorem C.all1_len (S : List Int) (hok : C.ok S) : ∀ i, i ≤ (C.rngs S).length → ((C.all1 ((C.rngs S).take i)).length : Int) = C.part S i
  | 0, _ => by simp [C.all1, C.part0]
  | i + 1, h => by
    obtain ⟨r, hr⟩ : ∃ r, (C.rngs S)[i]? = some r := ⟨_, List.getElem?_eq_getElem (by omega)⟩
    obtain ⟨b1, b2, b3, b4⟩ := C.rng_bd hok hr
    rw [C.all1_succ hr, C.part_step hok hr, List.length_append, C.run_len]
    have := C.all1_len S hok i (by omega)
    omega

theorem own_otype {w : World} {base : Nat} {e e' : TypeId} {size n g : Nat} {v : Value} {xs : List Value} {cs : Array Value} {fr : Nat × Nat} (h : w.ownsRow base e size v n xs) (hb : w.heap[g]? = some (.cells cs e' fr)) (he : e ≠ e') : some g ≠ v.ownBlock := by
  intro hv
  rcases h.2 with ⟨rfl, _⟩ | ⟨g2, cap, cur, rfl, _, hg2, _⟩
  · simp [Value.ownBlock] at hv
  · simp only [Value.ownBlock, Option.some.injEq] at hv
    subst hv
    rw [hb] at hg2
    simp only [Option.some.injEq, Obj.cells.injEq] at hg2
    exact he hg2.2.1.symm

theorem C.all1_bd {S : List Int} (hok : C.ok S) {i : Nat} (h : i ≤ (C.rngs S).length) : (C.all1 ((C.rngs S).take i)).length ≤ 1114112 := by
  have h1 := C.all1_len S hok i h
  have h2 := (C.part_bd hok i).2
  have h3 := (C.count_bd hok).2
  omega

def C.RetRunes (xs : List Int) (w : World) (e : Ending) (w' : World) : Prop :=
  ∃ A c, e = .returned (.slice A xs.length c) ∧ w'.ownsRow w.heap.size 21 1 (.slice A xs.length c) xs.length (xs.map (Value.int .i32)) ∧ Below w.heap.size w w'

end Go.Proofs.Ytamcpdggpdaioaa
