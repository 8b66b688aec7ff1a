/- A row of runes that the call has built, each number once (slices.Compact). -/
import Derived.Test.YtamcpdggpdaioaaDoorSoCompact
import Derived.Test.YtamcpdggpdaioaaDoorCpArgs
import Derived.Test.YtamcpdggpdaioaaDoorSoWalkB12
import Derived.Test.YtamcpdggpdaioaaDoorFaCh
namespace Go.Proofs.YtamcpdggpdaioaaDoor
open Go.RowKit Go.Sort
set_option linter.unusedSimpArgs false
set_option linter.unusedVariables false

theorem R.heap0 {w : World} {g n : Nat} {cur : Array Value} {e : TypeId} {fr : Nat × Nat} (d : Array Int) (hb : w.heap[g]? = some (.cells cur e fr)) :
    (putRow (Value.int .i32) (Sort.ahead w n) g 0 d).heap[g]? = some (.cells (putCells (Value.int .i32) 0 d cur) e fr) := by
  simp [putRow, mapBlock, Sort.ahead, Array.getElem?_modify, hb, onCells]
theorem R.below0 {w : World} {g n base : Nat} (d : Array Int) (hg : base ≤ g) : RowKit.Below base w (putRow (Value.int .i32) (Sort.ahead w n) g 0 d) := by
  refine ⟨rfl, rfl, rfl, by simp, fun k hk => ?_⟩
  have : g ≠ k := by omega
  simp [putRow, mapBlock, Sort.ahead, Array.getElem?_modify, this]
theorem R.compact_len (l : List Int) : (Lib.compact l).length ≤ l.length := by
  unfold Lib.compact Lib.compactUpTo
  rw [List.length_map]
  exact Nat.le_trans (List.length_filter_le _ _) (by simp)

theorem R.compact_any (A : Option Addr) (n c base e : Nat) (l : List Int) (w : World) (hn : l.length = n) (hn' : n ≤ 1000000) (hown : w.ownsRow base e 1 (.slice A n c) n (l.map (Value.int .i32))) (hbase : base ≤ w.heap.size) :
    Calls Tryd.prog 32 #[.slice A n c] w fun r w' => ∃ A' c', r = .returned (.slice A' (Lib.compact l).length c') ∧ Sl w' w'.heap.size A' ((Lib.compact l).map (Value.int .i32)) ∧ RowKit.Below base w w' := by
  subst hn
  rcases hown.2 with ⟨hv, h0⟩ | ⟨g, cap, cur, hv, hg, hb, h1, h2, h3, h4⟩
  · simp only [Value.slice.injEq] at hv
    obtain ⟨rfl, _, rfl⟩ := hv
    have hl : l = [] := List.eq_nil_of_length_eq_zero h0
    subst hl
    refine (So.slices_Compact_int_empty none 0 w).mono fun r w' hh => ?_
    obtain ⟨hr, hw⟩ := hh
    subst hw
    exact ⟨none, 0, by rw [hr]; rfl, Sl.nil _ _ _, RowKit.Below.refl _ _⟩
  · simp only [Value.slice.injEq] at hv
    obtain ⟨rfl, _, rfl⟩ := hv
    rw [Nat.mul_one] at h4
    have hgl : g < w.heap.size := (Array.getElem?_eq_some_iff.1 hb).1
    refine (So.slices_Compact_int g 0 c l w (R.holds hb h4) (by omega) h1).mono fun r w' hh => ?_
    obtain ⟨hr, q, hw⟩ := hh
    subst hw
    have hcl := R.compact_len l
    refine ⟨_, _, hr, ?_, R.below0 _ hg⟩
    intro hx
    rw [List.length_map] at hx
    refine ⟨g, 0, rfl, by simpa using hgl, fun i hi => ?_⟩
    rw [List.length_map] at hi
    have hc3 : cur.size = c := by rw [h3, Nat.mul_one]
    have hic : i < cur.size := by omega
    have hd : i < (Lib.compact l ++ List.replicate (l.length - (Lib.compact l).length) 0).toArray.size := by simp; omega
    simp only [World.cell?, R.heap0 _ hb, Nat.zero_add, Option.isSome_none, Bool.false_eq_true, if_false]
    rw [List.getElem?_map, List.getElem?_eq_getElem hi]
    simp only [putCells, Array.getElem?_mapIdx]
    rw [Array.getElem?_eq_getElem hic]
    simp only [Option.map_some, Nat.sub_zero, Nat.zero_le, true_and, Nat.zero_add]
    rw [if_pos hd, getElem!_pos _ i hd]
    simp [List.getElem_append, hi]
end Go.Proofs.YtamcpdggpdaioaaDoor

/- The law's ranges: Right, Set, by walking their texts. -/
namespace Go.Proofs.YtamcpdggpdaioaaDoor
open Go.RowKit
set_option linter.unusedSimpArgs false
set_option linter.unusedVariables false

theorem C.and_21 (n : Int) : bits .and .i64 n 2097151 = n % 2097152 := by
  have hm : (BitVec.ofInt 64 2097151).toNat = 2 ^ 21 - 1 := by decide
  have key : (BitVec.ofInt 64 n &&& BitVec.ofInt 64 2097151).toNat = (n % ((2 ^ 64 : Nat) : Int)).toNat % 2 ^ 21 := by
    rw [BitVec.toNat_and, BitVec.toNat_ofInt, hm, Nat.and_two_pow_sub_one_eq_mod]
  show IntKind.i64.wrap ((BitVec.ofInt 64 n &&& BitVec.ofInt 64 2097151).toNat : Nat) = n % 2097152
  rw [key, IntKind.wrap_i64]
  omega

/-- A number made one of a character's. -/
def C.lim (x : Int) : Int := x % 2097152 % 1114112
theorem C.lim_bd (x : Int) : 0 ≤ C.lim x ∧ C.lim x ≤ 1114111 := by unfold C.lim; omega
def C.rt (r : Int × Int) : Int × Int := (min (C.lim r.1) (C.lim r.2), max (C.lim r.1) (C.lim r.2))
def C.right (rs : List (Int × Int)) : List (Int × Int) := (rs.take 12).map C.rt
theorem C.right_good (rs : List (Int × Int)) : C.good (C.right rs) = true := by
  unfold C.good C.right
  rw [List.all_eq_true]
  intro r hr
  obtain ⟨q, _, rfl⟩ := List.mem_map.1 hr
  have h1 := C.lim_bd q.1
  have h2 := C.lim_bd q.2
  have key : ∀ a b : Int, 0 ≤ a → a ≤ 1114111 → 0 ≤ b → b ≤ 1114111 → (0 ≤ min a b ∧ max a b ≤ 1114111) ∧ min a b ≤ max a b := by intros; omega
  have := key (C.lim q.1) (C.lim q.2) h1.1 h1.2 h2.1 h2.2
  show (decide (0 ≤ min (C.lim q.1) (C.lim q.2)) && decide (max (C.lim q.1) (C.lim q.2) ≤ 1114111) && decide (min (C.lim q.1) (C.lim q.2) ≤ max (C.lim q.1) (C.lim q.2))) = true
  rw [decide_eq_true this.1.1, decide_eq_true this.1.2, decide_eq_true this.2]; rfl

theorem own_set {w : World} {base : Nat} {e : TypeId} {size n c g j : Nat} {xs : List Value} (h : w.ownsRow base e size (.slice (some ⟨g, 0, none⟩) n c) n xs) (hj : j < xs.length) (u : Value) :
    (w.setCell ⟨g, j, none⟩ u).ownsRow base e size (.slice (some ⟨g, 0, none⟩) n c) n (xs.set j u) := by
  obtain ⟨h1, h2⟩ := h
  refine ⟨by rw [List.length_set]; exact h1, ?_⟩
  rcases h2 with ⟨h2, _⟩ | ⟨g', cap, cur, hv, hg, hc, hn, hm, hs, ht⟩
  · cases h2
  · cases hv
    refine .inr ⟨g, c, cur.set! j u, rfl, hg, ?_, hn, hm, by simp [hs], ?_⟩
    · simp [World.setCell, Array.getElem?_modify, hc]
    · rw [← ht]
      apply List.ext_getElem?
      intro i
      simp only [List.getElem?_take, List.getElem?_set, Array.toList_set!, List.length_take, Array.length_toList]
      have hl : n * size ≤ cur.size := by rw [hs]; exact Nat.mul_le_mul_right _ hn
      rw [h1] at hj
      by_cases h3 : j = i
      · subst h3
        simp [hj, show j < cur.size by omega]
        omega
      · simp [h3]
theorem own_zero {w : World} {base : Nat} {e : TypeId} {size n c b o : Nat} {xs : List Value} (h : w.ownsRow base e size (.slice (some ⟨b, o, none⟩) n c) n xs) : o = 0 ∧ base ≤ b ∧ b < w.heap.size ∧ ∀ j, w.frozen? ⟨b, j, none⟩ = false := by
  rcases h.2 with ⟨h2, _⟩ | ⟨g', cap, cur, hv, hg, hc, hn, hm, hs, ht⟩
  · cases h2
  · cases hv
    exact ⟨rfl, hg, heap_lt hc, fun j => by simp [World.frozen?, hc]⟩
theorem C.fl_set (k : IntKind) : ∀ (rs : List (Int × Int)) (i : Nat) (r : Int × Int), i < rs.length → ((C.fl k rs).set (i * 2) (.int k r.1)).set (i * 2 + 1) (.int k r.2) = C.fl k (rs.set i r)
  | [], i, r, h => by simp at h
  | (x, y) :: t, 0, r, h => rfl
  | (x, y) :: t, i + 1, r, h => by
    rw [show (i + 1) * 2 = i * 2 + 1 + 1 by omega]
    show _ :: _ :: ((C.fl k t).set (i * 2) _).set (i * 2 + 1) _ = _
    rw [C.fl_set k t i r (by simpa using h)]
    rfl

end Go.Proofs.YtamcpdggpdaioaaDoor

/- The law's Set, awake, by walking their texts. -/
namespace Go.Proofs.YtamcpdggpdaioaaDoor
open Go.RowKit
set_option linter.unusedSimpArgs false
set_option linter.unusedVariables false

theorem C.good_bd {rs : List (Int × Int)} (h : C.good rs = true) : ∀ r ∈ rs, (-2147483648 ≤ r.1 ∧ r.1 ≤ 2147483647) ∧ -2147483648 ≤ r.2 ∧ r.2 ≤ 2147483647 := by
  intro r hr
  have := List.all_eq_true.1 h r hr
  simp at this
  omega
theorem C.ofS_ok {rs : List (Int × Int)} (h : C.good rs = true) : C.ok (C.ofS rs) ∧ (C.ofS rs).length ≤ 2 * rs.length + 4 := by
  obtain ⟨h1, h2⟩ := C.ofL_ok rs h
  have h3 := C.mrg_len C.andF (C.ofL rs) C.all
  have h4 : C.all.length = 4 := rfl
  refine ⟨C.mrg_ok C.andF rfl h1 C.all_ok, ?_⟩
  unfold C.ofS
  omega

end Go.Proofs.YtamcpdggpdaioaaDoor

/- The layer cpset: Chars, by walking its text. -/
namespace Go.Proofs.YtamcpdggpdaioaaDoor
open Go.RowKit
set_option linter.unusedSimpArgs false
set_option linter.unusedVariables false

theorem C.chF_succ {cs : List Int} {i : Nat} {c : Int} (h : cs[i]? = some c) : C.chF (cs.take (i + 1)) [] = C.step C.isC (C.chF (cs.take i) []) c (c + 1) := by
  unfold C.chF
  rw [List.take_add_one, h, List.foldl_append]
  rfl

theorem C.step_last {acc : List Int} {k : Nat} {c b : Int} (hp : C.isC c = true) (hl : acc.length = k + 1) (h : acc[k]? = some c) : C.step C.isC acc c b = acc.set k b := by
  unfold C.step
  rw [if_pos hp, if_pos (by rw [List.getLast?_eq_getElem?, hl]; exact h)]
  rcases List.eq_nil_or_concat acc with rfl | ⟨l2, e, rfl⟩
  · simp at hl
  · rw [List.concat_eq_append] at *
    have : l2.length = k := by simpa using hl
    subst this
    simp

set_option maxRecDepth 100000 in
set_option maxHeartbeats 4000000 in
theorem C.chars_any (A : Option Addr) (n c B : Nat) (l : List Int) (w : World) (hn : l.length = n) (hn' : n ≤ 400000) (hB : B ≤ w.heap.size) (hA : Sl w B A (l.map (Value.int .i32))) :
    Calls Tryd.prog 16 #[.slice A n c] w (RetSet (C.chars l) w) := by
  have HN := Lib.hid hn
  obtain ⟨hsr, hme⟩ := C.once_spec l
  obtain ⟨cs, hcs⟩ : ∃ cs, C.once l = cs := ⟨_, rfl⟩
  have hcl : (l.mergeSort fun x y => decide (x ≤ y)).length = n := by simp [hn]
  have hco : Lib.compact (l.mergeSort fun x y => decide (x ≤ y)) = cs := by
    rw [← hcs]; unfold Lib.compact C.once; rw [hcl, hn]
  have hch : C.chars l = C.chF cs [] := by unfold C.chars; rw [hcs]
  rw [hch]
  obtain ⟨m, hm⟩ : ∃ m, cs.length = m := ⟨_, rfl⟩
  have hmn : m ≤ 400000 := by
    have h := R.compact_len (l.mergeSort fun x y => decide (x ≤ y))
    rw [hco, hcl, hm] at h; omega
  have HM := Lib.hid hm
  have HCL := Lib.hid hcl
  have HCO := Lib.hid hco
  have hal : Below w.heap.size w (w.alloc (.cells #[.slice none 0 0] 32)) := (Below.refl _ _).alloc (Nat.le_refl _) _
  have hA0 := Lib.hid (hA.belowN hal hB (Nat.le_refl _))
  have hz0 : w.heap.size + 1 ≤ (w.alloc (.cells #[.slice none 0 0] 32)).heap.size := by simp
  obtain ⟨j0, hj0, hy0, hy1, hy2⟩ := info_parts infoRune
  clear hn hcs hcl hco hch hm hsr hme
  go_enter Tryd.func16, Tryd.ntmps16
  go_wp2_with fail
  refine (R.clone_any A n c B l _ HN.out (by omega) (by omega) hA0.out).mono ?_
  rintro e w1 ⟨A1, c1, rfl, hown1, hb1⟩
  have hown1' := Lib.hid hown1
  clear hown1
  go_wp2_with fail
  refine (R.sort_any _ _ _ n l _ HN.out (by omega) hown1'.out hb1.size).mono ?_
  rintro e w2 ⟨rfl, hown2, hb2⟩
  have hown2' := Lib.hid hown2
  clear hown2
  go_wp2_with fail
  refine (R.compact_any A1 n c1 _ _ (l.mergeSort fun x y => decide (x ≤ y)) _ HCL.out (by omega) hown2'.out (Nat.le_trans hb1.size hb2.size)).mono ?_
  rw [HCO.out]
  rintro e w3 ⟨A3, c3, rfl, hS3, hb3⟩
  rw [HM.out]
  have HS3 := Lib.hid hS3
  have hb03 := (hb1.trans hb2).trans hb3
  clear hS3
  go_wp2
  go_loopw [4, 15] (fun vo vi wr => ∃ (i : Nat) (acc : List Int), i ≤ m ∧ vi = .int .i64 i ∧ acc = C.chF (cs.take i) [] ∧ acc.length ≤ 2 * i ∧ wr.ownsRow w3.heap.size 21 1 vo acc.length (acc.map (Value.int .i32)) ∧ Below w3.heap.size w3 wr) (fun _ vi _ => m - (intOf vi).toNat)
  case atStart => exact ⟨0, [], by omega, rfl, rfl, Nat.zero_le _, World.ownsRow_nil _ _ _ _, Below.refl _ _⟩
  case round =>
    obtain ⟨i, acc, hi, rfl, hacc, hal2, hown, hbz⟩ := hrel
    obtain ⟨uu, rfl⟩ : ∃ uu : World, uu = wr := ⟨_, rfl⟩
    obtain ⟨q, hq⟩ : ∃ q, acc.length = q := ⟨_, rfl⟩
    rw [hq] at hown hal2
    have HQ := Lib.hid hq
    have HACC := Lib.hid hacc
    have hsu : w3.heap.size ≤ uu.heap.size := hbz.size
    obtain ⟨A4, c4, rfl⟩ := own_form hown
    by_cases hlt : i < m
    · obtain ⟨ch, hch⟩ : ∃ ch, cs[i]? = some ch := ⟨_, List.getElem?_eq_getElem (by rw [HM.out]; omega)⟩
      have hst := C.chF_succ hch
      rw [← hacc] at hst
      have HST := Lib.hid hst
      obtain ⟨g, o, rfl, hlg, hcc, _⟩ := HS3.out.ints hch
      rw [← (bcell hbz).1 _ _ hlg] at hcc
      have n0 : (0 : Int) ≤ (i : Int) := by omega
      have n1 : (i : Int) < m := by omega
      clear hst hch hacc hq
      rcases hic : C.isC ch with _ | _
      · have HNO := Lib.hid (C.step_no (acc := acc) (b := ch + 1) hic)
        have HIC := Lib.hid hic
        clear hic
        go_wp2_with (go_at_call 33; refine (C.utfis_any _ _).mono ?_; rw [HIC.out]; rintro e w' ⟨rfl, rfl⟩)
        refine ⟨⟨i + 1, acc, by omega, by go_num, by rw [HST.out, HNO.out], by rw [HQ.out]; omega, by rw [HQ.out]; exact hown, hbz⟩, by simp [intOf]; omega⟩
      · have hb0 : 0 ≤ ch ∧ ch ≤ 1114111 := by simp [C.isC] at hic; omega
        obtain ⟨ch1, ch2⟩ := hb0
        have HIC := Lib.hid hic
        rcases Nat.eq_zero_or_pos q with hz | hz
        · subst hz
          have HNEW := Lib.hid (C.step_new (p := C.isC) (acc := acc) (b := ch + 1) hic (by rw [List.eq_nil_of_length_eq_zero HQ.out]; simp))
          clear hic
          have hZ := Lib.hid (Sl.lit (w := uu.alloc (.cells #[.int .i32 ch, .int .i32 (ch + 1)] 21)) (A := some ⟨uu.heap.size, 0, none⟩) (xs := [.int .i32 ch, .int .i32 (ch + 1)]) rfl 21 (0, 0) (heap_alloc_new uu _))
          have hown2 := Lib.hid (own_below hown ((Below.refl _ _).alloc (Nat.le_refl _) (.cells #[.int .i32 ch, .int .i32 (ch + 1)] 21)) (Nat.le_refl _))
          have hs2 : w3.heap.size ≤ (uu.alloc (.cells #[.int .i32 ch, .int .i32 (ch + 1)] 21)).heap.size := by simp; omega
          have hsu2 : w3.heap.size ≤ uu.heap.size := hsu
          go_wp2_with (first | (go_at_call 33; refine (C.utfis_any _ _).mono ?_; rw [HIC.out]; rintro e w' ⟨rfl, rfl⟩) | (at_builtin; refine wpList_appendSl _ rfl _ _ _ rfl w3.heap.size 21 j0 _ 1 4 Tryd.underlying30 hj0 hy0 hy1 hy2 rfl (by omega) _ 0 _ rfl hown2.out _ (some ⟨uu.heap.size, 0, none⟩) 2 2 [.int .i32 ch, .int .i32 (ch + 1)] rfl rfl hZ.out (by simp [Value.oneCell']) (by simp only [maxLen]; omega) (by omega) hs2 ?_; intro v1 w5 hown3 hb2 hgrow))
          refine ⟨⟨i + 1, acc ++ [ch, ch + 1], by omega, by go_num, by rw [HST.out, HNEW.out], by rw [List.length_append, HQ.out]; simp; omega, ?_, (hbz.alloc hsu2 _).trans hb2⟩, by simp [intOf]; omega⟩
          rw [List.length_append, HQ.out, List.map_append]
          exact hown3
        · obtain ⟨k, rfl⟩ : ∃ k, q = k + 1 := ⟨q - 1, by omega⟩
          obtain ⟨e0, he0⟩ : ∃ e0, acc[k]? = some e0 := ⟨_, List.getElem?_eq_getElem (by rw [HQ.out]; omega)⟩
          have hlast : acc.getLast? = some e0 := by rw [List.getLast?_eq_getElem?, HQ.out]; exact he0
          obtain ⟨g7, o7, rfl, hlb, hc0, _⟩ := (Sl.of_own hown).ints he0
          obtain ⟨rfl, hgb, hgl, hfz⟩ := own_zero hown
          simp only [Nat.zero_add] at hc0
          have hz1 := hfz k
          have q0 : (0 : Int) ≤ (k : Int) := by omega
          have qb : (k : Int) ≤ 1000000 := by omega
          have HE0 := Lib.hid he0
          have HLAST := Lib.hid hlast
          clear hfz he0 hlast
          by_cases hea : e0 = ch
          · subst hea
            have HSL := Lib.hid (C.step_last (b := e0 + 1) hic HQ.out HE0.out)
            have hset := own_set hown (j := k) (by rw [List.length_map, HQ.out]; omega) (.int .i32 (e0 + 1))
            have HSET := Lib.hid hset
            clear hic hset
            go_wp2_with (go_at_call 33; refine (C.utfis_any _ _).mono ?_; rw [HIC.out]; rintro e w' ⟨rfl, rfl⟩)
            refine ⟨⟨i + 1, acc.set k (e0 + 1), by omega, by go_num, by rw [HST.out, HSL.out], by rw [List.length_set, HQ.out]; omega, ?_, hbz.setCell (by show w3.heap.size ≤ g7; omega) _⟩, by simp [intOf]; omega⟩
            rw [List.length_set, HQ.out, List.map_set]
            exact HSET.out
          · have hd : (e0 == ch) = false := by simp; exact hea
            have HNEW := Lib.hid (C.step_new (p := C.isC) (acc := acc) (b := ch + 1) hic (by rw [HLAST.out]; intro h; exact hea (by simpa using h)))
            clear hic
            have hZ := Lib.hid (Sl.lit (w := uu.alloc (.cells #[.int .i32 ch, .int .i32 (ch + 1)] 21)) (A := some ⟨uu.heap.size, 0, none⟩) (xs := [.int .i32 ch, .int .i32 (ch + 1)]) rfl 21 (0, 0) (heap_alloc_new uu _))
            have hown2 := Lib.hid (own_below hown ((Below.refl _ _).alloc (Nat.le_refl _) (.cells #[.int .i32 ch, .int .i32 (ch + 1)] 21)) (Nat.le_refl _))
            have hs2 : w3.heap.size ≤ (uu.alloc (.cells #[.int .i32 ch, .int .i32 (ch + 1)] 21)).heap.size := by simp; omega
            have hsu2 : w3.heap.size ≤ uu.heap.size := hsu
            go_wp2_with (first | (go_at_call 33; refine (C.utfis_any _ _).mono ?_; rw [HIC.out]; rintro e w' ⟨rfl, rfl⟩) | (at_builtin; refine wpList_appendSl _ rfl _ _ _ rfl w3.heap.size 21 j0 _ 1 4 Tryd.underlying30 hj0 hy0 hy1 hy2 rfl (by omega) _ (k + 1) _ rfl hown2.out _ (some ⟨uu.heap.size, 0, none⟩) 2 2 [.int .i32 ch, .int .i32 (ch + 1)] rfl rfl hZ.out (by simp [Value.oneCell']) (by simp only [maxLen]; omega) (by omega) hs2 ?_; intro v1 w5 hown3 hb2 hgrow))
            refine ⟨⟨i + 1, acc ++ [ch, ch + 1], by omega, by go_num, by rw [HST.out, HNEW.out], by rw [List.length_append, HQ.out]; simp; omega, ?_, (hbz.alloc hsu2 _).trans hb2⟩, by simp [intOf]; omega⟩
            rw [List.length_append, HQ.out, List.map_append]
            exact hown3
    · obtain rfl : i = m := by omega
      have hfin : acc = C.chF cs [] := by rw [hacc, List.take_of_length_le (by rw [HM.out]; exact Nat.le_refl _)]
      have hbu := hb03.trans (hbz.mono (Nat.le_trans hb1.size (Nat.le_trans hb2.size hb3.size)))
      have hblk := (hbu.block w.heap.size (by omega)).trans (heap_alloc_new w _)
      obtain ⟨hrc, hrf⟩ := blk_cell hblk 0
      simp only [List.getElem?_toArray, List.getElem?_cons_zero] at hrc
      have HBLK := Lib.hid hblk
      have hsz3 : w.heap.size < w3.heap.size := by have := hb03.size; omega
      have HFIN := Lib.hid hfin
      clear hblk hacc hfin hq
      go_wp2
      have hb2' := set_cell (v := .slice A4 q c4) HBLK.out
      refine bodyPost_ret (results_cell_row rfl _ _ w.heap.size _ _ _ _ rfl hb2' Tryd.underlying32 rfl (by kernel_rfl)) rfl ?_
      refine ⟨A4, c4, by rw [← HFIN.out, HQ.out], ?_, (hal.trans (hbu.mono (by omega))).setCell (by simp) _⟩
      rw [← HFIN.out, HQ.out]
      exact own_base (ownsRow_setCell_below hown (by omega) _) (by omega)
end Go.Proofs.YtamcpdggpdaioaaDoor
