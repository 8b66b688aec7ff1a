/- The law CpsetRanges: a row that is turned round, in plain Lean; the walk of the law. -/
import Derived.Test.YtfobmgfmepoamaaCpSet
import Derived.Test.YtfobmgfmepoamaaCpFind
import Derived.Test.YtfobmgfmepoamaaCpPlainE
import Derived.Test.YtfobmgfmepoamaaPairs
import Derived.Deep.DeepCutAuto
import Derived.BigRegion
import Derived.Deep.RegionHeld3
namespace Go.Proofs.Ytfobmgfmepoamaa
open Go.RowKit
set_option linter.unusedSimpArgs false
set_option linter.unusedVariables false

/-- The first i and the last i are exchanged. -/
def C.revP {α : Type} (rs : List α) (i : Nat) (cur : List α) : Prop :=
  cur.length = rs.length ∧ ∀ j, j < rs.length → cur[j]? = if i ≤ j ∧ j + i + 1 ≤ rs.length then rs[j]? else rs[rs.length - 1 - j]?
theorem C.revP_zero {α : Type} (rs : List α) : C.revP rs 0 rs := by
  refine ⟨rfl, fun j hj => ?_⟩
  rw [if_pos (by omega)]
theorem C.revP_at {α : Type} {rs : List α} {i : Nat} {cur : List α} (h : C.revP rs i cur) {j : Nat} (h1 : i ≤ j) (h2 : j + i + 1 ≤ rs.length) : cur[j]? = rs[j]? := by
  rw [h.2 j (by omega), if_pos ⟨h1, h2⟩]
theorem C.revP_step {α : Type} {rs : List α} {i k : Nat} {cur : List α} (h : C.revP rs i cur) (hk : i + k + 1 = rs.length) (hik : i < k) {x y : α} (hx : cur[i]? = some x) (hy : cur[k]? = some y) : C.revP rs (i + 1) ((cur.set i y).set k x) := by
  refine ⟨by simp [h.1], fun j hj => ?_⟩
  have ex := (C.revP_at h (Nat.le_refl i) (by omega)).symm.trans hx
  have ey := (C.revP_at h (show i ≤ k by omega) (by omega)).symm.trans hy
  rw [List.getElem?_set, List.length_set, List.getElem?_set, h.1]
  by_cases h1 : k = j
  · subst h1
    rw [if_pos rfl, if_pos hj, if_neg (by omega), show rs.length - 1 - k = i by omega, ex]
  · rw [if_neg h1]
    by_cases h2 : i = j
    · subst h2
      rw [if_pos rfl, if_pos hj, if_neg (by omega), show rs.length - 1 - i = k by omega, ey]
    · rw [if_neg h2, h.2 j hj]
      by_cases h3 : i ≤ j ∧ j + i + 1 ≤ rs.length
      · rw [if_pos h3, if_pos (by omega)]
      · rw [if_neg h3, if_neg (by omega)]
theorem C.revP_end {α : Type} {rs : List α} {i : Nat} {cur : List α} (h : C.revP rs i cur) (he : rs.length ≤ i + i + 1) : cur = rs.reverse := by
  apply List.ext_getElem?
  intro j
  rcases Nat.lt_or_ge j rs.length with hj | hj
  · rw [h.2 j hj, List.getElem?_reverse hj]
    by_cases h3 : i ≤ j ∧ j + i + 1 ≤ rs.length
    · rw [if_pos h3, show rs.length - 1 - j = j by omega]
    · rw [if_neg h3]
  · rw [List.getElem?_eq_none (by rw [h.1]; exact hj), List.getElem?_eq_none (by simpa using hj)]

theorem C.keep2 {W w' : World} {B b1 b2 : Nat} {v1 v2 : Value} (d1 : W.cell? ⟨b1, 0, none⟩ = some v1) (d2 : W.cell? ⟨b2, 0, none⟩ = some v2) (h1 : b1 < B) (h2 : b2 < B) (h : Below B W w') :
    w'.cell? ⟨b1, 0, none⟩ = some v1 ∧ w'.cell? ⟨b2, 0, none⟩ = some v2 ∧ Below B W w' :=
  ⟨((bcell h).1 _ _ h1).trans d1, ((bcell h).1 _ _ h2).trans d2, h⟩
theorem C.two (w : World) (u v : Value) :
    ((w.alloc (.cells #[u] 26)).alloc (.cells #[v] 26)).cell? ⟨w.heap.size, 0, none⟩ = some u ∧ ((w.alloc (.cells #[u] 26)).alloc (.cells #[v] 26)).frozen? ⟨w.heap.size, 0, none⟩ = false ∧
    ((w.alloc (.cells #[u] 26)).alloc (.cells #[v] 26)).cell? ⟨w.heap.size + 1, 0, none⟩ = some v ∧ ((w.alloc (.cells #[u] 26)).alloc (.cells #[v] 26)).frozen? ⟨w.heap.size + 1, 0, none⟩ = false := by
  have h1 : ((w.alloc (.cells #[u] 26)).alloc (.cells #[v] 26)).heap[w.heap.size]? = some (.cells #[u] 26 (0, 0)) := by
    have h := Below.refl (w.heap.size + 1) (w.alloc (.cells #[u] 26))
    exact (ret_blk (h.alloc (by simp) _)).1
  have h2 : ((w.alloc (.cells #[u] 26)).alloc (.cells #[v] 26)).heap[w.heap.size + 1]? = some (.cells #[v] 26 (0, 0)) := by
    have h := heap_alloc_new (w.alloc (.cells #[u] 26)) (.cells #[v] 26)
    rwa [show (w.alloc (.cells #[u] 26)).heap.size = w.heap.size + 1 by simp] at h
  exact ⟨(blk_cell h1 0).1, (blk_cell h1 0).2, (blk_cell h2 0).1, (blk_cell h2 0).2⟩
theorem C.third {P Q : Prop} {W w' : World} {B : Nat} (h : P ∧ Q ∧ Below B W w') : Below B W w' := h.2.2
theorem C.fourth {P Q R : Prop} {W w' : World} {B : Nat} (h : P ∧ Q ∧ R ∧ Below B W w') : Below B W w' := h.2.2.2
theorem C.keep3 {W w' : World} {B b1 b2 b3 : Nat} {v1 v2 v3 : Value} (d1 : W.cell? ⟨b1, 0, none⟩ = some v1) (d2 : W.cell? ⟨b2, 0, none⟩ = some v2) (d3 : W.cell? ⟨b3, 0, none⟩ = some v3) (h1 : b1 < B) (h2 : b2 < B) (h3 : b3 < B) (h : Below B W w') :
    w'.cell? ⟨b1, 0, none⟩ = some v1 ∧ w'.cell? ⟨b2, 0, none⟩ = some v2 ∧ w'.cell? ⟨b3, 0, none⟩ = some v3 ∧ Below B W w' :=
  ⟨((bcell h).1 _ _ h1).trans d1, ((bcell h).1 _ _ h2).trans d2, ((bcell h).1 _ _ h3).trans d3, h⟩

/-- As Sl, with the block's lower bound, too. -/
def SlR (w : World) (lo hi : Nat) (A : Option Addr) (xs : List Value) : Prop :=
  0 < xs.length → ∃ b o, A = some ⟨b, o, none⟩ ∧ lo ≤ b ∧ b < hi ∧ ∀ i, i < xs.length → w.cell? ⟨b, o + i, none⟩ = xs[i]?
theorem SlR.sl {w : World} {lo hi B : Nat} {A : Option Addr} {xs : List Value} (h : SlR w lo hi A xs) (hB : hi ≤ B) : Sl w B A xs := by
  intro hx
  obtain ⟨b, o, hA, _, hlt, hc⟩ := h hx
  exact ⟨b, o, hA, by omega, hc⟩
theorem SlR.of_own {w : World} {base : Nat} {e : TypeId} {size n c : Nat} {A : Option Addr} {xs : List Value} (h : w.ownsRow base e size (.slice A n c) n xs) : SlR w base w.heap.size A xs := by
  intro hx
  obtain ⟨b, o, rfl, hlt, hc⟩ := Sl.of_own h hx
  refine ⟨b, o, rfl, ?_, hlt, hc⟩
  rcases h.2 with ⟨hv, _⟩ | ⟨g, cap, cur, hv, hg, _⟩
  · cases hv
  · simp only [Value.slice.injEq, Option.some.injEq, Addr.mk.injEq] at hv
    obtain ⟨⟨rfl, _⟩, _⟩ := hv
    exact hg
theorem SlR.below {w w' : World} {lo hi B : Nat} {A : Option Addr} {xs : List Value} (h : SlR w lo hi A xs) (hb : Below B w w') (hB : hi ≤ B) : SlR w' lo hi A xs := by
  intro hx
  obtain ⟨b, o, hA, hl, hlt, hc⟩ := h hx
  exact ⟨b, o, hA, hl, hlt, fun i hi => by rw [← hc i hi]; exact hb.cell (p := ⟨b, o + i, none⟩) (by show b < B; omega)⟩
theorem SlR.alloc {w : World} {lo hi : Nat} {A : Option Addr} {xs : List Value} (h : SlR w lo hi A xs) (ob : Obj) : SlR (w.alloc ob) lo hi A xs := by
  intro hx
  obtain ⟨b, o, hA, hl, hlt, hc⟩ := h hx
  refine ⟨b, o, hA, hl, hlt, fun i hi => ?_⟩
  have h0 := hc i hi
  rw [List.getElem?_eq_getElem hi] at h0
  rw [← hc i hi]
  have hlt' : b < w.heap.size := World.block_lt_of_cell? w _ h0
  exact ((Below.refl w.heap.size w).alloc (Nat.le_refl _) ob).cell (p := ⟨b, o + i, none⟩) hlt'
theorem SlR.set {w : World} {lo hi : Nat} {A : Option Addr} {xs : List Value} (h : SlR w lo hi A xs) {p : Addr} (hp : p.block < lo ∨ hi ≤ p.block) (v : Value) : SlR (w.setCell p v) lo hi A xs := by
  intro hx
  obtain ⟨b, o, hA, hl, hlt, hc⟩ := h hx
  refine ⟨b, o, hA, hl, hlt, fun i hi => ?_⟩
  rw [← hc i hi]
  refine World.cell?_of_block (Below.heap_setCell w p v b (by omega))

theorem C.bset {a w : World} {p : Addr} (h : Below a.heap.size a w) (hp : a.heap.size ≤ p.block) (v : Value) : Below a.heap.size a (w.setCell p v) := h.setCell hp v
theorem C.bal {a w : World} (h : Below a.heap.size a w) (o : Obj) : Below a.heap.size a (w.alloc o) := h.alloc h.size o
theorem C.bdrew {a w : World} (h : Below a.heap.size a w) : Below a.heap.size a w.drew := h.drew

set_option maxRecDepth 100000 in
set_option maxHeartbeats 4000000 in
theorem C.ranges_law (A : Option Addr) (len cap B : Nat) (rs : List (Int × Int)) (x : Int) (w : World) (hl : rs.length = len) (hc : len ≤ cap) (hcap : cap ≤ maxLen) (hB : B ≤ w.heap.size) (hA : Sl w B A (C.fl .i64 rs)) :
    Calls Try.prog 3 #[.slice A len cap, .int .i64 x] w fun e w' => e = .returned (.bool true) ∧ Below w.heap.size w w' := by
  have HL := Lib.hid hl
  clear hl
  have HGD := Lib.hid (C.right_good rs)
  have HRL : (C.right rs).length ≤ 12 := by unfold C.right; rw [List.length_map, List.length_take]; omega
  obtain ⟨m, hm⟩ : ∃ m, (C.right rs).length = m := ⟨_, rfl⟩
  rw [hm] at HRL
  have HM := Lib.hid hm
  obtain ⟨hok, hsl⟩ := C.ofS_ok HGD.out
  have hag := C.again HGD.out
  have hisc := fun c => C.ofS_isC HGD.out (c := c)
  rw [hm] at hsl
  obtain ⟨S, hS⟩ : ∃ S, C.ofS (C.right rs) = S := ⟨_, rfl⟩
  have HS := Lib.hid hS
  rw [hS] at hok hsl hag hisc
  obtain ⟨n, hn⟩ : ∃ n, S.length = n := ⟨_, rfl⟩
  rw [hn] at hsl
  have HN := Lib.hid hn
  have HOK := Lib.hid hok
  have HISC := Lib.hid hisc
  have hn' : n ≤ 1000000 := by omega
  have hev := hok.2.2
  rw [hn] at hev
  have hrl := C.rngs_len S
  rw [hn] at hrl
  have hrg := C.rngs_good S hok
  obtain ⟨R, hR⟩ : ∃ R, C.rngs S = R := ⟨_, rfl⟩
  rw [hR] at hrl hrg hag
  have HR := Lib.hid hR
  obtain ⟨r, hr⟩ : ∃ r, R.length = r := ⟨_, rfl⟩
  rw [hr] at hrl
  have hr' : r ≤ 400000 := by omega
  have HRR := Lib.hid hr
  have HRG := Lib.hid hrg
  have HAG := Lib.hid hag
  clear hm hS hn hok hag hisc hrl hrg hR hr
  go_enter Try.func3, Try.ntmps3
  go_wp2_with fail
  refine (C.awake_any _).mono ?_
  rintro e w1 ⟨rfl, hb1⟩
  go_wp2_with fail
  refine (C.right_any A len cap B rs _ HL.out hc hcap (Nat.le_trans hB hb1.size) (hA.belowN hb1 hB (Nat.le_refl _))).mono ?_
  rintro e w2 ⟨A2, c2, rfl, hown2, hb2⟩
  rw [HM.out] at hown2 ⊢
  have hS2 := Lib.hid (Sl.of_own hown2)
  have hb02 := hb1.trans (hb2.mono hb1.size)
  go_wp2_with fail
  refine (C.set_any A2 c2 m _ (C.right rs) _ HM.out (by omega) HGD.out (Nat.le_refl _) hS2.out).mono ?_
  rintro e w3 ⟨A3, c3, rfl, hown3, hb3⟩
  rw [HS.out, HN.out] at hown3
  rw [HS.out, HN.out]
  have hS3 := Lib.hid (Sl.of_own hown3)
  have hb03 := hb02.trans (hb3.mono hb02.size)
  clear hown2 hown3
  have hblk := heap_alloc_new w3 (.cells #[.slice A3 n c3] 26)
  have hbz : Below w3.heap.size w3 (w3.alloc (.cells #[.slice A3 n c3] 26)) := (Below.refl _ _).alloc (Nat.le_refl _) _
  have z0 : w3.heap.size + 1 ≤ (w3.alloc (.cells #[.slice A3 n c3] 26)).heap.size := by simp
  have hS0 : Hid (Sl (w3.alloc (.cells #[.slice A3 n c3] 26)) (w3.heap.size + 1) A3 (S.map (Value.int .i32))) := (hS3.out.belowN hbz (Nat.le_refl _) (Nat.le_refl _)).more (by omega)
  have HBLK := Lib.hid hblk
  clear hblk
  go_wp2_with fail
  refine (C.ranges_any A3 c3 n (w3.heap.size + 1) S _ HN.out hn' hev HOK.out.2.1 z0 hS0.out).mono ?_
  rintro e w4 ⟨A4, c4, rfl, hown4, hb4⟩
  rw [HR.out, HRR.out] at hown4
  rw [HR.out, HRR.out]
  have hZ4 : Below (w3.heap.size + 1) (w3.alloc (.cells #[.slice A3 n c3] 26)) w4 := hb4.mono z0
  have hown4' := own_base hown4 z0
  clear hown4
  go_wp2
  go_loopw [7, 8] (fun vi vk wr => ∃ (i : Nat) (k : Int) (cur : List (Int × Int)), k + i + 1 = r ∧ vi = .int .i64 i ∧ vk = .int .i64 k ∧ i ≤ r ∧ C.revP R i cur ∧ wr.ownsRow (w3.heap.size + 1) 32 2 (.slice A4 r c4) r (C.fl .i32 cur) ∧ Below (w3.heap.size + 1) (w3.alloc (.cells #[.slice A3 n c3] 26)) wr) (fun vi _ _ => r - (intOf vi).toNat)
  case atStart =>
    exact ⟨0, (r : Int) - 1, R, by omega, rfl, by go_num, by omega, C.revP_zero R, hown4', hZ4⟩
  case round =>
    obtain ⟨i, k, cur, hk, rfl, rfl, hir, hrev, hown, hbel⟩ := hrel
    have HREV := Lib.hid hrev
    have hcl : cur.length = r := hrev.1.trans HRR.out
    have HCL := Lib.hid hcl
    clear hrev hcl
    by_cases hlt : (i : Int) < k
    · obtain ⟨kk, rfl⟩ := Int.eq_ofNat_of_zero_le (show 0 ≤ k by omega)
      obtain ⟨a, ha⟩ : ∃ a, cur[i]? = some a := ⟨_, List.getElem?_eq_getElem (by rw [HCL.out]; omega)⟩
      obtain ⟨b, hb⟩ : ∃ b, cur[kk]? = some b := ⟨_, List.getElem?_eq_getElem (by rw [HCL.out]; omega)⟩
      have hSc := Sl.of_own hown
      obtain ⟨g, o, rfl, hlb, hc0, hc1⟩ := hSc.pair ha
      obtain ⟨g', o', he, _, hc2, hc3⟩ := hSc.pair hb
      cases he
      obtain ⟨rfl, hgb, hgl, hfz⟩ := own_zero hown
      simp only [Nat.zero_add] at hc0 hc1 hc2 hc3
      have hz0 := hfz (i * 2)
      have hz1 := hfz (i * 2 + 1)
      have hz2 := hfz (kk * 2)
      have hz3 := hfz (kk * 2 + 1)
      have hstep := Lib.hid (C.revP_step HREV.out (i := i) (k := kk) (by rw [HRR.out]; omega) (by omega) ha hb)
      have n0 : (0 : Int) ≤ (i : Int) := by omega
      have n1 : (i : Int) < r := by omega
      have n2 : (0 : Int) ≤ (kk : Int) := by omega
      have n3 : (kk : Int) < r := by omega
      have hiN : i < cur.length := by rw [HCL.out]; omega
      have hkN : kk < cur.length := by rw [HCL.out]; omega
      have HI := Lib.hid hiN
      have HK := Lib.hid hkN
      clear ha hb hSc hfz hiN hkN
      go_wp2
      go_region
      go_wp2
      have HOWN4 := own_set (own_set (own_set (own_set hown (j := i * 2) (by rw [C.fl_len]; have := HI.out; omega) (.int .i32 b.1)) (j := i * 2 + 1) (by rw [List.length_set, C.fl_len]; have := HI.out; omega) (.int .i32 b.2)) (j := kk * 2) (by rw [List.length_set, List.length_set, C.fl_len]; have := HK.out; omega) (.int .i32 a.1)) (j := kk * 2 + 1) (by rw [List.length_set, List.length_set, List.length_set, C.fl_len]; have := HK.out; omega) (.int .i32 a.2)
      rw [C.fl_set _ _ _ _ HI.out, C.fl_set _ _ _ _ (by rw [List.length_set]; exact HK.out)] at HOWN4
      refine ⟨⟨i + 1, (kk : Int) - 1, (cur.set i b).set kk a, by omega, by go_num, by go_num, by omega, hstep.out, HOWN4.drew, ?_⟩, by simp [intOf]; omega⟩
      exact ((((hbel.setCell (by show w3.heap.size + 1 ≤ g; omega) _).setCell (by show w3.heap.size + 1 ≤ g; omega) _).setCell (by show w3.heap.size + 1 ≤ g; omega) _).setCell (by show w3.heap.size + 1 ≤ g; omega) _).drew
    · have hfin := C.revP_end HREV.out (by rw [HRR.out]; omega)
      rw [hfin] at hown
      have hSr := Lib.hid (Sl.of_own hown)
      have hrv : C.good R.reverse = true := by rw [C.good_reverse]; exact HRG.out
      have HRV := Lib.hid hrv
      have hsz : w3.heap.size + 1 ≤ wr.heap.size := Nat.le_trans z0 hbel.size
      clear hfin hown hrv
      go_wp2_with fail
      refine (C.of_any A4 c4 r wr.heap.size R.reverse _ (by rw [List.length_reverse]; exact HRR.out) hr' (C.good_bd HRV.out) (Nat.le_refl _) hSr.out).mono ?_
      rintro e w5 ⟨hr1, _⟩
      have hr2 := hr1 HRV.out
      rw [HAG.out, HN.out] at hr2
      obtain ⟨A5, c5, rfl, hown5, hb5⟩ := hr2
      have hS5 := Lib.hid (Sl.of_own hown5)
      have hZ5 := hbel.trans (hb5.mono hsz)
      clear hr1 hown5
      have hax := and_21 x
      have hn1 : (0 : Int) ≤ x % 2097152 := by omega
      have xb1 : 0 ≤ (x % 2097152 % 1114112) := by omega
      have xb2 : (x % 2097152 % 1114112) ≤ 1114111 := by omega
      have hlg := C.low_good HOK.out HISC.out xb1 xb2
      obtain ⟨hlok, hlsl⟩ := C.ofS_ok hlg
      have hp1 := C.parts_ok HOK.out HISC.out xb1 xb2
      have hp2 := C.parts_apart HOK.out HISC.out xb1 xb2
      have hp3 := C.parts_both HOK.out HISC.out xb1 xb2
      have hp4 := C.parts_count HOK.out HISC.out xb1 xb2
      have hp5 := C.parts_idx HOK.out HISC.out xb1 xb2
      obtain ⟨L, hL⟩ : ∃ L, C.ofS [(0, (x % 2097152 % 1114112))] = L := ⟨_, rfl⟩
      rw [hL] at hlok hlsl hp1 hp2 hp3 hp4 hp5
      obtain ⟨nl, hnl⟩ : ∃ nl, L.length = nl := ⟨_, rfl⟩
      rw [hnl] at hlsl
      have hlsl' : nl ≤ 6 := by simpa using hlsl
      have HLG := Lib.hid hlg
      have HL5 := Lib.hid hL
      have HNL := Lib.hid hnl
      have HLOK := Lib.hid hlok
      have HP1 := Lib.hid hp1
      have HP2 := Lib.hid hp2
      have HP3 := Lib.hid hp3
      have HP4 := Lib.hid hp4
      have HP5 := Lib.hid hp5
      clear hlg hL hnl hlok hlsl hp1 hp2 hp3 hp4 hp5
      have hs5 : w3.heap.size + 1 ≤ w5.heap.size := Nat.le_trans hsz hb5.size
      have hbA : Below w5.heap.size w5 ((w5.alloc (.cells #[.slice A5 n c5] 26)).alloc (.cells #[.int .i32 0, .int .i32 (x % 2097152 % 1114112)] 32)) := ((Below.refl _ _).alloc (Nat.le_refl _) _).alloc (by simp) _
      have hSl := Lib.hid (Sl.lit (w := ((w5.alloc (.cells #[.slice A5 n c5] 26)).alloc (.cells #[.int .i32 0, .int .i32 (x % 2097152 % 1114112)] 32))) (A := some ⟨w5.heap.size + 1, 0, none⟩) (xs := C.fl .i32 [(0, (x % 2097152 % 1114112))]) rfl 32 (0, 0) (by
        have h := heap_alloc_new (w5.alloc (.cells #[.slice A5 n c5] 26)) (.cells #[.int .i32 0, .int .i32 (x % 2097152 % 1114112)] 32)
        rwa [show (w5.alloc (.cells #[.slice A5 n c5] 26)).heap.size = w5.heap.size + 1 by simp] at h))
      have hblk9 : ((w5.alloc (.cells #[.slice A5 n c5] 26)).alloc (.cells #[.int .i32 0, .int .i32 (x % 2097152 % 1114112)] 32)).heap[w5.heap.size]? = some (.cells #[.slice A5 n c5] 26 (0, 0)) := by
        have h := Below.refl (w5.heap.size + 1) (w5.alloc (.cells #[.slice A5 n c5] 26))
        exact (ret_blk (h.alloc (by simp) _)).1
      have HBLK9 := Lib.hid hblk9
      clear hblk9
      go_wp2_with fail
      refine (C.of_any _ 1 1 _ [(0, (x % 2097152 % 1114112))] _ rfl (by decide) (C.good_bd HLG.out) (Nat.le_refl _) hSl.out).mono ?_
      rintro e w6 ⟨hr1, _⟩
      have hr2 := hr1 HLG.out
      rw [HL5.out, HNL.out] at hr2
      obtain ⟨A6, c6, rfl, hown6, hb6⟩ := hr2
      clear hr1
      have hbB : Below w6.heap.size w6 (w6.alloc (.cells #[.slice A6 nl c6] 26)) := (Below.refl _ _).alloc (Nat.le_refl _) _
      have h9B : (w6.alloc (.cells #[.slice A6 nl c6] 26)).heap[w5.heap.size]? = some (.cells #[.slice A5 n c5] 26 (0, 0)) := by
        rw [hbB.block _ (by have := hb6.size; simp at this; omega), hb6.block _ (by simp; omega)]
        exact HBLK9.out
      have hs6 : w5.heap.size + 1 ≤ w6.heap.size := by have := hb6.size; simp at this; omega
      have hZA := hZ5.trans (hbA.mono hs5)
      have hZ6 := hZA.trans (hb6.mono (by simp; omega))
      have hZB := hZ6.trans (hbB.mono (by omega))
      have h3B := (hZB.block w3.heap.size (by omega)).trans HBLK.out
      have h11B := heap_alloc_new w6 (.cells #[.slice A6 nl c6] 26)
      obtain ⟨e3, _⟩ := blk_cell h3B 0
      obtain ⟨e9, _⟩ := blk_cell h9B 0
      obtain ⟨e11, _⟩ := blk_cell h11B 0
      simp only [List.getElem?_toArray, List.getElem?_cons_zero] at e3 e9 e11
      have hSB := Lib.hid (hS0.out.belowN hZB (Nat.le_refl _) (Nat.le_refl _))
      have hS9 := Lib.hid ((hS5.out.belowN hbA (Nat.le_refl _) (Nat.le_refl _)).belowN ((hb6.mono (by simp <;> omega)).trans (hbB.mono (by omega))) (Nat.le_refl _) (Nat.le_refl _))
      have hS11 := Lib.hid ((Sl.of_own hown6).belowN hbB (Nat.le_refl _) (Nat.le_refl _))
      have H3B := Lib.hid h3B
      have H11B := Lib.hid h11B
      clear h3B h9B h11B hown6
      go_wp2_with fail
      refine (C.same_any A3 A5 c3 c5 n n w6.heap.size S S _ HN.out HN.out hn' hn' hbB.size (hSB.out.more (by omega)) (hS9.out.more (by omega))).mono ?_
      rintro e w7 ⟨rfl, hb7⟩
      rw [decide_eq_true (show S = S from rfl)]
      have hZ7 := hZB.trans (hb7.mono (Nat.le_trans hs5 (Nat.le_trans (by omega) hbB.size)))
      have d3 := ((bcell hb7).1 w3.heap.size 0 (by have := hbB.size; omega)).trans e3
      have d11 := ((bcell hb7).1 w6.heap.size 0 (by simp)).trans e11
      have hS7 := Lib.hid (hSB.out.belowN hb7 (by have := hbB.size; omega) (Nat.le_refl _))
      have hL7 := Lib.hid (hS11.out.belowN hb7 hbB.size (Nat.le_refl _))
      have s7a : w3.heap.size + 1 ≤ w7.heap.size := by have := hb7.size; have := hbB.size; omega
      have s7b : w6.heap.size < w7.heap.size := by have := hb7.size; simp at this; omega
      have s7c : w6.heap.size ≤ w7.heap.size := by omega
      clear e3 e9 e11
      go_upto_region 14 with (fail)
      obtain ⟨la, hla⟩ : ∃ la, C.mrg C.andF S L = la := ⟨_, rfl⟩
      obtain ⟨lb, hlb⟩ : ∃ lb, C.mrg C.lessF S L = lb := ⟨_, rfl⟩
      have HLA := Lib.hid hla
      have HLB := Lib.hid hlb
      rw [hla] at HP2 HP3 HP4 HP5 HP1
      rw [hlb] at HP2 HP3 HP4 HP1
      clear hla hlb
      go_cut [13, 14] (fun s13 s14 wx => ∃ (g13 g14 : Nat) (Aa Ab : Option Addr) (ca cb : Nat), s13 = .pointer (some ⟨g13, 0, none⟩) ∧ s14 = .pointer (some ⟨g14, 0, none⟩) ∧ wx.cell? ⟨g13, 0, none⟩ = some (.slice Aa la.length ca) ∧ wx.cell? ⟨g14, 0, none⟩ = some (.slice Ab lb.length cb) ∧ g13 < wx.heap.size ∧ g14 < wx.heap.size ∧ Sl wx wx.heap.size Aa (la.map (Value.int .i32)) ∧ Sl wx wx.heap.size Ab (lb.map (Value.int .i32)) ∧ Below w7.heap.size w7 wx)
      case first =>
        have h77 : Below w7.heap.size w7 w7 := Below.refl _ _
        go_region_held3 (fun w' => w'.cell? ⟨w3.heap.size, 0, none⟩ = some (.slice A3 n c3) ∧ w'.cell? ⟨w6.heap.size, 0, none⟩ = some (.slice A6 nl c6) ∧ Below w7.heap.size w7 w')
          (first
            | exact ⟨d3, d11, h77⟩
            | (refine C.keep2 d3 d11 (by omega) s7b ?_; repeat' (first | with_reducible exact h77 | with_reducible exact hba7 | with_reducible exact hbb7 | with_reducible refine C.bset ?_ (by first | omega | (simp; done) | (simp; omega)) _ | with_reducible refine C.bal ?_ _ | with_reducible refine C.bdrew ?_ | fail))
            | fail)
          (first
            | (go_at_call 14; refine (C.and_any A3 A6 c3 c6 n nl w7.heap.size S L _ HN.out HNL.out hn' (by omega) HOK.out.1 HLOK.out.1 (C.third (by assumption)).size (hS7.out.belowN (C.third (by assumption)) s7a s7a) (hL7.out.belowN (C.third (by assumption)) s7c s7c)).mono ?_; rw [HLA.out]; rintro e wa ⟨Aa, ca, rfl, howna, hbc⟩; have hba7 := (C.third (W := w7) (by assumption)).trans (hbc.mono (C.third (W := w7) (by assumption)).size); have hra := Lib.hid (SlR.of_own howna); (try have hrb2 := Lib.hid (SlR.below (by first | with_reducible exact hrb.out | exact SlR.alloc hrb.out _ | exact SlR.alloc (SlR.alloc hrb.out _) _) hbc (by first | (simp; done) | (simp; omega) | omega))); obtain ⟨hqa1, hqa2⟩ := bcell hbc; have hza0 := hba7.size; (try have hza5 : wb.heap.size ≤ wa.heap.size := by have h := hbc.size; (try simp at h); omega); (try have hza1 : w7.heap.size < wa.heap.size := by have h := hbc.size; (try simp at h); omega); (try have hza2 : w7.heap.size + 1 < wa.heap.size := by have h := hbc.size; (try simp at h); omega); (try have hza3 : wb.heap.size < wa.heap.size := by have h := hbc.size; (try simp at h); omega); (try have hza4 : wb.heap.size + 1 < wa.heap.size := by have h := hbc.size; (try simp at h); omega))
            | (go_at_call 15; refine (C.less_any A3 A6 c3 c6 n nl w7.heap.size S L _ HN.out HNL.out hn' (by omega) HOK.out.1 HLOK.out.1 (C.third (by assumption)).size (hS7.out.belowN (C.third (by assumption)) s7a s7a) (hL7.out.belowN (C.third (by assumption)) s7c s7c)).mono ?_; rw [HLB.out]; rintro e wb ⟨Ab, cb, rfl, hownb, hbc⟩; have hbb7 := (C.third (W := w7) (by assumption)).trans (hbc.mono (C.third (W := w7) (by assumption)).size); have hrb := Lib.hid (SlR.of_own hownb); (try have hra2 := Lib.hid (SlR.below (by first | with_reducible exact hra.out | exact SlR.alloc hra.out _ | exact SlR.alloc (SlR.alloc hra.out _) _) hbc (by first | (simp; done) | (simp; omega) | omega))); obtain ⟨hqb1, hqb2⟩ := bcell hbc; have hzb0 := hbb7.size; (try have hzb5 : wa.heap.size ≤ wb.heap.size := by have h := hbc.size; (try simp at h); omega); (try have hzb1 : w7.heap.size < wb.heap.size := by have h := hbc.size; (try simp at h); omega); (try have hzb2 : w7.heap.size + 1 < wb.heap.size := by have h := hbc.size; (try simp at h); omega); (try have hzb3 : wa.heap.size < wb.heap.size := by have h := hbc.size; (try simp at h); omega); (try have hzb4 : wa.heap.size + 1 < wb.heap.size := by have h := hbc.size; (try simp at h); omega))
            | fail)
        all_goals
          go_wp2_with fail
          go_meet
          refine ⟨_, _, Aa, Ab, ca, cb, rfl, rfl, ?_, ?_, ?_, ?_, ?_, ?_, ?_⟩
          · first | (go_simp; done) | (go_simp; exact World.cell?_setCell_same _ _ _ (u := .slice none 0 0) (by go_simp)) | fail
          · first | (go_simp; done) | (go_simp; exact World.cell?_setCell_same _ _ _ (u := .slice none 0 0) (by go_simp)) | fail
          · first | (simp; done) | (simp; omega)
          · first | (simp; done) | (simp; omega)
          · first | exact SlR.sl (SlR.alloc (SlR.alloc hra2.out _) _) (by first | omega | (simp; done) | (simp; omega)) | exact SlR.sl (SlR.alloc (SlR.set hra2.out (by first | omega | (simp; done) | (simp; omega)) _) _) (by first | omega | (simp; done) | (simp; omega)) | exact SlR.sl (SlR.set (SlR.set hra2.out (by first | omega | (simp; done) | (simp; omega)) _) (by first | omega | (simp; done) | (simp; omega)) _) (by first | omega | (simp; done) | (simp; omega)) | fail
          · first | exact SlR.sl (SlR.alloc (SlR.alloc hrb.out _) _) (by first | omega | (simp; done) | (simp; omega)) | exact SlR.sl (SlR.alloc (SlR.set hrb.out (by first | omega | (simp; done) | (simp; omega)) _) _) (by first | omega | (simp; done) | (simp; omega)) | exact SlR.sl (SlR.set (SlR.set hrb.out (by first | omega | (simp; done) | (simp; omega)) _) (by first | omega | (simp; done) | (simp; omega)) _) (by first | omega | (simp; done) | (simp; omega)) | fail
          · repeat' (first | with_reducible exact h77 | with_reducible exact hba7 | with_reducible exact hbb7 | with_reducible refine C.bset ?_ (by first | omega | (simp; done) | (simp; omega)) _ | with_reducible refine C.bal ?_ _ | with_reducible refine C.bdrew ?_ | fail)
      case rest =>
        obtain ⟨g13, g14, Aa, Ab, ca, cb, rfl, rfl, q13, q14, l13, l14, hSa0, hSb0, hbx⟩ := hcut
        obtain ⟨wx, rfl⟩ : ∃ wx : World, wx = wc := ⟨_, rfl⟩
        have hSa := Lib.hid hSa0
        have hSb := Lib.hid hSb0
        have hS3x := Lib.hid (hS7.out.belowN hbx s7a (Nat.le_trans s7a hbx.size))
        have q3 := ((bcell hbx).1 w3.heap.size 0 (by omega)).trans d3
        have l3 : w3.heap.size < wx.heap.size := by have := hbx.size; omega
        have hZx := hZ7.trans (hbx.mono s7a)
        have oka := HP1.out.1
        have okb := HP1.out.2
        have bda := C.count_bd oka
        have bdb := C.count_bd okb
        have bdS := C.count_bd HOK.out
        obtain ⟨na, hna⟩ : ∃ na, la.length = na := ⟨_, rfl⟩
        obtain ⟨nb, hnb⟩ : ∃ nb, lb.length = nb := ⟨_, rfl⟩
        have hna' : na ≤ 1000000 := by
          have := C.mrg_len C.andF S L
          rw [HLA.out, HN.out, HNL.out, hna] at this; omega
        have hnb' : nb ≤ 1000000 := by
          have := C.mrg_len C.lessF S L
          rw [HLB.out, HN.out, HNL.out, hnb] at this; omega
        rw [hna] at q13
        rw [hnb] at q14
        have HNA := Lib.hid hna
        have HNB := Lib.hid hnb
        have HOKA := Lib.hid oka
        have HOKB := Lib.hid okb
        have HC0 := Lib.hid (show C.count ([] : List Int) = 0 from rfl)
        obtain ⟨ka, hka⟩ : ∃ ka, C.count la = ka := ⟨_, rfl⟩
        obtain ⟨kb, hkb⟩ : ∃ kb, C.count lb = kb := ⟨_, rfl⟩
        obtain ⟨kS, hkS⟩ : ∃ kS, C.count S = kS := ⟨_, rfl⟩
        have hsum := HP4.out
        have hidx := HP5.out
        rw [hka, hkb, hkS] at hsum
        rw [hka] at bda hidx
        rw [hkb] at bdb
        rw [hkS] at bdS
        obtain ⟨a1, a2⟩ := bda
        obtain ⟨b1, b2⟩ := bdb
        obtain ⟨s1, s2⟩ := bdS
        have HKA := Lib.hid hka
        have HKB := Lib.hid hkb
        have HKS := Lib.hid hkS
        have HIDX := Lib.hid hidx
        have hw1 : IntKind.i64.wrap (ka + kb) = ka + kb := IntWalk.i64_in _ (by omega)
        have he1 : (ka + kb == kS) = true := by simp; omega
        have he2 : (ka == ka) = true := by simp
        have hw2 : IntKind.i32.wrap (x % 2097152 % 1114112) = x % 2097152 % 1114112 := by rw [IntKind.wrap_i32]; omega
        have hw3 : IntKind.i32.wrap (x % 2097152 % 1114112 + 1) = x % 2097152 % 1114112 + 1 := by rw [IntKind.wrap_i32]; omega
        have n1 : (0 : Int) ≤ x % 2097152 % 1114112 + 1 := by omega
        have n2 : x % 2097152 % 1114112 + 1 ≤ 1114112 := by omega
        clear hka hkb hkS hidx hsum hna hnb oka okb hSa0 hSb0 d3 d11
        have hxx : Below wx.heap.size wx wx := Below.refl _ _
        go_wp2_with fail
        go_region_held3 (fun w' => w'.cell? ⟨g13, 0, none⟩ = some (.slice Aa na ca) ∧ w'.cell? ⟨g14, 0, none⟩ = some (.slice Ab nb cb) ∧ w'.cell? ⟨w3.heap.size, 0, none⟩ = some (.slice A3 n c3) ∧ Below wx.heap.size wx w')
          (first
            | exact C.keep3 q13 q14 q3 l13 l14 l3 hxx
            | exact C.keep3 q13 q14 q3 l13 l14 l3 hxx.drew
            | exact C.keep3 q13 q14 q3 l13 l14 l3 hbz9
            | fail)
          (first
            | (go_at_call 14; refine (C.and_any Aa Ab ca cb na nb wx.heap.size la lb _ HNA.out HNB.out hna' hnb' HOKA.out.1 HOKB.out.1 (C.fourth (W := wx) (by assumption)).size (hSa.out.belowN (C.fourth (by assumption)) (Nat.le_refl _) (Nat.le_refl _)) (hSb.out.belowN (C.fourth (by assumption)) (Nat.le_refl _) (Nat.le_refl _))).mono ?_; rw [HP2.out]; rintro e wc ⟨Ac, cc, rfl, hownc, hbc⟩; have hSc := Lib.hid (Sl.of_own hownc); clear hownc; have hbz9 := (C.fourth (W := wx) (by assumption)).trans (hbc.mono (C.fourth (W := wx) (by assumption)).size))
            | (go_at_call 17; refine (C.or_any Aa Ab ca cb na nb wx.heap.size la lb _ HNA.out HNB.out hna' hnb' HOKA.out.1 HOKB.out.1 (C.fourth (W := wx) (by assumption)).size (hSa.out.belowN (C.fourth (by assumption)) (Nat.le_refl _) (Nat.le_refl _)) (hSb.out.belowN (C.fourth (by assumption)) (Nat.le_refl _) (Nat.le_refl _))).mono ?_; rw [HP3.out]; rintro e wd ⟨Ad, cd, rfl, hownd, hbc⟩; rw [HN.out] at hownd ⊢; have hSd := Lib.hid (Sl.of_own hownd); clear hownd; have hbz9 := (C.fourth (W := wx) (by assumption)).trans (hbc.mono (C.fourth (W := wx) (by assumption)).size))
            | (go_at_call 13; refine (C.same_any Ad A3 cd c3 n n wd.heap.size S S _ HN.out HN.out hn' hn' (Nat.le_refl _) hSd.out ((hS3x.out.belowN (C.fourth (by assumption)) (by omega) (Nat.le_refl _)).more (C.fourth (W := wx) (by assumption)).size)).mono ?_; rw [decide_eq_true (show S = S from rfl)]; rintro e we ⟨rfl, hbc⟩; have hbz9 := (C.fourth (W := wx) (by assumption)).trans (hbc.mono (C.fourth (W := wx) (by assumption)).size))
            | (go_at_call 16; (with_reducible refine (C.count_any Ac cc 0 wc.heap.size [] _ List.length_nil (by decide) C.nil_ok (Nat.le_refl _) hSc.out).mono ?_); rw [HC0.out]; rintro e wf ⟨rfl, hbc⟩; have hbz9 := (C.fourth (W := wx) (by assumption)).trans (hbc.mono (C.fourth (W := wx) (by assumption)).size))
            | (go_at_call 16; (with_reducible refine (C.count_any Aa ca na wx.heap.size la _ HNA.out hna' HOKA.out (C.fourth (W := wx) (by assumption)).size (hSa.out.belowN (C.fourth (by assumption)) (Nat.le_refl _) (Nat.le_refl _))).mono ?_); rw [HKA.out]; rintro e wf ⟨rfl, hbc⟩; have hbz9 := (C.fourth (W := wx) (by assumption)).trans (hbc.mono (C.fourth (W := wx) (by assumption)).size))
            | (go_at_call 16; (with_reducible refine (C.count_any Ab cb nb wx.heap.size lb _ HNB.out hnb' HOKB.out (C.fourth (W := wx) (by assumption)).size (hSb.out.belowN (C.fourth (by assumption)) (Nat.le_refl _) (Nat.le_refl _))).mono ?_); rw [HKB.out]; rintro e wf ⟨rfl, hbc⟩; have hbz9 := (C.fourth (W := wx) (by assumption)).trans (hbc.mono (C.fourth (W := wx) (by assumption)).size))
            | (go_at_call 16; (with_reducible refine (C.count_any A3 c3 n wx.heap.size S _ HN.out hn' HOK.out (C.fourth (W := wx) (by assumption)).size ((hS3x.out.more (by omega)).belowN (C.fourth (by assumption)) (Nat.le_refl _) (Nat.le_refl _))).mono ?_); rw [HKS.out]; rintro e wf ⟨rfl, hbc⟩; have hbz9 := (C.fourth (W := wx) (by assumption)).trans (hbc.mono (C.fourth (W := wx) (by assumption)).size))
            | (go_at_call 18; refine (C.index_any A3 c3 n wx.heap.size S _ _ HN.out hn' HOK.out (by omega) (by omega) (C.fourth (W := wx) (by assumption)).size ((hS3x.out.more (by omega)).belowN (C.fourth (by assumption)) (Nat.le_refl _) (Nat.le_refl _))).mono ?_; rw [← HIDX.out]; rintro e wf ⟨rfl, hbc⟩; have hbz9 := (C.fourth (W := wx) (by assumption)).trans (hbc.mono (C.fourth (W := wx) (by assumption)).size))
            | fail)
        all_goals
          go_wp2_with fail
          go_ret
          have hs03 := hb03.size
          exact ⟨rfl, ((hb03.trans (hbz.mono hs03)).trans (hZx.mono (by omega))).trans (hbz9.mono (by omega))⟩

theorem C.ranges_row (w : World) (a : Option Addr) (len cap : Nat) (rs : List (Int × Int)) (h : IsPairs w a len cap rs) (x : Int) (_ : -9223372036854775808 ≤ x) (_ : x ≤ 9223372036854775807) :
    Calls Try.prog 3 #[.slice a len cap, .int .i64 x] w fun e w' => e = .returned (.bool true) ∧ Below w.heap.size w w' :=
  C.ranges_law a len cap w.heap.size rs x w h.1 h.2.1 h.2.2.1 (Nat.le_refl _) h.2.2.2.1
end Go.Proofs.Ytfobmgfmepoamaa
