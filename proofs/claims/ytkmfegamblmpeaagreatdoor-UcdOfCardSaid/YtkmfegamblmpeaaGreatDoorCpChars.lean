/- slices.Compact at rune (the kit's text at int, turned). -/
import Derived.Test.YtkmfegamblmpeaaGreatDoorSoWalkB3
import Derived.Deep.Draws
import Derived.Lib.Walk
import Derived.Sort.EncStr
import Derived.Lib.SliceRun
import Derived.Lib.SlicesS
import Derived.Lib.SlicesCompact
import Derived.BigQuiet
import Derived.Deep.QuietTactic
import Derived.RegionTactic
import Derived.BigRegion
import Derived.WalkKit
import Derived.Test.YtkmfegamblmpeaaGreatDoorSoOwn
import Derived.Test.YtkmfegamblmpeaaGreatDoorCpIsPlain
import Derived.Test.YtkmfegamblmpeaaGreatDoorUdIs
import Derived.Test.YtkmfegamblmpeaaGreatDoorCpUtf
namespace Go.Proofs.YtkmfegamblmpeaaGreatDoor
open Go.RowKit Go.Lib Go.Sort
set_option linter.unusedSimpArgs false
set_option linter.unusedVariables false
theorem store_world_int {w wr : World} {n blk off : Nat} {dk : Array Int} {i : Nat} (hi : i < dk.size) (hwr : wr = putRow encI (Sort.ahead w n) blk off dk) (x : Int) :
    (wr.setCell ⟨blk, off + i, none⟩ (encI x)).drew = putRow encI (Sort.ahead w (n + 1)) blk off (dk.setIfInBounds i x) := by
  subst hwr
  rw [putRow_set encI _ blk off dk i x hi, ← ahead_drew]
  rfl

set_option maxHeartbeats 4000000 in
set_option maxRecDepth 1000000 in

theorem So.slices_Compact_int_arr (blk off cap : Nat) (d : Array Int) (w : World) (hH : Holds encI w blk off d) (hsz : d.size ≤ 9223372036854775807) (hcap : d.size ≤ cap) :
    Calls Tryz.prog 84 #[.slice (some ⟨blk, off, none⟩) d.size cap] w fun e w' => e = .returned (.slice (some ⟨blk, off, none⟩) (compactUpTo d d.size).length cap) ∧ ∃ q, w' = putRow encI (Sort.ahead w q) blk off (compactUpTo d d.size ++ List.replicate (d.size - (compactUpTo d d.size).length) 0).toArray := by
  have same : ∀ q, (∀ j, j < d.size → keeps d j = true) → (compactUpTo d d.size).length = d.size ∧ w.drewN q = putRow encI (Sort.ahead w q) blk off (compactUpTo d d.size ++ List.replicate (d.size - (compactUpTo d d.size).length) 0).toArray := by
    intro q hall
    have e : compactUpTo d d.size = d.toList := by rw [compactUpTo_all d _ hall, range_map_get]
    rw [e]
    refine ⟨by simp, ?_⟩
    simp only [Array.length_toList, Nat.sub_self, List.replicate_zero, List.append_nil, Array.toArray_toList]
    exact (putRow_self encI (Sort.ahead w q) blk off d (holds_ahead encI w q blk off d hH)).symm
  have HS : Aside (∀ q, (∀ j, j < d.size → keeps d j = true) → (compactUpTo d d.size).length = d.size ∧ w.drewN q = putRow encI (Sort.ahead w q) blk off (compactUpTo d d.size ++ List.replicate (d.size - (compactUpTo d d.size).length) 0).toArray) := same
  clear same
  by_cases h2 : d.size < 2
  · have HH : Aside (Holds encI w blk off d) := hH
    clear hH
    go_enter Tryz.func84, Tryz.ntmps84
    go_wp2
    go_ret
    obtain ⟨e1, e2⟩ := HS.out 0 (fun j hj => keeps_lt_one d j (by omega))
    exact ⟨by rw [e1]; rfl, 0, e2⟩
  · go_enter Tryz.func84, Tryz.ntmps84
    go_wp2
    go_loopg [3] d.size (fun g s3 wr => ∃ k q : Nat, 1 ≤ k ∧ k ≤ d.size ∧ d.size - k ≤ g ∧ s3 = .int .i64 k ∧ wr = w.drewN q ∧ ∀ j, j < k → keeps d j = true)
    case atStart => exact ⟨1, 0, Nat.le_refl _, by omega, by omega, rfl, rfl, keeps_lt_one d⟩
    case round =>
      obtain ⟨k, q, hk1, hk, hg, rfl, rfl, hall⟩ := hrel
      by_cases hlt : k < d.size
      · obtain ⟨c1, f1⟩ := hH k hlt
        obtain ⟨c0, f0⟩ := hH (k - 1) (by omega)
        have A : Aside (∀ j, j < k → keeps d j = true) := hall
        have HH : Aside (Holds encI w blk off d) := hH
        clear hall hH
        generalize hx : d[k]! = x at c1
        generalize hy : d[k - 1]! = y at c0
        have B : Aside (d[k]! = x ∧ d[k - 1]! = y) := ⟨hx, hy⟩
        clear hx hy
        by_cases hdup : x = y
        · subst hdup
          go_wp2_with fail
          go_region
          go_wp2
          clear c0 c1 f0 f1
          go_loopg [3, 5] d.size (fun g s3 s5 wr => ∃ (kk k2 q2 : Nat) (dk : Array Int), s3 = .int .i64 kk ∧ s5 = .int .i64 k2 ∧ 1 ≤ k2 ∧ k + k2 ≤ d.size ∧ d.size - (k + k2) ≤ g ∧ wr = putRow encI (Sort.ahead w q2) blk off dk ∧ CompInv d (k + k2) kk dk)
          case atStart => exact ⟨k, 1, q + 1, d, rfl, rfl, Nat.le_refl _, by omega, by omega, (putRow_self encI (Sort.ahead w (q + 1)) blk off d (holds_ahead encI w (q + 1) blk off d HH.out)).symm, CompInv.start A.out (keeps_neg (by omega) (by rw [B.out.1, B.out.2]))⟩
          case round =>
            obtain ⟨kk, k2, q2, dk, rfl, rfl, h1, hle, hg2, hwr, hI⟩ := hrel
            have hkk := hI.lt
            have hds := hI.size
            have hHk : Holds encI wr blk off dk := by rw [hwr]; exact holds_putRow encI _ blk off d dk (holds_ahead encI w q2 blk off d HH.out) hds
            have W2 : Aside (wr = putRow encI (Sort.ahead w q2) blk off dk) := hwr
            have I2 : Aside (CompInv d (k + k2) kk dk) := hI
            clear hwr
            by_cases hlt2 : k + k2 < d.size
            · obtain ⟨cm, _⟩ := hHk (k + k2) (by omega)
              obtain ⟨cp, _⟩ := hHk (k + k2 - 1) (by omega)
              obtain ⟨ck, fk⟩ := hHk kk (by omega)
              rw [hI.high (k + k2) (by omega), show off + (k + k2) = off + k + k2 by omega] at cm
              rw [hI.high (k + k2 - 1) (by omega), show off + (k + k2 - 1) = off + k + (k2 - 1) by omega] at cp
              clear hHk hI
              generalize hu : d[k + k2]! = u at cm
              generalize hv : d[k + k2 - 1]! = v at cp
              generalize dk[kk]! = old at ck
              have C : Aside (d[k + k2]! = u ∧ d[k + k2 - 1]! = v) := ⟨hu, hv⟩
              clear hu hv
              by_cases huv : u = v
              · subst huv
                go_wp2_with fail
                go_region
                go_wp2
                go_roundg (d.size - (k + (k2 + 1)))
                case measure => omega
                case rel => exact ⟨kk, k2 + 1, q2 + 1, dk, rfl, by go_num, by omega, by omega, Nat.le_refl _, by rw [W2.out]; rfl, I2.out.skip (keeps_neg (by omega) (by rw [C.out.1, C.out.2]))⟩
              · go_wp2_with fail
                go_region
                go_wp2
                go_roundg (d.size - (k + (k2 + 1)))
                case measure => omega
                case rel => exact ⟨kk + 1, k2 + 1, q2 + 1, dk.setIfInBounds kk u, by go_num, by go_num, by omega, by omega, Nat.le_refl _, store_world_int (by omega) W2.out u, by have := I2.out.keep hlt2 (keeps_pos (by rw [C.out.1, C.out.2]; exact huv)); rwa [C.out.1] at this⟩
            · have hend : k + k2 = d.size := by omega
              have hcl : ∀ ty, (Builtin.clear_ #[36] ty #[.slice (some ⟨blk, off + kk, none⟩) (d.size - kk) (cap - kk)]).run Tryz.prog wr = .ok (.tuple #[]) (wr.setCells blk (off + kk) (List.replicate (d.size - kk) (encI 0))) :=
                fun ty => Lib.run_clear_slice wr _ _ ty _ Tryz.underlying36 (fun w => (by kernel_rfl : (zeroValue 21).run Tryz.prog w = .ok (Value.int .i32 0) w)) rfl rfl blk (off + kk) _ _ (by omega) (fun j hj => by rw [show off + kk + j = off + (kk + j) by omega, (hHk (kk + j) (by omega)).1]; rfl) (fun j hj => by rw [show off + kk + j = off + (kk + j) by omega]; exact (hHk (kk + j) (by omega)).2)
              clear hHk hI
              go_wp2
              go_ret
              have hI := I2.out
              rw [hend] at hI
              refine ⟨by rw [hI.len]; rfl, q2, ?_⟩
              rw [hI.len, ← hI.done 0, ← putRow_setCells encI _ blk off _ dk kk (by simp; omega), ← W2.out, List.map_replicate]
        · go_wp2_with fail
          go_region
          go_wp2
          go_roundg (d.size - (k + 1))
          case measure => omega
          case rel =>
            refine ⟨k + 1, q + 1, by omega, by omega, Nat.le_refl _, by go_num, rfl, fun j hj => ?_⟩
            by_cases e : j = k
            · subst e
              exact keeps_pos (by rw [B.out.1, B.out.2]; exact hdup)
            · exact A.out j (by omega)
      · have : k = d.size := by omega
        subst this
        have HH : Aside (Holds encI w blk off d) := hH
        clear hH
        go_wp2
        go_ret
        obtain ⟨e1, e2⟩ := HS.out q hall
        exact ⟨by rw [e1]; rfl, q, e2⟩


theorem So.slices_Compact_int (blk off cap : Nat) (zs : List Int) (w : World) (hH : Holds (Value.int .i32) w blk off zs.toArray) (hsz : zs.length ≤ 9223372036854775807) (hcap : zs.length ≤ cap) :
    Calls Tryz.prog 84 #[.slice (some ⟨blk, off, none⟩) zs.length cap] w fun e w' => e = .returned (.slice (some ⟨blk, off, none⟩) (Lib.compact zs).length cap) ∧ ∃ q, w' = putRow (Value.int .i32) (Sort.ahead w q) blk off (Lib.compact zs ++ List.replicate (zs.length - (Lib.compact zs).length) 0).toArray := by
  have h := So.slices_Compact_int_arr blk off cap zs.toArray w hH (by simpa using hsz) (by simpa using hcap)
  simpa [Lib.compact] using h

set_option maxHeartbeats 1000000 in

theorem So.slices_Compact_int_empty (a : Option Addr) (cap : Nat) (w : World) :
    Calls Tryz.prog 84 #[.slice a 0 cap] w fun e w' => e = .returned (.slice a 0 cap) ∧ w' = w := by
  go_enter Tryz.func84, Tryz.ntmps84
  go_wp2
  go_ret
  exact ⟨rfl, rfl⟩
end Go.Proofs.YtkmfegamblmpeaaGreatDoor

/- A row of runes that the call has built, each number once (slices.Compact). -/
namespace Go.Proofs.YtkmfegamblmpeaaGreatDoor
open Go.RowKit Go.Sort
set_option linter.unusedSimpArgs false
set_option linter.unusedVariables false

theorem R.heap0 {w : World} {g n : Nat} {cur : Array Value} {e : TypeId} {fr : Nat × Nat} (d : Array Int) (hb : w.heap[g]? = some (.cells cur e fr)) :
    (putRow (Value.int .i32) (Sort.ahead w n) g 0 d).heap[g]? = some (.cells (putCells (Value.int .i32) 0 d cur) e fr) := by
  simp [putRow, mapBlock, Sort.ahead, Array.getElem?_modify, hb, onCells]
theorem R.below0 {w : World} {g n base : Nat} (d : Array Int) (hg : base ≤ g) : RowKit.Below base w (putRow (Value.int .i32) (Sort.ahead w n) g 0 d) := by
  refine ⟨rfl, rfl, rfl, by simp, fun k hk => ?_⟩
  have : g ≠ k := by omega
  simp [putRow, mapBlock, Sort.ahead, Array.getElem?_modify, this]
theorem R.compact_len (l : List Int) : (Lib.compact l).length ≤ l.length := by
  unfold Lib.compact Lib.compactUpTo
  rw [List.length_map]
  exact Nat.le_trans (List.length_filter_le _ _) (by simp)

theorem R.compact_any (A : Option Addr) (n c base e : Nat) (l : List Int) (w : World) (hn : l.length = n) (hn' : n ≤ 1000000) (hown : w.ownsRow base e 1 (.slice A n c) n (l.map (Value.int .i32))) (hbase : base ≤ w.heap.size) :
    Calls Tryz.prog 84 #[.slice A n c] w fun r w' => ∃ A' c', r = .returned (.slice A' (Lib.compact l).length c') ∧ Sl w' w'.heap.size A' ((Lib.compact l).map (Value.int .i32)) ∧ RowKit.Below base w w' := by
  subst hn
  rcases hown.2 with ⟨hv, h0⟩ | ⟨g, cap, cur, hv, hg, hb, h1, h2, h3, h4⟩
  · simp only [Value.slice.injEq] at hv
    obtain ⟨rfl, _, rfl⟩ := hv
    have hl : l = [] := List.eq_nil_of_length_eq_zero h0
    subst hl
    refine (So.slices_Compact_int_empty none 0 w).mono fun r w' hh => ?_
    obtain ⟨hr, hw⟩ := hh
    subst hw
    exact ⟨none, 0, by rw [hr]; rfl, Sl.nil _ _ _, RowKit.Below.refl _ _⟩
  · simp only [Value.slice.injEq] at hv
    obtain ⟨rfl, _, rfl⟩ := hv
    rw [Nat.mul_one] at h4
    have hgl : g < w.heap.size := (Array.getElem?_eq_some_iff.1 hb).1
    refine (So.slices_Compact_int g 0 c l w (R.holds hb h4) (by omega) h1).mono fun r w' hh => ?_
    obtain ⟨hr, q, hw⟩ := hh
    subst hw
    have hcl := R.compact_len l
    refine ⟨_, _, hr, ?_, R.below0 _ hg⟩
    intro hx
    rw [List.length_map] at hx
    refine ⟨g, 0, rfl, by simpa using hgl, fun i hi => ?_⟩
    rw [List.length_map] at hi
    have hc3 : cur.size = c := by rw [h3, Nat.mul_one]
    have hic : i < cur.size := by omega
    have hd : i < (Lib.compact l ++ List.replicate (l.length - (Lib.compact l).length) 0).toArray.size := by simp; omega
    simp only [World.cell?, R.heap0 _ hb, Nat.zero_add, Option.isSome_none, Bool.false_eq_true, if_false]
    rw [List.getElem?_map, List.getElem?_eq_getElem hi]
    simp only [putCells, Array.getElem?_mapIdx]
    rw [Array.getElem?_eq_getElem hic]
    simp only [Option.map_some, Nat.sub_zero, Nat.zero_le, true_and, Nat.zero_add]
    rw [if_pos hd, getElem!_pos _ i hd]
    simp [List.getElem_append, hi]
end Go.Proofs.YtkmfegamblmpeaaGreatDoor

/- The law's ranges: Right, Set, by walking their texts. -/
namespace Go.Proofs.YtkmfegamblmpeaaGreatDoor
open Go.RowKit
set_option linter.unusedSimpArgs false
set_option linter.unusedVariables false

/-- A number made one of a character's. -/
def C.lim (x : Int) : Int := x % 2097152 % 1114112
theorem own_set {w : World} {base : Nat} {e : TypeId} {size n c g j : Nat} {xs : List Value} (h : w.ownsRow base e size (.slice (some ⟨g, 0, none⟩) n c) n xs) (hj : j < xs.length) (u : Value) :
    (w.setCell ⟨g, j, none⟩ u).ownsRow base e size (.slice (some ⟨g, 0, none⟩) n c) n (xs.set j u) := by
  obtain ⟨h1, h2⟩ := h
  refine ⟨by rw [List.length_set]; exact h1, ?_⟩
  rcases h2 with ⟨h2, _⟩ | ⟨g', cap, cur, hv, hg, hc, hn, hm, hs, ht⟩
  · cases h2
  · cases hv
    refine .inr ⟨g, c, cur.set! j u, rfl, hg, ?_, hn, hm, by simp [hs], ?_⟩
    · simp [World.setCell, Array.getElem?_modify, hc]
    · rw [← ht]
      apply List.ext_getElem?
      intro i
      simp only [List.getElem?_take, List.getElem?_set, Array.toList_set!, List.length_take, Array.length_toList]
      have hl : n * size ≤ cur.size := by rw [hs]; exact Nat.mul_le_mul_right _ hn
      rw [h1] at hj
      by_cases h3 : j = i
      · subst h3
        simp [hj, show j < cur.size by omega]
        omega
      · simp [h3]
theorem own_zero {w : World} {base : Nat} {e : TypeId} {size n c b o : Nat} {xs : List Value} (h : w.ownsRow base e size (.slice (some ⟨b, o, none⟩) n c) n xs) : o = 0 ∧ base ≤ b ∧ b < w.heap.size ∧ ∀ j, w.frozen? ⟨b, j, none⟩ = false := by
  rcases h.2 with ⟨h2, _⟩ | ⟨g', cap, cur, hv, hg, hc, hn, hm, hs, ht⟩
  · cases h2
  · cases hv
    exact ⟨rfl, hg, heap_lt hc, fun j => by simp [World.frozen?, hc]⟩
end Go.Proofs.YtkmfegamblmpeaaGreatDoor

/- The law's Set, awake, by walking their texts. -/
namespace Go.Proofs.YtkmfegamblmpeaaGreatDoor
open Go.RowKit
set_option linter.unusedSimpArgs false
set_option linter.unusedVariables false

end Go.Proofs.YtkmfegamblmpeaaGreatDoor

/- The layer cpset: Chars, by walking its text. -/
namespace Go.Proofs.YtkmfegamblmpeaaGreatDoor
open Go.RowKit
set_option linter.unusedSimpArgs false
set_option linter.unusedVariables false

theorem C.chF_succ {cs : List Int} {i : Nat} {c : Int} (h : cs[i]? = some c) : C.chF (cs.take (i + 1)) [] = C.step C.isC (C.chF (cs.take i) []) c (c + 1) := by
  unfold C.chF
  rw [List.take_add_one, h, List.foldl_append]
  rfl

theorem C.step_last {acc : List Int} {k : Nat} {c b : Int} (hp : C.isC c = true) (hl : acc.length = k + 1) (h : acc[k]? = some c) : C.step C.isC acc c b = acc.set k b := by
  unfold C.step
  rw [if_pos hp, if_pos (by rw [List.getLast?_eq_getElem?, hl]; exact h)]
  rcases List.eq_nil_or_concat acc with rfl | ⟨l2, e, rfl⟩
  · simp at hl
  · rw [List.concat_eq_append] at *
    have : l2.length = k := by simpa using hl
    subst this
    simp

set_option maxRecDepth 100000 in
set_option maxHeartbeats 4000000 in
theorem C.chars_any (A : Option Addr) (n c B : Nat) (l : List Int) (w : World) (hn : l.length = n) (hn' : n ≤ 400000) (hB : B ≤ w.heap.size) (hA : Sl w B A (l.map (Value.int .i32))) :
    Calls Tryz.prog 57 #[.slice A n c] w (RetSet (C.chars l) w) := by
  have HN := Lib.hid hn
  obtain ⟨hsr, hme⟩ := C.once_spec l
  obtain ⟨cs, hcs⟩ : ∃ cs, C.once l = cs := ⟨_, rfl⟩
  have hcl : (l.mergeSort fun x y => decide (x ≤ y)).length = n := by simp [hn]
  have hco : Lib.compact (l.mergeSort fun x y => decide (x ≤ y)) = cs := by
    rw [← hcs]; unfold Lib.compact C.once; rw [hcl, hn]
  have hch : C.chars l = C.chF cs [] := by unfold C.chars; rw [hcs]
  rw [hch]
  obtain ⟨m, hm⟩ : ∃ m, cs.length = m := ⟨_, rfl⟩
  have hmn : m ≤ 400000 := by
    have h := R.compact_len (l.mergeSort fun x y => decide (x ≤ y))
    rw [hco, hcl, hm] at h; omega
  have HM := Lib.hid hm
  have HCL := Lib.hid hcl
  have HCO := Lib.hid hco
  have hal : Below w.heap.size w (w.alloc (.cells #[.slice none 0 0] 41)) := (Below.refl _ _).alloc (Nat.le_refl _) _
  have hA0 := Lib.hid (hA.belowN hal hB (Nat.le_refl _))
  have hz0 : w.heap.size + 1 ≤ (w.alloc (.cells #[.slice none 0 0] 41)).heap.size := by simp
  obtain ⟨j0, hj0, hy0, hy1, hy2⟩ := info_parts infoRune
  clear hn hcs hcl hco hch hm hsr hme
  go_enter Tryz.func57, Tryz.ntmps57
  go_wp2_with fail
  refine (R.clone_any A n c B l _ HN.out (by omega) (by omega) hA0.out).mono ?_
  rintro e w1 ⟨A1, c1, rfl, hown1, hb1⟩
  have hown1' := Lib.hid hown1
  clear hown1
  go_wp2_with fail
  refine (R.sort_any _ _ _ n l _ HN.out (by omega) hown1'.out hb1.size).mono ?_
  rintro e w2 ⟨rfl, hown2, hb2⟩
  have hown2' := Lib.hid hown2
  clear hown2
  go_wp2_with fail
  refine (R.compact_any A1 n c1 _ _ (l.mergeSort fun x y => decide (x ≤ y)) _ HCL.out (by omega) hown2'.out (Nat.le_trans hb1.size hb2.size)).mono ?_
  rw [HCO.out]
  rintro e w3 ⟨A3, c3, rfl, hS3, hb3⟩
  rw [HM.out]
  have HS3 := Lib.hid hS3
  have hb03 := (hb1.trans hb2).trans hb3
  clear hS3
  go_wp2
  go_loopw [4, 15] (fun vo vi wr => ∃ (i : Nat) (acc : List Int), i ≤ m ∧ vi = .int .i64 i ∧ acc = C.chF (cs.take i) [] ∧ acc.length ≤ 2 * i ∧ wr.ownsRow w3.heap.size 21 1 vo acc.length (acc.map (Value.int .i32)) ∧ Below w3.heap.size w3 wr) (fun _ vi _ => m - (intOf vi).toNat)
  case atStart => exact ⟨0, [], by omega, rfl, rfl, Nat.zero_le _, World.ownsRow_nil _ _ _ _, Below.refl _ _⟩
  case round =>
    obtain ⟨i, acc, hi, rfl, hacc, hal2, hown, hbz⟩ := hrel
    obtain ⟨uu, rfl⟩ : ∃ uu : World, uu = wr := ⟨_, rfl⟩
    obtain ⟨q, hq⟩ : ∃ q, acc.length = q := ⟨_, rfl⟩
    rw [hq] at hown hal2
    have HQ := Lib.hid hq
    have HACC := Lib.hid hacc
    have hsu : w3.heap.size ≤ uu.heap.size := hbz.size
    obtain ⟨A4, c4, rfl⟩ := own_form hown
    by_cases hlt : i < m
    · obtain ⟨ch, hch⟩ : ∃ ch, cs[i]? = some ch := ⟨_, List.getElem?_eq_getElem (by rw [HM.out]; omega)⟩
      have hst := C.chF_succ hch
      rw [← hacc] at hst
      have HST := Lib.hid hst
      obtain ⟨g, o, rfl, hlg, hcc, _⟩ := HS3.out.ints hch
      rw [← (bcell hbz).1 _ _ hlg] at hcc
      have n0 : (0 : Int) ≤ (i : Int) := by omega
      have n1 : (i : Int) < m := by omega
      clear hst hch hacc hq
      rcases hic : C.isC ch with _ | _
      · have HNO := Lib.hid (C.step_no (acc := acc) (b := ch + 1) hic)
        have HIC := Lib.hid hic
        clear hic
        go_wp2_with (go_at_call 49; refine (C.utfis_any _ _).mono ?_; rw [HIC.out]; rintro e w' ⟨rfl, rfl⟩)
        refine ⟨⟨i + 1, acc, by omega, by go_num, by rw [HST.out, HNO.out], by rw [HQ.out]; omega, by rw [HQ.out]; exact hown, hbz⟩, by simp [intOf]; omega⟩
      · have hb0 : 0 ≤ ch ∧ ch ≤ 1114111 := by simp [C.isC] at hic; omega
        obtain ⟨ch1, ch2⟩ := hb0
        have HIC := Lib.hid hic
        rcases Nat.eq_zero_or_pos q with hz | hz
        · subst hz
          have HNEW := Lib.hid (C.step_new (p := C.isC) (acc := acc) (b := ch + 1) hic (by rw [List.eq_nil_of_length_eq_zero HQ.out]; simp))
          clear hic
          have hZ := Lib.hid (Sl.lit (w := uu.alloc (.cells #[.int .i32 ch, .int .i32 (ch + 1)] 21)) (A := some ⟨uu.heap.size, 0, none⟩) (xs := [.int .i32 ch, .int .i32 (ch + 1)]) rfl 21 (0, 0) (heap_alloc_new uu _))
          have hown2 := Lib.hid (own_below hown ((Below.refl _ _).alloc (Nat.le_refl _) (.cells #[.int .i32 ch, .int .i32 (ch + 1)] 21)) (Nat.le_refl _))
          have hs2 : w3.heap.size ≤ (uu.alloc (.cells #[.int .i32 ch, .int .i32 (ch + 1)] 21)).heap.size := by simp; omega
          have hsu2 : w3.heap.size ≤ uu.heap.size := hsu
          go_wp2_with (first | (go_at_call 49; refine (C.utfis_any _ _).mono ?_; rw [HIC.out]; rintro e w' ⟨rfl, rfl⟩) | (at_builtin; refine wpList_appendSl _ rfl _ _ _ rfl w3.heap.size 21 j0 _ 1 4 Tryz.underlying36 hj0 hy0 hy1 hy2 rfl (by omega) _ 0 _ rfl hown2.out _ (some ⟨uu.heap.size, 0, none⟩) 2 2 [.int .i32 ch, .int .i32 (ch + 1)] rfl rfl hZ.out (by simp [Value.oneCell']) (by simp only [maxLen]; omega) (by omega) hs2 ?_; intro v1 w5 hown3 hb2 hgrow))
          refine ⟨⟨i + 1, acc ++ [ch, ch + 1], by omega, by go_num, by rw [HST.out, HNEW.out], by rw [List.length_append, HQ.out]; simp; omega, ?_, (hbz.alloc hsu2 _).trans hb2⟩, by simp [intOf]; omega⟩
          rw [List.length_append, HQ.out, List.map_append]
          exact hown3
        · obtain ⟨k, rfl⟩ : ∃ k, q = k + 1 := ⟨q - 1, by omega⟩
          obtain ⟨e0, he0⟩ : ∃ e0, acc[k]? = some e0 := ⟨_, List.getElem?_eq_getElem (by rw [HQ.out]; omega)⟩
          have hlast : acc.getLast? = some e0 := by rw [List.getLast?_eq_getElem?, HQ.out]; exact he0
          obtain ⟨g7, o7, rfl, hlb, hc0, _⟩ := (Sl.of_own hown).ints he0
          obtain ⟨rfl, hgb, hgl, hfz⟩ := own_zero hown
          simp only [Nat.zero_add] at hc0
          have hz1 := hfz k
          have q0 : (0 : Int) ≤ (k : Int) := by omega
          have qb : (k : Int) ≤ 1000000 := by omega
          have HE0 := Lib.hid he0
          have HLAST := Lib.hid hlast
          clear hfz he0 hlast
          by_cases hea : e0 = ch
          · subst hea
            have HSL := Lib.hid (C.step_last (b := e0 + 1) hic HQ.out HE0.out)
            have hset := own_set hown (j := k) (by rw [List.length_map, HQ.out]; omega) (.int .i32 (e0 + 1))
            have HSET := Lib.hid hset
            clear hic hset
            go_wp2_with (go_at_call 49; refine (C.utfis_any _ _).mono ?_; rw [HIC.out]; rintro e w' ⟨rfl, rfl⟩)
            refine ⟨⟨i + 1, acc.set k (e0 + 1), by omega, by go_num, by rw [HST.out, HSL.out], by rw [List.length_set, HQ.out]; omega, ?_, hbz.setCell (by show w3.heap.size ≤ g7; omega) _⟩, by simp [intOf]; omega⟩
            rw [List.length_set, HQ.out, List.map_set]
            exact HSET.out
          · have hd : (e0 == ch) = false := by simp; exact hea
            have HNEW := Lib.hid (C.step_new (p := C.isC) (acc := acc) (b := ch + 1) hic (by rw [HLAST.out]; intro h; exact hea (by simpa using h)))
            clear hic
            have hZ := Lib.hid (Sl.lit (w := uu.alloc (.cells #[.int .i32 ch, .int .i32 (ch + 1)] 21)) (A := some ⟨uu.heap.size, 0, none⟩) (xs := [.int .i32 ch, .int .i32 (ch + 1)]) rfl 21 (0, 0) (heap_alloc_new uu _))
            have hown2 := Lib.hid (own_below hown ((Below.refl _ _).alloc (Nat.le_refl _) (.cells #[.int .i32 ch, .int .i32 (ch + 1)] 21)) (Nat.le_refl _))
            have hs2 : w3.heap.size ≤ (uu.alloc (.cells #[.int .i32 ch, .int .i32 (ch + 1)] 21)).heap.size := by simp; omega
            have hsu2 : w3.heap.size ≤ uu.heap.size := hsu
            go_wp2_with (first | (go_at_call 49; refine (C.utfis_any _ _).mono ?_; rw [HIC.out]; rintro e w' ⟨rfl, rfl⟩) | (at_builtin; refine wpList_appendSl _ rfl _ _ _ rfl w3.heap.size 21 j0 _ 1 4 Tryz.underlying36 hj0 hy0 hy1 hy2 rfl (by omega) _ (k + 1) _ rfl hown2.out _ (some ⟨uu.heap.size, 0, none⟩) 2 2 [.int .i32 ch, .int .i32 (ch + 1)] rfl rfl hZ.out (by simp [Value.oneCell']) (by simp only [maxLen]; omega) (by omega) hs2 ?_; intro v1 w5 hown3 hb2 hgrow))
            refine ⟨⟨i + 1, acc ++ [ch, ch + 1], by omega, by go_num, by rw [HST.out, HNEW.out], by rw [List.length_append, HQ.out]; simp; omega, ?_, (hbz.alloc hsu2 _).trans hb2⟩, by simp [intOf]; omega⟩
            rw [List.length_append, HQ.out, List.map_append]
            exact hown3
    · obtain rfl : i = m := by omega
      have hfin : acc = C.chF cs [] := by rw [hacc, List.take_of_length_le (by rw [HM.out]; exact Nat.le_refl _)]
      have hbu := hb03.trans (hbz.mono (Nat.le_trans hb1.size (Nat.le_trans hb2.size hb3.size)))
      have hblk := (hbu.block w.heap.size (by omega)).trans (heap_alloc_new w _)
      obtain ⟨hrc, hrf⟩ := blk_cell hblk 0
      simp only [List.getElem?_toArray, List.getElem?_cons_zero] at hrc
      have HBLK := Lib.hid hblk
      have hsz3 : w.heap.size < w3.heap.size := by have := hb03.size; omega
      have HFIN := Lib.hid hfin
      clear hblk hacc hfin hq
      go_wp2
      have hb2' := set_cell (v := .slice A4 q c4) HBLK.out
      refine bodyPost_ret (results_cell_row rfl _ _ w.heap.size _ _ _ _ rfl hb2' Tryz.underlying41 rfl (by kernel_rfl)) rfl ?_
      refine ⟨A4, c4, by rw [← HFIN.out, HQ.out], ?_, (hal.trans (hbu.mono (by omega))).setCell (by simp) _⟩
      rw [← HFIN.out, HQ.out]
      exact own_base (ownsRow_setCell_below hown (by omega) _) (by omega)
end Go.Proofs.YtkmfegamblmpeaaGreatDoor
