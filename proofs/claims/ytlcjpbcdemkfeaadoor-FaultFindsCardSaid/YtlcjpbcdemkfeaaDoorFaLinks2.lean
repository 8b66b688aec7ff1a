/- The laws' own helpers over links: Chain, same, by walking their texts. -/
import Derived.Test.YtlcjpbcdemkfeaaDoorFaLinks
import Derived.RegionTactic
import Derived.BigRegion
namespace Go.Proofs.YtlcjpbcdemkfeaaDoor
open Go.RowKit Go.Stop
set_option linter.unusedSimpArgs false
set_option linter.unusedVariables false

set_option maxRecDepth 100000 in
set_option maxHeartbeats 4000000 in
theorem F.mkchain_any (A : Option Addr) (cap N B : Nat) (l : List (Int × Int × ByteArray)) (w : World) (hl : l.length = N) (hN : N ≤ 1000) (hB : B ≤ w.heap.size) (hA : Sl w B A (F.fl l)) :
    Calls Tryd.prog 10 #[.slice A N cap] w (F.RetCh l w) := by
  have HN := Lib.hid hl
  have HA := Lib.hid hA
  clear hl hA
  go_enter Tryd.func10, Tryd.ntmps10
  go_wp2
  go_loopw [3, 4] (fun ve vi wr => ∃ (k : Nat) (q : List (Nat × Int × Int × ByteArray)), k ≤ N ∧ vi = .int .i64 ((k : Int) - 1) ∧ F.lk q = l.drop k ∧ F.Ch wr wr.heap.size q ve ∧ Below w.heap.size w wr) (fun _ vi _ => (intOf vi + 1).toNat)
  case atStart => exact ⟨N, [], Nat.le_refl _, by first | rfl | (simp; done), by rw [List.drop_eq_nil_of_le (by rw [HN.out]; exact Nat.le_refl _)]; rfl, rfl, Below.refl _ _⟩
  case round =>
    obtain ⟨k, q, hk, rfl, hq, hch, hbr⟩ := hrel
    obtain ⟨w1, rfl⟩ : ∃ w1 : World, w1 = wr := ⟨_, rfl⟩
    have hs1 := hbr.size
    rcases Nat.eq_zero_or_pos k with h0 | hp
    · subst h0
      rw [List.drop_zero] at hq
      have HQ := Lib.hid hq
      have HC := Lib.hid hch
      clear hq hch
      go_wp2
      go_ret
      exact ⟨q, _, rfl, HQ.out, HC.out, hbr⟩
    · obtain ⟨j, rfl⟩ : ∃ j, k = j + 1 := ⟨k - 1, by omega⟩
      obtain ⟨⟨c, n, s⟩, hx⟩ : ∃ x, l[j]? = some x := ⟨_, List.getElem?_eq_getElem (by rw [HN.out]; omega)⟩
      have hdr : l.drop j = (c, n, s) :: l.drop (j + 1) := by
        obtain ⟨hlt, he⟩ := List.getElem?_eq_some_iff.1 hx
        rw [List.drop_eq_getElem_cons hlt, he]
      obtain ⟨b, o, rfl, hb, c0, c1, c2⟩ := F.link HA.out hx
      rw [← (bcell hbr).1 _ _ (by omega)] at c0 c1 c2
      rw [show (((j + 1 : Nat) : Int) - 1) = (j : Int) by omega]
      have n0 : (0 : Int) ≤ (j : Int) := by omega
      have n1 : (j : Int) < N := by omega
      have HQ := Lib.hid hq
      have HDR := Lib.hid hdr
      have HBR := Lib.hid hbr
      clear hq hdr hx hbr
      rcases q with _ | ⟨⟨b', c', n', s'⟩, t⟩
      · obtain rfl := hch
        go_wp2_with fail
        go_region
        all_goals
          go_wp2_with fail
          have hal : Below w1.heap.size w1 ((w1.alloc (.cells #[.int .i64 c, .int .i64 n, .string s, .nilIface] 44)).drew) := ((Below.refl _ _).alloc (Nat.le_refl _) _).drew
          have hn : ((w1.alloc (.cells #[.int .i64 c, .int .i64 n, .string s, .nilIface] 44)).drew).heap[w1.heap.size]? = some (.cells #[.int .i64 c, .int .i64 n, .string s, .nilIface] 44 (0, 0)) := heap_alloc_new w1 _
          exact ⟨⟨j, [(w1.heap.size, c, n, s)], by omega, rfl, by rw [HDR.out, ← HQ.out]; rfl, ⟨rfl, by simp, _, hn, rfl⟩, HBR.out.trans (hal.mono hs1)⟩, by (simp [intOf]; try omega)⟩
      · have HCH := Lib.hid hch
        obtain ⟨rfl, hb', e', hbl', hch'⟩ := hch
        clear hch' hbl'
        go_wp2_with fail
        go_region
        all_goals
          go_wp2_with fail
          have hal : Below w1.heap.size w1 ((w1.alloc (.cells #[.int .i64 c, .int .i64 n, .string s, .iface 42 (.pointer (some ⟨b', 0, none⟩))] 44)).drew) := ((Below.refl _ _).alloc (Nat.le_refl _) _).drew
          have hn : ((w1.alloc (.cells #[.int .i64 c, .int .i64 n, .string s, .iface 42 (.pointer (some ⟨b', 0, none⟩))] 44)).drew).heap[w1.heap.size]? = some (.cells #[.int .i64 c, .int .i64 n, .string s, .iface 42 (.pointer (some ⟨b', 0, none⟩))] 44 (0, 0)) := heap_alloc_new w1 _
          exact ⟨⟨j, (w1.heap.size, c, n, s) :: (b', c', n', s') :: t, by omega, rfl, by rw [HDR.out, ← HQ.out]; rfl, ⟨rfl, by simp, _, hn, HCH.out.below hal (Nat.le_refl _) hal.size⟩, HBR.out.trans (hal.mono hs1)⟩, by (simp [intOf]; try omega)⟩

set_option maxRecDepth 100000 in
set_option maxHeartbeats 4000000 in
theorem F.same_any (A A' : Option Addr) (c c' n B : Nat) (xs : List ByteArray) (w : World) (hn : xs.length = n) (hN : n ≤ 1000000) (hA : Sl w B A (xs.map Value.string)) (hA' : Sl w B A' (xs.map Value.string)) :
    Calls Tryd.prog 18 #[.slice A n c, .slice A' n c'] w fun e w' => e = .returned (.bool true) ∧ Below w.heap.size w w' := by
  have HN := Lib.hid hn
  have HA := Lib.hid hA
  have HA' := Lib.hid hA'
  clear hn hA hA'
  go_enter Tryd.func18, Tryd.ntmps18
  go_wp2
  go_loopw [13] (fun vi wr => ∃ i : Nat, i ≤ n ∧ vi = .int .i64 i ∧ Below w.heap.size w wr ∧ (∀ a, wr.cell? a = w.cell? a)) (fun vi _ => n - (intOf vi).toNat)
  case atStart => exact ⟨0, by omega, rfl, Below.refl _ _, fun _ => rfl⟩
  case round =>
    obtain ⟨i, hi, rfl, hbr, hce⟩ := hrel
    obtain ⟨w1, rfl⟩ : ∃ w1 : World, w1 = wr := ⟨_, rfl⟩
    have HBR := Lib.hid hbr
    have HCE := Lib.hid hce
    clear hbr hce
    by_cases hlt : (i : Int) < n
    · obtain ⟨s, hx⟩ : ∃ s, xs[i]? = some s := ⟨_, List.getElem?_eq_getElem (by rw [HN.out]; omega)⟩
      obtain ⟨g, o, rfl, hg, hcell⟩ := HA.out (by rw [List.length_map, HN.out]; omega)
      have hc := hcell i (by rw [List.length_map, HN.out]; omega)
      rw [List.getElem?_map, hx, ← HCE.out] at hc
      obtain ⟨g', o', rfl, hg', hcell'⟩ := HA'.out (by rw [List.length_map, HN.out]; omega)
      have hc' := hcell' i (by rw [List.length_map, HN.out]; omega)
      rw [List.getElem?_map, hx, ← HCE.out] at hc'
      simp only [Option.map_some] at hc hc'
      have n0 : (0 : Int) ≤ (i : Int) := by omega
      clear hcell hcell' hx
      go_wp2_with fail
      go_region
      all_goals
        go_wp2_with fail
        exact ⟨⟨i + 1, by omega, by go_num, HBR.out.drew, fun a => HCE.out a⟩, by simp [intOf]; omega⟩
    · obtain rfl : i = n := by omega
      go_wp2
      go_ret
      exact ⟨rfl, HBR.out⟩
end Go.Proofs.YtlcjpbcdemkfeaaDoor
