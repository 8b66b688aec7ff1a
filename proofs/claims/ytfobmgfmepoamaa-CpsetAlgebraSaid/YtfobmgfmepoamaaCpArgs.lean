/- The law's ranges: Few, Right, Own, Set, by walking their texts. -/
import Derived.Test.YtfobmgfmepoamaaCpOf
namespace Go.Proofs.Ytfobmgfmepoamaa
open Go.RowKit
set_option linter.unusedSimpArgs false
set_option linter.unusedVariables false

theorem infoPair : (Try.prog.info? 42).map (fun i => (i.zero, i.size, i.bytes)) = some (some (.agg #[.int .i64 0, .int .i64 0]), 2, 16) := by kernel_rfl

def RetPairs (k : IntKind) (t : TypeId) (rs : List (Int × Int)) (w : World) (e : Ending) (w' : World) : Prop :=
  ∃ A c, e = .returned (.slice A rs.length c) ∧ w'.ownsRow w.heap.size t 2 (.slice A rs.length c) rs.length (C.fl k rs) ∧ Below w.heap.size w w'

theorem C.fl_take (k : IntKind) : ∀ (rs : List (Int × Int)) (m : Nat), (C.fl k rs).take (2 * m) = C.fl k (rs.take m)
  | [], m => by simp [C.fl]
  | (x, y) :: t, 0 => rfl
  | (x, y) :: t, m + 1 => by
    rw [show 2 * (m + 1) = 2 * m + 1 + 1 by omega]
    show _ :: _ :: (C.fl k t).take (2 * m) = _
    rw [C.fl_take k t m]; rfl
theorem Sl.take {w : World} {B : Nat} {A : Option Addr} {xs : List Value} (h : Sl w B A xs) (m : Nat) : Sl w B A (xs.take m) := by
  intro hx
  rw [List.length_take] at hx
  obtain ⟨b, o, hA, hb, hc⟩ := h (by omega)
  refine ⟨b, o, hA, hb, fun i hi => ?_⟩
  rw [List.length_take] at hi
  rw [hc i (by omega), List.getElem?_take, if_pos (by omega)]
theorem C.fl_one (k : IntKind) : ∀ rs, ∀ u ∈ C.fl k rs, u.oneCell' = true
  | [], u, h => by cases h
  | (x, y) :: t, u, h => by
    rcases List.mem_cons.1 h with rfl | h
    · rfl
    · rcases List.mem_cons.1 h with rfl | h
      · rfl
      · exact C.fl_one k t u h

set_option maxRecDepth 100000 in
set_option maxHeartbeats 1000000 in
theorem C.few_any (A : Option Addr) (len cap B : Nat) (rs : List (Int × Int)) (w : World) (hl : rs.length = len) (hc : len ≤ cap) (hcap : cap ≤ maxLen) (hB : B ≤ w.heap.size) (hA : Sl w B A (C.fl .i64 rs)) :
    Calls Try.prog 19 #[.slice A len cap] w (RetPairs .i64 42 (rs.take 12) w) := by
  have HL := Lib.hid hl
  clear hl
  simp only [maxLen] at hcap
  obtain ⟨j0, hj0, hy0, hy1, hy2⟩ := info_parts infoPair
  have hown0 : (w.alloc (.cells #[] 42)).ownsRow w.heap.size 42 2 (.slice (some ⟨w.heap.size, 0, none⟩) 0 0) 0 [] := ⟨rfl, .inr ⟨w.heap.size, 0, #[], rfl, Nat.le_refl _, heap_alloc_new w _, Nat.le_refl _, by decide, rfl, rfl⟩⟩
  have hal : Below w.heap.size w (w.alloc (.cells #[] 42)) := (Below.refl _ _).alloc (Nat.le_refl _) _
  have hS := Lib.hid (hA.belowN hal hB (Nat.le_refl _))
  go_enter Try.func19, Try.ntmps19
  by_cases hlt : (12 : Int) < len
  · have h12 : (12 : Int) ≤ cap := by omega
    have hS2 := Lib.hid (hS.out.take (2 * 12))
    have e12 : (rs.take 12).length = 12 := by rw [List.length_take, HL.out]; omega
    have E12 := Lib.hid e12
    clear e12
    go_wp2_with (at_builtin; refine wpList_appendSl _ rfl _ _ _ rfl w.heap.size 42 j0 _ 2 16 Try.underlying22 hj0 hy0 hy1 hy2 rfl (by omega) _ 0 _ rfl hown0 _ A 12 cap (C.fl .i64 (rs.take 12)) rfl (by rw [C.fl_len, E12.out]) (by rw [← C.fl_take]; exact hS2.out) (C.fl_one _ _) (by simp only [maxLen]; omega) (by omega) (by simp) ?_; intro v1 w2 hown2 hb2 _)
    obtain ⟨A5, c5, rfl⟩ := own_form hown2
    go_wp2
    go_ret
    refine ⟨A5, c5, by rw [E12.out]; rfl, by rw [E12.out]; exact hown2, hal.trans hb2⟩
  · have ef : rs.take 12 = rs := List.take_of_length_le (by rw [HL.out]; omega)
    rw [ef]
    clear ef
    go_wp2_with (at_builtin; refine wpList_appendSl _ rfl _ _ _ rfl w.heap.size 42 j0 _ 2 16 Try.underlying22 hj0 hy0 hy1 hy2 rfl (by omega) _ 0 _ rfl hown0 _ A len cap (C.fl .i64 rs) rfl (by rw [C.fl_len, HL.out]; omega) hS.out (C.fl_one _ _) (by simp only [maxLen]; omega) (by omega) (by simp) ?_; intro v1 w2 hown2 hb2 _)
    obtain ⟨A5, c5, rfl⟩ := own_form hown2
    go_wp2
    go_ret
    have e0 : 0 + len = rs.length := by rw [HL.out]; omega
    rw [e0] at hown2
    exact ⟨A5, c5, by rw [← e0]; rfl, hown2, hal.trans hb2⟩

set_option maxRecDepth 100000 in
set_option maxHeartbeats 1000000 in
theorem C.own_any (A : Option Addr) (cap m B : Nat) (rs : List (Int × Int)) (w : World) (hl : rs.length = m) (hm : m ≤ 1000000) (hbd : ∀ r ∈ rs, (-2147483648 ≤ r.1 ∧ r.1 ≤ 2147483647) ∧ -2147483648 ≤ r.2 ∧ r.2 ≤ 2147483647) (hB : B ≤ w.heap.size) (hA : Sl w B A (C.fl .i64 rs)) :
    Calls Try.prog 20 #[.slice A m cap] w (RetPairs .i32 32 rs w) := by
  have HL := Lib.hid hl
  have HBD := Lib.hid hbd
  clear hl hbd
  obtain ⟨j0, hj0, hy0, hy1, hy2⟩ := info_parts infoRange
  go_enter Try.func20, Try.ntmps20
  go_wp2
  go_loopw [8, 3] (fun vi v wr => ∃ i : Nat, i ≤ m ∧ vi = .int .i64 i ∧ wr.ownsRow w.heap.size 32 2 v i (C.fl .i32 (rs.take i)) ∧ Below w.heap.size w wr) (fun vi _ _ => m - (intOf vi).toNat)
  case atStart => exact ⟨0, by omega, rfl, World.ownsRow_nil _ _ _ _, Below.refl _ _⟩
  case round =>
    obtain ⟨i, hi, rfl, hown, hbel⟩ := hrel
    have hsz : w.heap.size ≤ wr.heap.size := hbel.size
    by_cases hlt : (i : Int) < m
    · obtain ⟨r, hr⟩ : ∃ r, rs[i]? = some r := ⟨_, List.getElem?_eq_getElem (by rw [HL.out]; omega)⟩
      obtain ⟨b, o, rfl, hlb, hc0, hc1⟩ := hA.pair hr
      rw [← (bcell hbel).1 _ _ (by omega)] at hc0 hc1
      obtain ⟨⟨r1, r2⟩, r3, r4⟩ := HBD.out r (List.mem_of_getElem? hr)
      have HR := Lib.hid hr
      have hn0 : (0 : Int) ≤ (i : Int) := by omega
      have hba : Below wr.heap.size wr (wr.alloc (.cells #[.int .i64 r.1, .int .i64 r.2] 42)) := (Below.refl _ _).alloc (Nat.le_refl _) _
      have hbb := hba.alloc (by simp) (.cells #[.int .i32 r.1, .int .i32 r.2] 32)
      have hown' := Lib.hid (own_below hown hbb (Nat.le_refl _))
      have hnew := Lib.hid (Sl.lit (w := (wr.alloc (.cells #[.int .i64 r.1, .int .i64 r.2] 42)).alloc (.cells #[.int .i32 r.1, .int .i32 r.2] 32)) (A := some ⟨wr.heap.size + 1, 0, none⟩) (xs := [.int .i32 r.1, .int .i32 r.2]) rfl 32 (0, 0) (by
        have h := heap_alloc_new (wr.alloc (.cells #[.int .i64 r.1, .int .i64 r.2] 42)) (.cells #[.int .i32 r.1, .int .i32 r.2] 32)
        rwa [show (wr.alloc (.cells #[.int .i64 r.1, .int .i64 r.2] 42)).heap.size = wr.heap.size + 1 by simp] at h))
      have hs3 := Nat.le_trans hsz hbb.size
      have ew1 : IntKind.i32.wrap r.1 = r.1 := by rw [IntKind.wrap_i32]; omega
      have ew2 : IntKind.i32.wrap r.2 = r.2 := by rw [IntKind.wrap_i32]; omega
      clear hr
      go_wp2_with (at_builtin; refine wpList_appendSl _ rfl _ _ _ rfl w.heap.size 32 j0 _ 2 8 Try.underlying29 hj0 hy0 hy1 hy2 rfl (by omega) _ i _ rfl hown'.out _ (some ⟨wr.heap.size + 1, 0, none⟩) 1 1 [.int .i32 r.1, .int .i32 r.2] rfl rfl hnew.out (by simp [Value.oneCell']) (by simp only [maxLen]; omega) (by omega) hs3 ?_; intro v1 w2 hown2 hb2 hgrow)
      refine ⟨⟨i + 1, by omega, by go_num, ?_, hbel.trans ((hbb.mono hsz).trans hb2)⟩, by simp [intOf]; omega⟩
      rw [List.take_add_one, HR.out, C.fl_app]
      exact hown2
    · obtain rfl : i = m := by omega
      have e0 : rs.take i = rs := List.take_of_length_le (by rw [HL.out]; omega)
      rw [e0] at hown
      clear e0
      obtain ⟨A5, c5, rfl⟩ := own_form hown
      go_wp2
      go_ret
      exact ⟨A5, c5, by rw [HL.out]; rfl, by rw [HL.out]; exact hown, hbel⟩
end Go.Proofs.Ytfobmgfmepoamaa
