/- The document's answers for the layer fault: Code, Line, Notes of links; a number's digits. -/
import Derived.Test.YtlcjpbcdemkfeaaDoorFaText
namespace Go.Proofs.YtlcjpbcdemkfeaaDoor
open Go.RowKit Go.Stop
set_option linter.unusedSimpArgs false
set_option linter.unusedVariables false

theorem infoLink : (Tryd.prog.info? 32).map (fun i => (i.zero, i.size, i.bytes)) = some (some (.agg #[.int .i64 0, .int .i64 0, .string ⟨#[]⟩]), 3, 32) := by kernel_rfl
/-- Links, cell by cell. -/
def F.fl : List (Int × Int × ByteArray) → List Value
  | [] => []
  | (c, n, s) :: t => .int .i64 c :: .int .i64 n :: .string s :: F.fl t
theorem F.fl_len : ∀ l, (F.fl l).length = 3 * l.length
  | [] => rfl
  | (c, n, s) :: t => by show (F.fl t).length + 1 + 1 + 1 = 3 * (t.length + 1); rw [F.fl_len t]; omega
theorem F.fl_app : ∀ a b, F.fl (a ++ b) = F.fl a ++ F.fl b
  | [], b => rfl
  | (c, n, s) :: t, b => by show _ :: _ :: _ :: F.fl (t ++ b) = _; rw [F.fl_app t b]; rfl
theorem F.fl_get : ∀ (l : List (Int × Int × ByteArray)) (i : Nat) (c n : Int) (s : ByteArray), l[i]? = some (c, n, s) → (F.fl l)[3 * i]? = some (.int .i64 c) ∧ (F.fl l)[3 * i + 1]? = some (.int .i64 n) ∧ (F.fl l)[3 * i + 2]? = some (.string s)
  | [], i, c, n, s, h => by simp at h
  | (c', n', s') :: t, 0, c, n, s, h => by simp at h; obtain ⟨rfl, rfl, rfl⟩ := h; exact ⟨rfl, rfl, rfl⟩
  | (c', n', s') :: t, i + 1, c, n, s, h => by
    have := F.fl_get t i c n s (by simpa using h)
    rw [show 3 * (i + 1) = 3 * i + 1 + 1 + 1 by omega]
    exact this
theorem F.fl_one : ∀ l, ∀ u ∈ F.fl l, u.oneCell' = true
  | [], u, h => by simp [F.fl] at h
  | (c, n, s) :: t, u, h => by
    simp only [F.fl, List.mem_cons] at h
    rcases h with rfl | rfl | rfl | h
    · rfl
    · rfl
    · rfl
    · exact F.fl_one t u h
theorem F.link {w : World} {B : Nat} {A : Option Addr} {l : List (Int × Int × ByteArray)} (h : Sl w B A (F.fl l)) {i : Nat} {c n : Int} {s : ByteArray} (hr : l[i]? = some (c, n, s)) :
    ∃ b o, A = some ⟨b, o, none⟩ ∧ b < B ∧ w.cell? ⟨b, o + i * 3, none⟩ = some (.int .i64 c) ∧ w.cell? ⟨b, o + i * 3 + 1, none⟩ = some (.int .i64 n) ∧ w.cell? ⟨b, o + i * 3 + 2, none⟩ = some (.string s) := by
  have hi : i < l.length := (List.getElem?_eq_some_iff.1 hr).1
  obtain ⟨b, o, hA, hb, hc⟩ := h (by rw [F.fl_len]; omega)
  obtain ⟨h0, h1, h2⟩ := F.fl_get l i c n s hr
  refine ⟨b, o, hA, hb, ?_, ?_, ?_⟩
  · rw [Nat.mul_comm, hc _ (by rw [F.fl_len]; omega), h0]
  · rw [Nat.mul_comm, Nat.add_assoc, hc _ (by rw [F.fl_len]; omega), h1]
  · rw [Nat.mul_comm, Nat.add_assoc, hc _ (by rw [F.fl_len]; omega), h2]

set_option maxRecDepth 100000 in
set_option maxHeartbeats 1000000 in
theorem F.rcode_any (A : Option Addr) (cap m B : Nat) (l : List (Int × Int × ByteArray)) (w : World) (hl : l.length = m) (hA : Sl w B A (F.fl l)) :
    Calls Tryd.prog 12 #[.slice A m cap] w fun e w' => e = .returned (.int .i64 (F.code l)) ∧ w = w' := by
  rcases l with _ | ⟨⟨c, n, s⟩, t⟩
  · obtain rfl : m = 0 := hl.symm
    go_enter Tryd.func12, Tryd.ntmps12
    go_wp2
    go_ret
    exact ⟨rfl, rfl⟩
  · obtain ⟨b, o, rfl, hb, c0, c1, c2⟩ := F.link hA (i := 0) (c := c) (n := n) (s := s) rfl
    simp only [Nat.zero_mul, Nat.add_zero] at c0
    have hm : (0 : Int) < m := by rw [List.length_cons] at hl; omega
    have hm0 : ¬ (m : Int) = 0 := by omega
    clear hA hl c1 c2
    go_enter Tryd.func12, Tryd.ntmps12
    go_wp2
    go_ret
    exact ⟨rfl, rfl⟩

set_option maxRecDepth 100000 in
set_option maxHeartbeats 2000000 in
theorem F.rline_any (A : Option Addr) (cap m B : Nat) (l : List (Int × Int × ByteArray)) (w : World) (hl : l.length = m) (hm : m ≤ 1000000) (hB : B ≤ w.heap.size) (hA : Sl w B A (F.fl l)) :
    Calls Tryd.prog 17 #[.slice A m cap] w fun e w' => e = .returned (.int .i64 (F.line l)) ∧ Below w.heap.size w w' := by
  have HN := Lib.hid hl
  have HA := Lib.hid hA
  obtain ⟨lv, hlv⟩ : ∃ lv, F.line l = lv := ⟨_, rfl⟩
  rw [hlv]
  have HLV := Lib.hid hlv
  clear hl hlv hA
  go_enter Tryd.func17, Tryd.ntmps17
  go_wp2
  go_loopw [7] (fun vi wr => ∃ i : Nat, i ≤ m ∧ vi = .int .i64 i ∧ F.line (l.drop i) = lv ∧ Below w.heap.size w wr) (fun vi _ => m - (intOf vi).toNat)
  case atStart => exact ⟨0, by omega, rfl, by rw [List.drop_zero]; exact HLV.out, Below.refl _ _⟩
  case round =>
    obtain ⟨i, hi, rfl, hl, hbr⟩ := hrel
    obtain ⟨w1, rfl⟩ : ∃ w1 : World, w1 = wr := ⟨_, rfl⟩
    have hs1 := hbr.size
    by_cases hlt : (i : Int) < m
    · obtain ⟨⟨c, n, s⟩, hx⟩ : ∃ x, l[i]? = some x := ⟨_, List.getElem?_eq_getElem (by rw [HN.out]; omega)⟩
      have hd := F.line_drop hx
      rw [hl] at hd
      obtain ⟨b, o, rfl, hb, c0, c1, c2⟩ := F.link HA.out hx
      rw [← (bcell hbr).1 _ _ (by omega)] at c0 c1 c2
      have n0 : (0 : Int) ≤ (i : Int) := by omega
      have hal := hbr.alloc hs1 (.cells #[.int .i64 c, .int .i64 n, .string s] 32)
      have HAL := Lib.hid hal
      simp only at hd
      by_cases hn : n = 0
      · rw [if_pos hn] at hd
        have HD := Lib.hid hd
        subst hn
        clear hd hx hl hal hbr
        go_wp2
        exact ⟨⟨i + 1, by omega, by go_num, HD.out.symm, HAL.out⟩, by simp [intOf]; omega⟩
      · rw [if_neg hn] at hd
        have HD := Lib.hid hd
        clear hd hx hl hal hbr
        go_wp2
        go_ret
        exact ⟨by rw [HD.out]; rfl, HAL.out⟩
    · obtain rfl : i = m := by omega
      have h0 : lv = 0 := by
        rw [← hl, List.drop_eq_nil_of_le (by rw [HN.out]; exact Nat.le_refl _)]; rfl
      have H0 := Lib.hid h0
      clear hl h0
      go_wp2
      go_ret
      exact ⟨by rw [H0.out]; rfl, hbr⟩

theorem F.own_empty (w : World) (e : TypeId) (size : Nat) : (w.alloc (.cells #[] e)).ownsRow w.heap.size e size (.slice (some ⟨w.heap.size, 0, none⟩) 0 0) 0 [] :=
  ⟨by simp, .inr ⟨w.heap.size, 0, #[], rfl, Nat.le_refl _, heap_alloc_new w _, Nat.le_refl _, by simp, by simp, by simp⟩⟩

set_option maxRecDepth 100000 in
set_option maxHeartbeats 2000000 in
theorem F.rnotes_any (A : Option Addr) (cap N B : Nat) (l : List (Int × Int × ByteArray)) (w : World) (hl : l.length = N) (hlen : N ≤ 1000000) (hB : B ≤ w.heap.size) (hA : Sl w B A (F.fl l)) :
    Calls Tryd.prog 20 #[.slice A N cap] w (F.RetStrs (F.notes l) w) := by
  obtain ⟨j0, hj0, hy0, hy1, hy2⟩ := info_parts infoStr
  have HN := Lib.hid hl
  have hal0 : Below w.heap.size w (w.alloc (.cells #[] 9)) := (Below.refl _ _).alloc (Nat.le_refl _) _
  have HA := Lib.hid hA
  have HE := Lib.hid (F.own_empty w 9 1)
  have HB0 := Lib.hid hal0
  obtain ⟨w0, hw0⟩ : ∃ w0, w.alloc (.cells #[] 9) = w0 := ⟨_, rfl⟩
  rw [hw0] at HE HB0
  have HW0 := Lib.hid hw0
  have hs0 := HB0.out.size
  clear hl hA hal0 hw0
  go_enter Tryd.func20, Tryd.ntmps20
  go_wp2
  rw [HW0.out]
  go_loopw [9, 3] (fun vi vo wr => ∃ (i : Nat) (acc : List ByteArray) (m : Nat), i ≤ N ∧ vi = .int .i64 i ∧ acc = F.notes (l.take i) ∧ acc.length = m ∧ m ≤ i ∧ wr.ownsRow w.heap.size 9 1 vo m (acc.map Value.string) ∧ Below w.heap.size w wr) (fun vi _ _ => N - (intOf vi).toNat)
  case atStart => exact ⟨0, [], 0, by omega, rfl, rfl, rfl, Nat.le_refl _, HE.out, HB0.out⟩
  case round =>
    obtain ⟨i, acc, m, hi, rfl, hacc, hm, hmi, hown, hbr⟩ := hrel
    obtain ⟨w2, rfl⟩ : ∃ w2 : World, w2 = wr := ⟨_, rfl⟩
    obtain ⟨A2, c2, rfl⟩ := own_form hown
    have hs2 := hbr.size
    have HACC := Lib.hid hacc
    have HM := Lib.hid hm
    clear hacc hm
    by_cases hlt : (i : Int) < N
    · obtain ⟨⟨c, n, s⟩, hx⟩ : ∃ x, l[i]? = some x := ⟨_, List.getElem?_eq_getElem (by rw [HN.out]; omega)⟩
      have htk : F.notes (l.take (i + 1)) = acc ++ F.notes [(c, n, s)] := by rw [List.take_add_one, hx, F.notes_app, ← HACC.out]; rfl
      obtain ⟨g, o, rfl, hg, d0, d1, d2⟩ := F.link HA.out hx
      rw [← (bcell hbr).1 _ _ (by omega)] at d0 d1 d2
      have n0 : (0 : Int) ≤ (i : Int) := by omega
      have hbx : Below w2.heap.size w2 (w2.alloc (.cells #[.int .i64 c, .int .i64 n, .string s] 32)) := (Below.refl _ _).alloc (Nat.le_refl _) _
      obtain ⟨w3, hw3⟩ : ∃ w3, w2.alloc (.cells #[.int .i64 c, .int .i64 n, .string s] 32) = w3 := ⟨_, rfl⟩
      have hv3 : w3.heap[w2.heap.size]? = some (.cells #[.int .i64 c, .int .i64 n, .string s] 32) := by rw [← hw3]; exact heap_alloc_new w2 _
      have hz3 : w3.heap.size = w2.heap.size + 1 := by rw [← hw3]; simp
      rw [hw3] at hbx
      obtain ⟨e2, _⟩ := blk_cell hv3 2
      simp only [List.getElem?_toArray, List.getElem?_cons_zero, List.getElem?_cons_succ] at e2
      have HO3 := Lib.hid (own_below hown hbx (Nat.le_refl _))
      have HB3 : Hid (Below w.heap.size w w3) := Lib.hid (hbr.trans (hbx.mono hs2))
      have HW3 := Lib.hid hw3
      have hs3 : w.heap.size ≤ w3.heap.size := by omega
      clear hown hbr hbx hv3 hw3 hz3
      go_upto_region 5 with (fail)
      rw [HW3.out]
      by_cases hs : s = ⟨#[]⟩
      · have htk2 : F.notes (l.take (i + 1)) = acc := by rw [htk]; simp [F.notes, hs]
        have HT := Lib.hid htk2
        subst hs
        clear htk htk2 hx d0 d1 d2
        go_wp2
        exact ⟨⟨i + 1, acc, m, by omega, by go_num, HT.out.symm, HM.out, by omega, HO3.out, HB3.out⟩, by simp [intOf]; omega⟩
      · have htk2 : F.notes (l.take (i + 1)) = acc ++ [s] := by rw [htk]; simp [F.notes, hs]
        have HT := Lib.hid htk2
        have hse := F.ba_nonempty s hs
        clear htk htk2 hx d0 d1 d2
        have hZ := Lib.hid (Sl.lit (w := w3.alloc (.cells #[.string s] 9)) (A := some ⟨w3.heap.size, 0, none⟩) (xs := [.string s]) rfl 9 (0, 0) (heap_alloc_new w3 _))
        have hba : Below w3.heap.size w3 (w3.alloc (.cells #[.string s] 9)) := (Below.refl _ _).alloc (Nat.le_refl _) _
        have hown2 := Lib.hid (own_below HO3.out hba (Nat.le_refl _))
        have hs4 : w.heap.size ≤ (w3.alloc (.cells #[.string s] 9)).heap.size := by simp; omega
        have HBA : Hid (Below w.heap.size w (w3.alloc (.cells #[.string s] 9))) := Lib.hid (HB3.out.trans (hba.mono hs3))
        clear hba
        go_wp2_with (at_builtin; refine wpList_appendSl _ rfl _ _ _ rfl w.heap.size 9 j0 _ 1 16 Tryd.underlying23 hj0 hy0 hy1 hy2 rfl (by omega) _ m _ rfl hown2.out _ (some ⟨w3.heap.size, 0, none⟩) 1 1 [.string s] rfl rfl hZ.out (by simp [Value.oneCell']) (by simp only [maxLen]; omega) (by omega) hs4 ?_; intro v1 w5 hown3 hb2 _; have hbz := HBA.out.trans hb2; have HO5 := Lib.hid hown3; clear hown3)
        exact ⟨⟨i + 1, acc ++ [s], m + 1, by omega, by go_num, HT.out.symm, by rw [List.length_append, HM.out]; rfl, by omega, by rw [List.map_append]; exact HO5.out, hbz⟩, by simp [intOf]; omega⟩
    · obtain rfl : i = N := by omega
      have hf : acc = F.notes l := by rw [HACC.out, List.take_of_length_le (by rw [HN.out]; exact Nat.le_refl _)]
      have HF := Lib.hid hf
      clear hf
      go_wp2
      go_ret
      refine ⟨A2, c2, by rw [← HF.out, HM.out]; rfl, ?_, hbr⟩
      rw [← HF.out, HM.out]
      exact hown
end Go.Proofs.YtlcjpbcdemkfeaaDoor
