/- The law's ranges: Right, Set, by walking their texts. -/
import Derived.Test.YtfobmgfmepoamaaCpArgs
namespace Go.Proofs.Ytfobmgfmepoamaa
open Go.RowKit
set_option linter.unusedSimpArgs false
set_option linter.unusedVariables false

theorem and_21 (n : Int) : bits .and .i64 n 2097151 = n % 2097152 := by
  have hm : (BitVec.ofInt 64 2097151).toNat = 2 ^ 21 - 1 := by decide
  have key : (BitVec.ofInt 64 n &&& BitVec.ofInt 64 2097151).toNat = (n % ((2 ^ 64 : Nat) : Int)).toNat % 2 ^ 21 := by
    rw [BitVec.toNat_and, BitVec.toNat_ofInt, hm, Nat.and_two_pow_sub_one_eq_mod]
  show IntKind.i64.wrap ((BitVec.ofInt 64 n &&& BitVec.ofInt 64 2097151).toNat : Nat) = n % 2097152
  rw [key, IntKind.wrap_i64]
  omega

/-- A number made one of a character's. -/
def C.lim (x : Int) : Int := x % 2097152 % 1114112
theorem C.lim_bd (x : Int) : 0 ≤ C.lim x ∧ C.lim x ≤ 1114111 := by unfold C.lim; omega
def C.rt (r : Int × Int) : Int × Int := (min (C.lim r.1) (C.lim r.2), max (C.lim r.1) (C.lim r.2))
def C.right (rs : List (Int × Int)) : List (Int × Int) := (rs.take 12).map C.rt
theorem C.right_good (rs : List (Int × Int)) : C.good (C.right rs) = true := by
  unfold C.good C.right
  rw [List.all_eq_true]
  intro r hr
  obtain ⟨q, _, rfl⟩ := List.mem_map.1 hr
  have h1 := C.lim_bd q.1
  have h2 := C.lim_bd q.2
  have key : ∀ a b : Int, 0 ≤ a → a ≤ 1114111 → 0 ≤ b → b ≤ 1114111 → (0 ≤ min a b ∧ max a b ≤ 1114111) ∧ min a b ≤ max a b := by intros; omega
  have := key (C.lim q.1) (C.lim q.2) h1.1 h1.2 h2.1 h2.2
  show (decide (0 ≤ min (C.lim q.1) (C.lim q.2)) && decide (max (C.lim q.1) (C.lim q.2) ≤ 1114111) && decide (min (C.lim q.1) (C.lim q.2) ≤ max (C.lim q.1) (C.lim q.2))) = true
  rw [decide_eq_true this.1.1, decide_eq_true this.1.2, decide_eq_true this.2]; rfl

theorem own_set {w : World} {base : Nat} {e : TypeId} {size n c g j : Nat} {xs : List Value} (h : w.ownsRow base e size (.slice (some ⟨g, 0, none⟩) n c) n xs) (hj : j < xs.length) (u : Value) :
    (w.setCell ⟨g, j, none⟩ u).ownsRow base e size (.slice (some ⟨g, 0, none⟩) n c) n (xs.set j u) := by
  obtain ⟨h1, h2⟩ := h
  refine ⟨by rw [List.length_set]; exact h1, ?_⟩
  rcases h2 with ⟨h2, _⟩ | ⟨g', cap, cur, hv, hg, hc, hn, hm, hs, ht⟩
  · cases h2
  · cases hv
    refine .inr ⟨g, c, cur.set! j u, rfl, hg, ?_, hn, hm, by simp [hs], ?_⟩
    · simp [World.setCell, Array.getElem?_modify, hc]
    · rw [← ht]
      apply List.ext_getElem?
      intro i
      simp only [List.getElem?_take, List.getElem?_set, Array.toList_set!, List.length_take, Array.length_toList]
      have hl : n * size ≤ cur.size := by rw [hs]; exact Nat.mul_le_mul_right _ hn
      rw [h1] at hj
      by_cases h3 : j = i
      · subst h3
        simp [hj, show j < cur.size by omega]
        omega
      · simp [h3]
theorem own_zero {w : World} {base : Nat} {e : TypeId} {size n c b o : Nat} {xs : List Value} (h : w.ownsRow base e size (.slice (some ⟨b, o, none⟩) n c) n xs) : o = 0 ∧ base ≤ b ∧ b < w.heap.size ∧ ∀ j, w.frozen? ⟨b, j, none⟩ = false := by
  rcases h.2 with ⟨h2, _⟩ | ⟨g', cap, cur, hv, hg, hc, hn, hm, hs, ht⟩
  · cases h2
  · cases hv
    exact ⟨rfl, hg, heap_lt hc, fun j => by simp [World.frozen?, hc]⟩
theorem C.fl_set (k : IntKind) : ∀ (rs : List (Int × Int)) (i : Nat) (r : Int × Int), i < rs.length → ((C.fl k rs).set (i * 2) (.int k r.1)).set (i * 2 + 1) (.int k r.2) = C.fl k (rs.set i r)
  | [], i, r, h => by simp at h
  | (x, y) :: t, 0, r, h => rfl
  | (x, y) :: t, i + 1, r, h => by
    rw [show (i + 1) * 2 = i * 2 + 1 + 1 by omega]
    show _ :: _ :: ((C.fl k t).set (i * 2) _).set (i * 2 + 1) _ = _
    rw [C.fl_set k t i r (by simpa using h)]
    rfl

set_option maxRecDepth 100000 in
set_option maxHeartbeats 1000000 in
theorem C.right_any (A : Option Addr) (len cap B : Nat) (rs : List (Int × Int)) (w : World) (hl : rs.length = len) (hc : len ≤ cap) (hcap : cap ≤ maxLen) (hB : B ≤ w.heap.size) (hA : Sl w B A (C.fl .i64 rs)) :
    Calls Try.prog 10 #[.slice A len cap] w (RetPairs .i64 42 (C.right rs) w) := by
  have HF := Lib.hid (C.few_any A len cap B rs)
  have HL := Lib.hid hl
  clear hl
  have hqs := C.right_good rs
  obtain ⟨qs, hq⟩ : ∃ qs, rs.take 12 = qs := ⟨_, rfl⟩
  rw [hq] at HF
  have er : C.right rs = qs.map C.rt := by unfold C.right; rw [hq]
  have hm12 : qs.length ≤ 12 := by rw [← hq, List.length_take]; omega
  obtain ⟨m, hm⟩ : ∃ m, qs.length = m := ⟨_, rfl⟩
  rw [hm] at hm12
  have HM := Lib.hid hm
  rw [er]
  clear hq hqs er hm
  go_enter Try.func10, Try.ntmps10
  go_wp2_with fail
  refine (HF.out _ HL.out hc hcap hB hA).mono ?_
  rintro e w1 ⟨A5, c5, rfl, hown0, hb0⟩
  rw [HM.out] at hown0 ⊢
  go_wp2
  go_loopw [12] (fun vi wr => ∃ i : Nat, i ≤ m ∧ vi = .int .i64 i ∧ wr.ownsRow w.heap.size 42 2 (.slice A5 m c5) m (C.fl .i64 ((qs.take i).map C.rt ++ qs.drop i)) ∧ Below w.heap.size w wr) (fun vi _ => m - (intOf vi).toNat)
  case atStart => exact ⟨0, by omega, rfl, hown0, hb0⟩
  case round =>
    obtain ⟨i, hi, rfl, hown, hbel⟩ := hrel
    have hsz : w.heap.size ≤ wr.heap.size := hbel.size
    by_cases hlt : (i : Int) < m
    · obtain ⟨r, hr⟩ : ∃ r, qs[i]? = some r := ⟨_, List.getElem?_eq_getElem (by rw [HM.out]; omega)⟩
      have hr2 : ((qs.take i).map C.rt ++ qs.drop i)[i]? = some r := by
        rw [List.getElem?_append_right (by simp; omega)]
        simp [Nat.min_eq_left (show i ≤ qs.length by rw [HM.out]; exact hi), hr]
      obtain ⟨b, o, rfl, hlb, hc0, hc1⟩ := (Sl.of_own hown).pair hr2
      have HR := Lib.hid hr
      have hn0 : (0 : Int) ≤ (i : Int) := by omega
      have ea1 := and_21 r.1
      have ea2 := and_21 r.2
      have hn1 : (0 : Int) ≤ r.1 % 2097152 := by omega
      have hn2 : (0 : Int) ≤ r.2 % 2097152 := by omega
      clear hr hr2
      obtain ⟨rfl, hbb, hblt, hfz⟩ := own_zero hown
      simp only [Nat.zero_add] at hc0 hc1
      have hz0 := hfz (i * 2)
      have hz1 := hfz (i * 2 + 1)
      have hba : Below wr.heap.size wr (wr.alloc (.cells #[.int .i64 r.1, .int .i64 r.2] 42)) := (Below.refl _ _).alloc (Nat.le_refl _) _
      have hset : (qs.take (i + 1)).map C.rt ++ qs.drop (i + 1) = ((qs.take i).map C.rt ++ qs.drop i).set i (C.rt r) := by
        have hlen : ((qs.take i).map C.rt).length = i := by simp; rw [HM.out]; omega
        rw [List.set_append_right _ _ (by rw [hlen]; omega), hlen, Nat.sub_self, List.take_add_one, HR.out]
        have hd : qs.drop i = r :: qs.drop (i + 1) := by
          have h := List.drop_eq_getElem_cons (l := qs) (i := i) (by rw [HM.out]; omega)
          rw [h]
          have h2 := HR.out
          rw [List.getElem?_eq_getElem (by rw [HM.out]; omega)] at h2
          simp only [Option.some.injEq] at h2
          rw [h2]
        rw [hd]
        simp
      have HSET := Lib.hid hset
      clear hfz hset
      rcases Int.lt_trichotomy (r.1 % 2097152 % 1114112) (r.2 % 2097152 % 1114112) with hab | hab | hab
      · have k1 : r.1 % 2097152 % 1114112 < r.2 % 2097152 % 1114112 := by omega
        have k2 : ¬ r.2 % 2097152 % 1114112 < r.1 % 2097152 % 1114112 := by omega
        go_wp2
        go_quiet (fail)
        go_wp2
        refine ⟨⟨i + 1, by omega, by go_num, ?_, ?_⟩, by simp [intOf]; omega⟩
        · have e : C.rt r = (r.1 % 2097152 % 1114112, r.2 % 2097152 % 1114112) := by
            unfold C.rt C.lim
            refine Prod.ext ?_ ?_
            · show min (r.1 % 2097152 % 1114112) (r.2 % 2097152 % 1114112) = _
              dsimp only
              omega
            · show max (r.1 % 2097152 % 1114112) (r.2 % 2097152 % 1114112) = _
              dsimp only
              omega
          rw [HSET.out, e]
          have hx := own_set (own_set (own_below hown (below_drewN hba nq) (Nat.le_refl _)) (j := i * 2) (by rw [C.fl_len]; simp; rw [HM.out]; omega) (.int .i64 (r.1 % 2097152 % 1114112, r.2 % 2097152 % 1114112).1)) (j := i * 2 + 1) (by rw [List.length_set, C.fl_len]; simp; rw [HM.out]; omega) (.int .i64 (r.1 % 2097152 % 1114112, r.2 % 2097152 % 1114112).2)
          rw [C.fl_set _ _ _ _ (by simp; rw [HM.out]; omega)] at hx
          simpa using hx
        · exact ((hbel.trans ((below_drewN hba nq).mono hsz)).setCell (by show w.heap.size ≤ b; omega) _).setCell (by show w.heap.size ≤ b; omega) _
      · have k1 : ¬ r.1 % 2097152 % 1114112 < r.2 % 2097152 % 1114112 := by omega
        have k2 : ¬ r.2 % 2097152 % 1114112 < r.1 % 2097152 % 1114112 := by omega
        go_wp2
        go_quiet (fail)
        go_wp2
        refine ⟨⟨i + 1, by omega, by go_num, ?_, ?_⟩, by simp [intOf]; omega⟩
        · have e : C.rt r = (r.2 % 2097152 % 1114112, r.2 % 2097152 % 1114112) := by
            unfold C.rt C.lim
            refine Prod.ext ?_ ?_
            · show min (r.1 % 2097152 % 1114112) (r.2 % 2097152 % 1114112) = _
              dsimp only
              omega
            · show max (r.1 % 2097152 % 1114112) (r.2 % 2097152 % 1114112) = _
              dsimp only
              omega
          rw [HSET.out, e]
          have hx := own_set (own_set (own_below hown (below_drewN hba nq) (Nat.le_refl _)) (j := i * 2) (by rw [C.fl_len]; simp; rw [HM.out]; omega) (.int .i64 (r.2 % 2097152 % 1114112, r.2 % 2097152 % 1114112).1)) (j := i * 2 + 1) (by rw [List.length_set, C.fl_len]; simp; rw [HM.out]; omega) (.int .i64 (r.2 % 2097152 % 1114112, r.2 % 2097152 % 1114112).2)
          rw [C.fl_set _ _ _ _ (by simp; rw [HM.out]; omega)] at hx
          simpa using hx
        · exact ((hbel.trans ((below_drewN hba nq).mono hsz)).setCell (by show w.heap.size ≤ b; omega) _).setCell (by show w.heap.size ≤ b; omega) _
      · have k1 : ¬ r.1 % 2097152 % 1114112 < r.2 % 2097152 % 1114112 := by omega
        have k2 : r.2 % 2097152 % 1114112 < r.1 % 2097152 % 1114112 := by omega
        go_wp2
        go_quiet (fail)
        go_wp2
        refine ⟨⟨i + 1, by omega, by go_num, ?_, ?_⟩, by simp [intOf]; omega⟩
        · have e : C.rt r = (r.2 % 2097152 % 1114112, r.1 % 2097152 % 1114112) := by
            unfold C.rt C.lim
            refine Prod.ext ?_ ?_
            · show min (r.1 % 2097152 % 1114112) (r.2 % 2097152 % 1114112) = _
              dsimp only
              omega
            · show max (r.1 % 2097152 % 1114112) (r.2 % 2097152 % 1114112) = _
              dsimp only
              omega
          rw [HSET.out, e]
          have hx := own_set (own_set (own_below hown (below_drewN hba nq) (Nat.le_refl _)) (j := i * 2) (by rw [C.fl_len]; simp; rw [HM.out]; omega) (.int .i64 (r.2 % 2097152 % 1114112, r.1 % 2097152 % 1114112).1)) (j := i * 2 + 1) (by rw [List.length_set, C.fl_len]; simp; rw [HM.out]; omega) (.int .i64 (r.2 % 2097152 % 1114112, r.1 % 2097152 % 1114112).2)
          rw [C.fl_set _ _ _ _ (by simp; rw [HM.out]; omega)] at hx
          simpa using hx
        · exact ((hbel.trans ((below_drewN hba nq).mono hsz)).setCell (by show w.heap.size ≤ b; omega) _).setCell (by show w.heap.size ≤ b; omega) _
    · obtain rfl : i = m := by omega
      have e0 : (qs.take i).map C.rt ++ qs.drop i = qs.map C.rt := by
        rw [List.take_of_length_le (by rw [HM.out]; omega), List.drop_of_length_le (by rw [HM.out]; omega), List.append_nil]
      rw [e0] at hown
      clear e0
      go_wp2
      go_ret
      exact ⟨A5, c5, by rw [List.length_map, HM.out]; rfl, by rw [List.length_map, HM.out]; exact hown, hbel⟩
end Go.Proofs.Ytfobmgfmepoamaa
