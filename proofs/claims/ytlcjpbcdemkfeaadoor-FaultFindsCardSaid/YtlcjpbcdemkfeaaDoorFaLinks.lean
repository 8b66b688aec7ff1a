/- The laws' own helpers over links: Few, Chain, same, by walking their texts. -/
import Derived.Test.YtlcjpbcdemkfeaaDoorFaRef3
namespace Go.Proofs.YtlcjpbcdemkfeaaDoor
open Go.RowKit Go.Stop
set_option linter.unusedSimpArgs false
set_option linter.unusedVariables false

def F.okF (l : List (Int × Int × ByteArray)) : Prop := ∀ x ∈ l, (1 ≤ x.1 ∧ x.1 ≤ 16) ∧ (-9223372036854775808 ≤ x.2.1 ∧ x.2.1 ≤ 9223372036854775807) ∧ x.2.2.size ≤ 20
theorem F.okF.ok {l : List (Int × Int × ByteArray)} (h : F.okF l) : F.okL l := fun x hx => by
  obtain ⟨h1, h2, h3⟩ := h x hx
  exact ⟨by omega, h2, by omega⟩
theorem F.tmod16 (c : Int) : -16 < c.tmod 16 ∧ c.tmod 16 < 16 := by
  rw [Int.tmod_eq_emod]
  split <;> omega
theorem F.mod16 (c : Int) (h1 : -9223372036854775808 ≤ c) (h2 : c ≤ 9223372036854775807) : 1 ≤ (wrap64 (1 + (wrap64 (c.tmod 16 + 16)).tmod 16)) ∧ (wrap64 (1 + (wrap64 (c.tmod 16 + 16)).tmod 16)) ≤ 16 := by
  obtain ⟨a1, a2⟩ := F.tmod16 c
  have e1 : wrap64 (c.tmod 16 + 16) = c.tmod 16 + 16 := by unfold wrap64; omega
  rw [e1]
  have a3 : 0 ≤ (c.tmod 16 + 16).tmod 16 := Int.tmod_nonneg 16 (by omega)
  obtain ⟨_, a4⟩ := F.tmod16 (c.tmod 16 + 16)
  have e2 : wrap64 (1 + (c.tmod 16 + 16).tmod 16) = 1 + (c.tmod 16 + 16).tmod 16 := by unfold wrap64; omega
  rw [e2]
  omega
def F.RetFew (w : World) (e : Ending) (w' : World) : Prop :=
  ∃ A c l, e = .returned (.slice A l.length c) ∧ l.length ≤ 12 ∧ F.okF l ∧ Sl w' w'.heap.size A (F.fl l) ∧ Below w.heap.size w w'

set_option maxRecDepth 100000 in
set_option maxHeartbeats 4000000 in
theorem F.few_any (A : Option Addr) (cap N B : Nat) (l : List (Int × Int × ByteArray)) (w : World) (hl : l.length = N) (hN : N ≤ maxLen) (hB : B ≤ w.heap.size) (hA : Sl w B A (F.fl l))
    (hwf : ∀ x ∈ l, (-9223372036854775808 ≤ x.1 ∧ x.1 ≤ 9223372036854775807) ∧ (-9223372036854775808 ≤ x.2.1 ∧ x.2.1 ≤ 9223372036854775807) ∧ x.2.2.size ≤ maxLen) :
    Calls Tryd.prog 9 #[.slice A N cap] w (F.RetFew w) := by
  obtain ⟨j0, hj0, hy0, hy1, hy2⟩ := info_parts infoLink
  have HN := Lib.hid hl
  have HA := Lib.hid hA
  have HWF := Lib.hid hwf
  unfold maxLen at hN
  clear hl hA hwf
  go_enter Tryd.func9, Tryd.ntmps9
  go_wp2
  go_loopw [4, 3] (fun vi vo wr => ∃ (i : Nat) (out : List (Int × Int × ByteArray)), i ≤ N ∧ i ≤ 12 ∧ vi = .int .i64 i ∧ out.length = i ∧ F.okF out ∧ wr.ownsRow w.heap.size 32 3 vo i (F.fl out) ∧ Below w.heap.size w wr) (fun vi _ _ => 12 - (intOf vi).toNat)
  case atStart => exact ⟨0, [], by omega, by omega, rfl, rfl, by intro x hx; simp at hx, World.ownsRow_nil _ _ _ _, Below.refl _ _⟩
  case round =>
    obtain ⟨i, out, hi, hi12, rfl, ho, hok, hown, hbr⟩ := hrel
    obtain ⟨w1, rfl⟩ : ∃ w1 : World, w1 = wr := ⟨_, rfl⟩
    obtain ⟨A1, c1, rfl⟩ := own_form hown
    have hs1 := hbr.size
    have HO := Lib.hid ho
    have HOK := Lib.hid hok
    clear ho hok
    by_cases hlt : (i : Int) < N
    · by_cases hlt2 : (i : Int) < 12
      · obtain ⟨⟨c, n, s⟩, hx⟩ : ∃ x, l[i]? = some x := ⟨_, List.getElem?_eq_getElem (by rw [HN.out]; omega)⟩
        obtain ⟨⟨cb1, cb2⟩, nb, sb⟩ := HWF.out _ (List.mem_of_getElem? hx)
        obtain ⟨b, o, rfl, hb, c0, c1', c2⟩ := F.link HA.out hx
        rw [← (bcell hbr).1 _ _ (by omega)] at c0 c1' c2
        have n0 : (0 : Int) ≤ (i : Int) := by omega
        simp only at cb1 cb2 nb sb
        unfold maxLen at sb
        have HNB := Lib.hid nb
        clear hx nb
        have HE := Lib.hid (F.mod16 c cb1 cb2)
        by_cases hs : (20 : Int) < s.size
        · have hs2 : (s.extract 0 20).size ≤ 20 := by rw [ByteArray.size_extract]; omega
          have HS2 := Lib.hid hs2
          have hbx : Below w1.heap.size w1 (w1.alloc (.cells #[.int .i64 (wrap64 (1 + (wrap64 (c.tmod 16 + 16)).tmod 16)), .int .i64 n, .string (s.extract 0 20)] 32)) := (Below.refl _ _).alloc (Nat.le_refl _) _
          have hby := hbx.alloc (by simp) (.cells #[.int .i64 (wrap64 (1 + (wrap64 (c.tmod 16 + 16)).tmod 16)), .int .i64 n, .string (s.extract 0 20)] 32)
          have HO2 := Lib.hid (own_below hown hby (Nat.le_refl _))
          have hZ := Lib.hid (Sl.lit (w := (w1.alloc (.cells #[.int .i64 (wrap64 (1 + (wrap64 (c.tmod 16 + 16)).tmod 16)), .int .i64 n, .string (s.extract 0 20)] 32)).alloc (.cells #[.int .i64 (wrap64 (1 + (wrap64 (c.tmod 16 + 16)).tmod 16)), .int .i64 n, .string (s.extract 0 20)] 32)) (A := some ⟨w1.heap.size + 1, 0, none⟩) (xs := [.int .i64 (wrap64 (1 + (wrap64 (c.tmod 16 + 16)).tmod 16)), .int .i64 n, .string (s.extract 0 20)]) rfl 32 (0, 0) (by
            have h := heap_alloc_new (w1.alloc (.cells #[.int .i64 (wrap64 (1 + (wrap64 (c.tmod 16 + 16)).tmod 16)), .int .i64 n, .string (s.extract 0 20)] 32)) (.cells #[.int .i64 (wrap64 (1 + (wrap64 (c.tmod 16 + 16)).tmod 16)), .int .i64 n, .string (s.extract 0 20)] 32)
            rwa [show (w1.alloc (.cells #[.int .i64 (wrap64 (1 + (wrap64 (c.tmod 16 + 16)).tmod 16)), .int .i64 n, .string (s.extract 0 20)] 32)).heap.size = w1.heap.size + 1 by simp] at h))
          have HB2 := Lib.hid (hbr.trans (hby.mono hs1))
          have hs3 := Nat.le_trans hs1 hby.size
          clear hs2 hbx hby hown hbr
          go_wp2_with (at_builtin; refine wpList_appendSl _ rfl _ _ _ rfl w.heap.size 32 j0 _ 3 32 Tryd.underlying22 hj0 hy0 hy1 hy2 rfl (by omega) _ i _ rfl HO2.out _ (some ⟨w1.heap.size + 1, 0, none⟩) 1 1 [.int .i64 (wrap64 (1 + (wrap64 (c.tmod 16 + 16)).tmod 16)), .int .i64 n, .string (s.extract 0 20)] rfl rfl hZ.out (by simp [Value.oneCell']) (by simp only [maxLen]; omega) (by omega) hs3 ?_; intro v1 w5 hown3 hb2 _; have HO3 := Lib.hid hown3; have HB3 := Lib.hid (HB2.out.trans hb2); clear hown3 hb2)
          refine ⟨⟨i + 1, out ++ [((wrap64 (1 + (wrap64 (c.tmod 16 + 16)).tmod 16)), n, s.extract 0 20)], by omega, by omega, by go_num, by rw [List.length_append, HO.out]; rfl, ?_, ?_, HB3.out⟩, by simp [intOf]; omega⟩
          · intro x hx
            rcases List.mem_append.1 hx with hx | hx
            · exact HOK.out x hx
            · simp at hx; subst hx; exact ⟨HE.out, HNB.out, HS2.out⟩
          · rw [F.fl_app]; exact HO3.out
        · have hs2 : (s).size ≤ 20 := by omega
          have HS2 := Lib.hid hs2
          have hbx : Below w1.heap.size w1 (w1.alloc (.cells #[.int .i64 (wrap64 (1 + (wrap64 (c.tmod 16 + 16)).tmod 16)), .int .i64 n, .string (s)] 32)) := (Below.refl _ _).alloc (Nat.le_refl _) _
          have hby := hbx.alloc (by simp) (.cells #[.int .i64 (wrap64 (1 + (wrap64 (c.tmod 16 + 16)).tmod 16)), .int .i64 n, .string (s)] 32)
          have HO2 := Lib.hid (own_below hown hby (Nat.le_refl _))
          have hZ := Lib.hid (Sl.lit (w := (w1.alloc (.cells #[.int .i64 (wrap64 (1 + (wrap64 (c.tmod 16 + 16)).tmod 16)), .int .i64 n, .string (s)] 32)).alloc (.cells #[.int .i64 (wrap64 (1 + (wrap64 (c.tmod 16 + 16)).tmod 16)), .int .i64 n, .string (s)] 32)) (A := some ⟨w1.heap.size + 1, 0, none⟩) (xs := [.int .i64 (wrap64 (1 + (wrap64 (c.tmod 16 + 16)).tmod 16)), .int .i64 n, .string (s)]) rfl 32 (0, 0) (by
            have h := heap_alloc_new (w1.alloc (.cells #[.int .i64 (wrap64 (1 + (wrap64 (c.tmod 16 + 16)).tmod 16)), .int .i64 n, .string (s)] 32)) (.cells #[.int .i64 (wrap64 (1 + (wrap64 (c.tmod 16 + 16)).tmod 16)), .int .i64 n, .string (s)] 32)
            rwa [show (w1.alloc (.cells #[.int .i64 (wrap64 (1 + (wrap64 (c.tmod 16 + 16)).tmod 16)), .int .i64 n, .string (s)] 32)).heap.size = w1.heap.size + 1 by simp] at h))
          have HB2 := Lib.hid (hbr.trans (hby.mono hs1))
          have hs3 := Nat.le_trans hs1 hby.size
          clear hs2 hbx hby hown hbr
          go_wp2_with (at_builtin; refine wpList_appendSl _ rfl _ _ _ rfl w.heap.size 32 j0 _ 3 32 Tryd.underlying22 hj0 hy0 hy1 hy2 rfl (by omega) _ i _ rfl HO2.out _ (some ⟨w1.heap.size + 1, 0, none⟩) 1 1 [.int .i64 (wrap64 (1 + (wrap64 (c.tmod 16 + 16)).tmod 16)), .int .i64 n, .string (s)] rfl rfl hZ.out (by simp [Value.oneCell']) (by simp only [maxLen]; omega) (by omega) hs3 ?_; intro v1 w5 hown3 hb2 _; have HO3 := Lib.hid hown3; have HB3 := Lib.hid (HB2.out.trans hb2); clear hown3 hb2)
          refine ⟨⟨i + 1, out ++ [((wrap64 (1 + (wrap64 (c.tmod 16 + 16)).tmod 16)), n, s)], by omega, by omega, by go_num, by rw [List.length_append, HO.out]; rfl, ?_, ?_, HB3.out⟩, by simp [intOf]; omega⟩
          · intro x hx
            rcases List.mem_append.1 hx with hx | hx
            · exact HOK.out x hx
            · simp at hx; subst hx; exact ⟨HE.out, HNB.out, HS2.out⟩
          · rw [F.fl_app]; exact HO3.out
      · obtain rfl : i = 12 := by omega
        have HO3 := Lib.hid (Sl.of_own hown)
        clear hown
        go_wp2
        go_ret
        exact ⟨A1, c1, out, by rw [HO.out]; rfl, by rw [HO.out]; omega, HOK.out, HO3.out, hbr⟩
    · have HO3 := Lib.hid (Sl.of_own hown)
      clear hown
      go_wp2
      go_ret
      exact ⟨A1, c1, out, by rw [HO.out]; rfl, by rw [HO.out]; omega, HOK.out, HO3.out, hbr⟩
end Go.Proofs.YtlcjpbcdemkfeaaDoor
