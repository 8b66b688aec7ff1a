/- Pages: the document's Get, by walking its text; and the law's few cells. -/
import Derived.Test.YtamcpdggpdaioaaPgReg
import Derived.Test.YtamcpdggpdaioaaPgPlain3
import Derived.Test.YtamcpdggpdaioaaCpCount
namespace Go.Proofs.Ytamcpdggpdaioaa
open Go.RowKit
set_option linter.unusedSimpArgs false
set_option linter.unusedVariables false

def Pg.in64 (L : List (Int × Int)) : Prop := ∀ x ∈ L, (-9223372036854775808 ≤ x.1 ∧ x.1 ≤ 9223372036854775807) ∧ -9223372036854775808 ≤ x.2 ∧ x.2 ≤ 9223372036854775807

set_option maxRecDepth 100000 in
set_option maxHeartbeats 4000000 in
theorem Pg.rget_any (A : Option Addr) (n c B : Nat) (L : List (Int × Int)) (d : Int) (w : World) (hn : L.length = n) (hnb : n ≤ 1000000) (hB : B ≤ w.heap.size) (h : Sl w B A (C.fl .i64 L)) :
    Calls Try.prog 11 #[.slice A n c, .int .i64 d] w fun e w' => e = .returned (.int .i64 (Pg.get (Pg.last L) d)) ∧ Below w.heap.size w w' := by
  obtain ⟨res, hres⟩ : ∃ res, Pg.get (Pg.last L) d = res := ⟨_, rfl⟩
  rw [hres]
  have HRES := Lib.hid hres
  have HS := Lib.hid h
  have HN := Lib.hid hn
  have HB := Lib.hid hB
  clear hres h hn hB
  go_enter Try.func11, Try.ntmps11
  by_cases h0 : d < 0
  · have hr : res = 0 := by rw [← HRES.out]; unfold Pg.get; rw [if_neg (by omega)]
    subst hr
    go_wp2_with fail
    go_ret
    exact ⟨rfl, Below.refl _ _⟩
  · by_cases h1 : 1114111 < d
    · have hr : res = 0 := by rw [← HRES.out]; unfold Pg.get; rw [if_neg (by omega)]
      subst hr
      go_wp2_with fail
      go_ret
      exact ⟨rfl, Below.refl _ _⟩
    · have hr : res = Pg.last L d := by rw [← HRES.out]; unfold Pg.get; rw [if_pos (by omega)]
      have HR := Lib.hid hr
      clear hr
      go_wp2_with fail
      go_loopw [5, 16] (fun v i wr => ∃ k : Nat, k ≤ n ∧ i = .int .i64 k ∧ v = .int .i64 (Pg.last (L.take k) d) ∧ Below w.heap.size w wr) (fun _ i _ => n - (intOf i).toNat)
      case atStart => exact ⟨0, Nat.zero_le _, rfl, rfl, Below.refl _ _⟩
      case round =>
        obtain ⟨k, hk, rfl, rfl, hbel⟩ := hrel
        by_cases hlt : k < n
        · obtain ⟨x, hx⟩ : ∃ x, L[k]? = some x := ⟨_, List.getElem?_eq_getElem (by rw [HN.out]; exact hlt)⟩
          obtain ⟨b, o, rfl, hb, c0', c1'⟩ := HS.out.pair hx
          have hbw : b < w.heap.size := Nat.lt_of_lt_of_le hb HB.out
          have c0 := ((bcell hbel).1 b (o + k * 2) hbw).trans c0'
          have c1 := ((bcell hbel).1 b (o + k * 2 + 1) hbw).trans c1'
          have htk : Pg.last (L.take (k + 1)) d = if x.1 = d then x.2 else Pg.last (L.take k) d := by rw [List.take_add_one, hx]; exact Pg.last_snoc _ _ _
          have HTK := Lib.hid htk
          have hkI : (k : Int) < n := by omega
          have hk0 : (0 : Int) ≤ k := by omega
          have hbr : b < wr.heap.size := Nat.lt_of_lt_of_le hbw hbel.size
          have HBN := Lib.hid (hbel.trans (((Below.refl wr.heap.size wr).alloc (Nat.le_refl _) (.cells #[.int .i64 x.1, .int .i64 x.2] 31)).mono hbel.size))
          obtain ⟨x1, x2⟩ := x
          obtain ⟨y, hy⟩ : ∃ y, Pg.last (L.take k) d = y := ⟨_, rfl⟩
          rw [hy] at HTK ⊢
          clear hx c0' c1' htk hbel hbw hy hb
          dsimp only at *
          rcases he : (x1 == d) with _ | _
          · have hne : ¬ x1 = d := by simpa using he
            have htk := HTK.out
            rw [if_neg hne] at htk
            have HT := Lib.hid htk
            clear hne htk
            go_wp2_with fail
            exact ⟨⟨k + 1, by omega, by go_num, by rw [HT.out], HBN.out⟩, by simp [intOf]; omega⟩
          · have hne : x1 = d := by simpa using he
            have htk := HTK.out
            rw [if_pos hne] at htk
            have HT := Lib.hid htk
            clear hne htk
            go_wp2_with fail
            exact ⟨⟨k + 1, by omega, by go_num, by rw [HT.out], HBN.out⟩, by simp [intOf]; omega⟩
        · obtain rfl : n = k := by omega
          rw [List.take_of_length_le (by rw [HN.out]; exact Nat.le_refl _), ← HR.out]
          have HBEL := Lib.hid hbel
          clear hbel
          go_wp2_with fail
          go_ret
          exact ⟨rfl, HBEL.out⟩
end Go.Proofs.Ytamcpdggpdaioaa
