/- The layer model: the search in a table, by walking its text. -/
import Derived.Test.YtamcpdggpdaioaaDoorMdTab
import Derived.Test.YtamcpdggpdaioaaDoorRwFl
namespace Go.Proofs.YtamcpdggpdaioaaDoor
open Go.RowKit
set_option linter.unusedSimpArgs false
set_option linter.unusedVariables false

set_option maxRecDepth 100000 in
theorem Md.cmp_any (c d : Int) (u v : Value) (w : World) (h1 : -2147483648 ≤ c) (h2 : c ≤ 2147483647) (h3 : -2147483648 ≤ d) (h4 : d ≤ 2147483647) :
    Calls Tryd.prog 50 #[.agg #[.int .i32 c, u, v], .int .i32 d] w fun e w' => e = .returned (.int .i64 (c - d)) ∧ Below w.heap.size w w' := by
  have e1 : IntKind.i64.wrap c = c := by rw [IntKind.wrap_i64]; omega
  have e2 : IntKind.i64.wrap d = d := by rw [IntKind.wrap_i64]; omega
  have e3 : IntKind.i64.wrap (c - d) = c - d := by rw [IntKind.wrap_i64]; omega
  have hb : Below w.heap.size w (w.alloc (.cells #[.int .i32 c, u, v] 50)) := (Below.refl _ _).alloc (Nat.le_refl _) _
  have HB := Lib.hid hb
  clear hb
  go_enter Tryd.func50, Tryd.ntmps50
  go_wp2_with fail
  go_ret
  exact ⟨rfl, HB.out⟩

/-- What a search answers: whether the character has a row, and where. -/
def Md.Hit (T : List Rw.Row) (d : Int) (i : Nat) (is : Bool) : Prop := (is = true → ∃ r, T[i]? = some r ∧ Md.find T d = some r) ∧ (is = false → Md.find T d = none)

def Md.RetHit (T : List Rw.Row) (d : Int) (w : World) (e : Ending) (w' : World) : Prop := ∃ (i : Nat) (is : Bool), e = .returned (.tuple #[.int .i64 i, .bool is]) ∧ Md.Hit T d i is ∧ Below w.heap.size w w'

set_option maxRecDepth 100000 in
set_option maxHeartbeats 2000000 in
theorem Md.search_any (A : Option Addr) (n c : Nat) (T : List Rw.Row) (d : Int) (w : World) (hn : T.length = n) (hn' : n ≤ 1000000) (hr : Md.rises T) (hbd : Md.bd T) (h3 : -2147483648 ≤ d) (h4 : d ≤ 2147483647) (hA : Rw.Sees w A T) :
    Calls Tryd.prog 49 #[.slice A n c, .int .i32 d, .func (.func 50) #[] #[]] w
      (Md.RetHit T d w) := by
  have HN := Lib.hid hn
  have HR := Lib.hid hr
  have HD := Lib.hid hbd
  have HA := Lib.hid hA
  clear hn hr hbd hA
  go_enter Tryd.func49, Tryd.ntmps49
  go_wp2_with fail
  go_loopw [9, 10] (fun vi vj wr => ∃ i j : Nat, i ≤ j ∧ j ≤ n ∧ vi = .int .i64 i ∧ vj = .int .i64 j ∧ (∀ t r, t < i → T[t]? = some r → r.1 < d) ∧ (∀ t r, j ≤ t → T[t]? = some r → d ≤ r.1) ∧ Below w.heap.size w wr) (fun vi vj _ => (intOf vj).toNat - (intOf vi).toNat)
  case atStart => exact ⟨0, n, by omega, Nat.le_refl _, rfl, rfl, fun t r ht => by omega, fun t r ht hx => by have := (List.getElem?_eq_some_iff.1 hx).1; have := HN.out; omega, Below.refl _ _⟩
  case round =>
    obtain ⟨i, j, hij, hjn, rfl, rfl, hlo, hhi, hbel⟩ := hrel
    have HLO := Lib.hid hlo
    have HHI := Lib.hid hhi
    have HB := Lib.hid hbel
    clear hlo hhi
    by_cases hlt : (i : Int) < j
    · obtain ⟨x, hx⟩ : ∃ x, T[(i + j) / 2]? = some x := ⟨_, List.getElem?_eq_getElem (by rw [HN.out]; omega)⟩
      obtain ⟨b, o, a, hA1, hb, c0, c1, c2, _⟩ := (HA.out.below hbel).row hx
      have hxd := (HD.out x (List.mem_of_getElem? hx)).1
      have hc := Md.cmp_any x.1 d (.int .i64 x.2.1) (.slice a.1 x.2.2.length a.2) wr hxd.1 hxd.2 h3 h4
      have HX := Lib.hid hx
      have m0 : (0 : Int) ≤ (((i + j) / 2 : Nat) : Int) := by omega
      have m1 : (((i + j) / 2 : Nat) : Int) < n := by omega
      subst hA1
      clear hbel hx
      go_wp2_with fail
      refine hc.mono ?_
      rintro e w1 ⟨rfl, hb1⟩
      have hz := HB.out.size
      have HB1 := Lib.hid (HB.out.trans (hb1.mono hz))
      have hij2 : i < j := by omega
      clear hb1 hc c0 c1 c2 hlt
      by_cases hd : x.1 - d < 0
      · go_wp2_with fail
        refine ⟨⟨(i + j) / 2 + 1, j, by omega, hjn, by go_num, rfl, fun t r ht hx => ?_, HHI.out, HB1.out⟩, by simp [intOf]; omega⟩
        by_cases he : t = (i + j) / 2
        · rw [he, HX.out] at hx
          cases hx
          omega
        · have := Md.rises_get HR.out hx HX.out (by omega)
          omega
      · go_wp2_with fail
        refine ⟨⟨i, (i + j) / 2, by omega, by omega, rfl, by go_num, HLO.out, fun t r ht hx => ?_, HB1.out⟩, by simp [intOf]; omega⟩
        by_cases he : t = (i + j) / 2
        · rw [he, HX.out] at hx
          cases hx
          omega
        · have := Md.rises_get HR.out HX.out hx (by omega)
          omega
    · obtain rfl : i = j := by omega
      have hcut := Md.find_cut HR.out d i HLO.out HHI.out
      by_cases hin : (i : Int) < n
      · obtain ⟨x, hx⟩ : ∃ x, T[i]? = some x := ⟨_, List.getElem?_eq_getElem (by rw [HN.out]; omega)⟩
        obtain ⟨b, o, a, hA1, hb, c0, c1, c2, _⟩ := (HA.out.below hbel).row hx
        have hxd := (HD.out x (List.mem_of_getElem? hx)).1
        have hc := Md.cmp_any x.1 d (.int .i64 x.2.1) (.slice a.1 x.2.2.length a.2) wr hxd.1 hxd.2 h3 h4
        have HX := Lib.hid hx
        rw [hx, Option.bind_some] at hcut
        have HCUT := Lib.hid hcut
        have m0 : (0 : Int) ≤ (i : Int) := by omega
        subst hA1
        clear hbel hx hcut hlt
        go_wp2_with fail
        refine hc.mono ?_
        rintro e w1 ⟨rfl, hb1⟩
        have HB1 := Lib.hid (HB.out.trans (hb1.mono HB.out.size))
        clear hb1 hc c0 c1 c2
        rcases hz : (x.1 - d == 0) with _ | _
        · have hne : ¬ x.1 = d := fun e => by simp [e] at hz
          have HH : Hid (Md.Hit T d i false) := Lib.hid ⟨fun e => Bool.noConfusion e, fun _ => by rw [HCUT.out, if_neg hne]⟩
          clear hne
          go_wp2_with fail
          go_ret2
          exact ⟨i, false, rfl, HH.out, HB1.out⟩
        · have he : x.1 = d := by have := beq_iff_eq.1 hz; omega
          have HH : Hid (Md.Hit T d i true) := Lib.hid ⟨fun _ => ⟨x, HX.out, by rw [HCUT.out, if_pos he]⟩, fun e => Bool.noConfusion e⟩
          clear he
          go_wp2_with fail
          go_ret2
          exact ⟨i, true, rfl, HH.out, HB1.out⟩
      · rw [List.getElem?_eq_none (by rw [HN.out]; omega), Option.bind_none] at hcut
        have HH : Hid (Md.Hit T d i false) := Lib.hid ⟨fun e => Bool.noConfusion e, fun _ => hcut⟩
        clear hbel hcut hlt
        go_wp2_with fail
        go_ret2
        exact ⟨i, false, rfl, HH.out, HB.out⟩
end Go.Proofs.YtamcpdggpdaioaaDoor
