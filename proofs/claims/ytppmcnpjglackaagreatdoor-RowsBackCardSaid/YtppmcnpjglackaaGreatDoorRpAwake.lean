/- The law of rows: its fixed fact, by walking its text. -/
import Derived.Test.YtppmcnpjglackaaGreatDoorRwParse
import Derived.Test.YtppmcnpjglackaaGreatDoorRpPlain
namespace Go.Proofs.YtppmcnpjglackaaGreatDoor
open Go.RowKit
set_option linter.unusedSimpArgs false
set_option linter.unusedVariables false

theorem Rw.fl_get : ∀ (rs : List Rw.Row) (ads : List (Option Addr × Nat)) (i : Nat) (r : Rw.Row) (a : Option Addr × Nat), rs[i]? = some r → ads[i]? = some a →
    (Rw.fl rs ads)[i * 3]? = some (.int .i32 r.1) ∧ (Rw.fl rs ads)[i * 3 + 1]? = some (.int .i64 r.2.1) ∧ (Rw.fl rs ads)[i * 3 + 2]? = some (.slice a.1 r.2.2.length a.2)
  | [], _, i, _, _, h, _ => by simp at h
  | _ :: _, [], i, _, _, _, h => by simp at h
  | q :: rs, b :: ads, 0, r, a, h, h' => by simp at h h'; subst h h'; exact ⟨rfl, rfl, rfl⟩
  | q :: rs, b :: ads, i + 1, r, a, h, h' => by
    have := Rw.fl_get rs ads i r a (by simpa using h) (by simpa using h')
    rw [show (i + 1) * 3 = i * 3 + 1 + 1 + 1 by omega]
    exact this
theorem Rw.Tab.row {w : World} {A : Option Addr} {rs : List Rw.Row} (h : Rw.Tab w A rs) {i : Nat} {r : Rw.Row} (hr : rs[i]? = some r) :
    ∃ (b o : Nat) (a : Option Addr × Nat), A = some ⟨b, o, none⟩ ∧ b < w.heap.size ∧ w.cell? ⟨b, o + i * 3, none⟩ = some (.int .i32 r.1) ∧ w.cell? ⟨b, o + i * 3 + 1, none⟩ = some (.int .i64 r.2.1) ∧ w.cell? ⟨b, o + i * 3 + 2, none⟩ = some (.slice a.1 r.2.2.length a.2) ∧
      Slt w 21 a.1 (r.2.2.map (Value.int .i32)) := by
  obtain ⟨ads, hl, hs, hm⟩ := h
  have hi := (List.getElem?_eq_some_iff.1 hr).1
  obtain ⟨a, ha⟩ : ∃ a, ads[i]? = some a := ⟨_, List.getElem?_eq_getElem (by omega)⟩
  obtain ⟨b, o, rfl, hb, hc⟩ := hs.sl (by rw [Rw.fl_len _ _ hl]; omega)
  obtain ⟨g0, g1, g2⟩ := Rw.fl_get rs ads i r a hr ha
  have hlen := Rw.fl_len rs ads hl
  refine ⟨b, o, a, rfl, hb, ?_, ?_, ?_, hm i r a hr ha⟩
  · rw [hc _ (by omega), g0]
  · rw [Nat.add_assoc, hc _ (by omega), g1]
  · rw [Nat.add_assoc, hc _ (by omega), g2]
theorem Rw.Tab.below {w w' : World} {A : Option Addr} {rs : List Rw.Row} (h : Rw.Tab w A rs) (hb : Below w.heap.size w w') : Rw.Tab w' A rs := by
  obtain ⟨ads, hl, hs, hm⟩ := h
  exact ⟨ads, hl, hs.below hb, hm.below hb⟩

set_option maxRecDepth 100000 in
set_option maxHeartbeats 4000000 in
theorem Rp.awake_any (w : World) (hL : Rw.Laid w) : Calls Tryz.prog 5 #[] w fun e w' => e = .returned (.bool true) ∧ Below w.heap.size w w' := by
  have hP := Rw.parse_any ⟨#[48, 48, 67, 53, 59, 88, 59, 76, 117, 59, 48, 59, 76, 59, 48, 48, 52, 49, 32, 48, 51, 48, 65, 59, 59, 59, 59, 78, 59, 59, 59, 59, 48, 48, 69, 53, 59]⟩ (by decide) _ Rp.lit_parse w hL
  go_enter Tryz.func5, Tryz.ntmps5
  go_wp2_with fail
  refine hP.mono ?_
  rintro e w1 ⟨A, c, rfl, hT, hb⟩
  obtain ⟨b, o, a, rfl, hbl, h0, h1, h2, h3⟩ := hT.row (i := 0) rfl
  obtain ⟨b2, o2, ha, hbl2, hc2⟩ := h3.sl (by decide)
  have h4 := hc2 1 (by decide)
  simp only [List.map_cons, List.map_nil, List.getElem?_cons_succ, List.getElem?_cons_zero] at h4
  simp only [Nat.zero_mul, Nat.add_zero, List.length_cons, List.length_nil] at h0 h1 h2
  rw [ha] at h2
  have HB := Lib.hid hb
  clear hb hT h3 hc2 ha h1 hP
  simp only [List.length_cons, List.length_nil]
  go_wp2_with fail
  go_ret
  exact ⟨rfl, HB.out⟩
end Go.Proofs.YtppmcnpjglackaaGreatDoor
