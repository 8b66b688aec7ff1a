/- The laws' Same of rows that are the document's, by walking its text. -/
import Derived.Test.YtppmcnpjglackaaGreatDoorRpAwake
import Derived.Test.YtppmcnpjglackaaGreatDoorRwOpen
import Derived.WalkSmall
namespace Go.Proofs.YtppmcnpjglackaaGreatDoor
open Go.RowKit
set_option linter.unusedSimpArgs false
set_option linter.unusedVariables false

/-- Rows that are read: the program's; the document's. -/
def Rw.Sees (w : World) (A : Option Addr) (rs : List Rw.Row) : Prop := ∃ ads : List (Option Addr × Nat), ads.length = rs.length ∧ Sl w w.heap.size A (Rw.fl rs ads) ∧
  ∀ (i : Nat) (r : Rw.Row) (a : Option Addr × Nat), rs[i]? = some r → ads[i]? = some a → Sl w w.heap.size a.1 (r.2.2.map (Value.int .i32))
def Rw.SeesI (w : World) (A : Option Addr) (rs : List Rw.Row) : Prop := ∃ ads : List (Option Addr × Nat), ads.length = rs.length ∧ Sl w w.heap.size A (Rw.flI rs ads) ∧
  ∀ (i : Nat) (r : Rw.Row) (a : Option Addr × Nat), rs[i]? = some r → ads[i]? = some a → Sl w w.heap.size a.1 (r.2.2.map (Value.int .i64))
theorem Rw.Tab.sees {w : World} {A : Option Addr} {rs : List Rw.Row} (h : Rw.Tab w A rs) : Rw.Sees w A rs := by
  obtain ⟨ads, hl, hs, hm⟩ := h
  exact ⟨ads, hl, hs.sl, fun i r a h1 h2 => (hm i r a h1 h2).sl⟩
theorem Rw.Sees.below {w w' : World} {A : Option Addr} {rs : List Rw.Row} (h : Rw.Sees w A rs) (hb : Below w.heap.size w w') : Rw.Sees w' A rs := by
  obtain ⟨ads, hl, hs, hm⟩ := h
  exact ⟨ads, hl, hs.below hb hb.size, fun i r a h1 h2 => (hm i r a h1 h2).below hb hb.size⟩
theorem Rw.SeesI.below {w w' : World} {A : Option Addr} {rs : List Rw.Row} (h : Rw.SeesI w A rs) (hb : Below w.heap.size w w') : Rw.SeesI w' A rs := by
  obtain ⟨ads, hl, hs, hm⟩ := h
  exact ⟨ads, hl, hs.below hb hb.size, fun i r a h1 h2 => (hm i r a h1 h2).below hb hb.size⟩
theorem Rw.Sees.row {w : World} {A : Option Addr} {rs : List Rw.Row} (h : Rw.Sees w A rs) {i : Nat} {r : Rw.Row} (hr : rs[i]? = some r) :
    ∃ (b o : Nat) (a : Option Addr × Nat), A = some ⟨b, o, none⟩ ∧ b < w.heap.size ∧ w.cell? ⟨b, o + i * 3, none⟩ = some (.int .i32 r.1) ∧ w.cell? ⟨b, o + i * 3 + 1, none⟩ = some (.int .i64 r.2.1) ∧ w.cell? ⟨b, o + i * 3 + 2, none⟩ = some (.slice a.1 r.2.2.length a.2) ∧
      Sl w w.heap.size a.1 (r.2.2.map (Value.int .i32)) := by
  obtain ⟨ads, hl, hs, hm⟩ := h
  have hi := (List.getElem?_eq_some_iff.1 hr).1
  obtain ⟨a, ha⟩ : ∃ a, ads[i]? = some a := ⟨_, List.getElem?_eq_getElem (by omega)⟩
  obtain ⟨b, o, rfl, hb, hc⟩ := hs (by rw [Rw.fl_len _ _ hl]; omega)
  obtain ⟨g0, g1, g2⟩ := Rw.fl_get rs ads i r a hr ha
  have hlen := Rw.fl_len rs ads hl
  refine ⟨b, o, a, rfl, hb, ?_, ?_, ?_, hm i r a hr ha⟩
  · rw [hc _ (by omega), g0]
  · rw [Nat.add_assoc, hc _ (by omega), g1]
  · rw [Nat.add_assoc, hc _ (by omega), g2]
theorem Rw.SeesI.row {w : World} {A : Option Addr} {rs : List Rw.Row} (h : Rw.SeesI w A rs) {i : Nat} {r : Rw.Row} (hr : rs[i]? = some r) :
    ∃ (b o : Nat) (a : Option Addr × Nat), A = some ⟨b, o, none⟩ ∧ b < w.heap.size ∧ w.cell? ⟨b, o + i * 3, none⟩ = some (.int .i64 r.1) ∧ w.cell? ⟨b, o + i * 3 + 1, none⟩ = some (.int .i64 r.2.1) ∧ w.cell? ⟨b, o + i * 3 + 2, none⟩ = some (.slice a.1 r.2.2.length a.2) ∧
      Sl w w.heap.size a.1 (r.2.2.map (Value.int .i64)) := by
  obtain ⟨ads, hl, hs, hm⟩ := h
  have hi := (List.getElem?_eq_some_iff.1 hr).1
  obtain ⟨a, ha⟩ : ∃ a, ads[i]? = some a := ⟨_, List.getElem?_eq_getElem (by omega)⟩
  obtain ⟨b, o, rfl, hb, hc⟩ := hs (by rw [Rw.flI_len _ _ hl]; omega)
  obtain ⟨g0, g1, g2⟩ := Rw.flI_get rs ads i r a hr ha
  have hlen := Rw.flI_len rs ads hl
  refine ⟨b, o, a, rfl, hb, ?_, ?_, ?_, hm i r a hr ha⟩
  · rw [hc _ (by omega), g0]
  · rw [Nat.add_assoc, hc _ (by omega), g1]
  · rw [Nat.add_assoc, hc _ (by omega), g2]

set_option maxRecDepth 100000 in
set_option maxHeartbeats 4000000 in
theorem Rw.same_any (A1 A2 : Option Addr) (n c1 c2 : Nat) (rs : List Rw.Row) (w : World) (hn : rs.length = n) (hN : n ≤ 1000000) (hbd : ∀ r ∈ rs, (-2147483648 ≤ r.1 ∧ r.1 ≤ 2147483647) ∧ r.2.2.length ≤ 1000000 ∧ ∀ x ∈ r.2.2, -2147483648 ≤ x ∧ x ≤ 2147483647)
    (h1 : Rw.Sees w A1 rs) (h2 : Rw.SeesI w A2 rs) :
    Calls Tryz.prog 11 #[.slice A1 n c1, .slice A2 n c2] w fun e w' => e = .returned (.bool true) ∧ Below w.heap.size w w' := by
  have HN := Lib.hid hn
  have HBD := Lib.hid hbd
  have H1 := Lib.hid h1
  have H2 := Lib.hid h2
  clear hn hbd h1 h2
  go_enter Tryz.func11, Tryz.ntmps11
  go_wp2_with fail
  go_loopw [5, 6, 7, 8, 16] (fun _ _ _ _ i wr => ∃ j : Nat, j ≤ n ∧ i = .int .i64 j ∧ Below w.heap.size w wr) (fun _ _ _ _ i _ => n - (intOf i).toNat)
  case atStart => exact ⟨0, Nat.zero_le _, rfl, Below.refl _ _⟩
  case round =>
    obtain ⟨j, hj, rfl, hbel⟩ := hrel
    obtain ⟨wo, hwo⟩ : ∃ wo : World, wo = wr := ⟨_, rfl⟩
    subst hwo
    by_cases hlt : j < n
    · obtain ⟨r, hr⟩ : ∃ r, rs[j]? = some r := ⟨_, List.getElem?_eq_getElem (by rw [HN.out]; exact hlt)⟩
      obtain ⟨hc, hml, hmb⟩ := HBD.out r (List.mem_of_getElem? hr)
      obtain ⟨g1, o1, a1, rfl, gl1, x1, x2, x3, s1⟩ := (H1.out.below hbel).row hr
      obtain ⟨g2, o2, a2, rfl, gl2, y1, y2, y3, s2⟩ := (H2.out.below hbel).row hr
      obtain ⟨c, k, m⟩ := r
      obtain ⟨B1, b1⟩ := a1
      obtain ⟨B2, b2⟩ := a2
      simp only at hc hml hmb x1 x2 x3 s1 y1 y2 y3 s2
      obtain ⟨nm, hnm⟩ : ∃ q, m.length = q := ⟨_, rfl⟩
      rw [hnm] at x3 y3 hml
      have ec : IntKind.i64.wrap c = c := by rw [IntKind.wrap_i64]; omega
      have hb0 := hbel
      have hrb : Below wo.heap.size wo (wo.alloc (.cells #[.int .i64 c, .int .i64 k, .slice B2 nm b2] 27)) := (Below.refl _ _).alloc (Nat.le_refl _) _
      have S1 := Lib.hid (s1.below hrb (Nat.le_refl _))
      have S2 := Lib.hid (s2.below hrb (Nat.le_refl _))
      have hat : Rw.At (wo.alloc (.cells #[.int .i64 c, .int .i64 k, .slice B2 nm b2] 27)) wo.heap.size 27 [.int .i64 c, .int .i64 k, .slice B2 nm b2] := Rw.At.new wo 27 [.int .i64 c, .int .i64 k, .slice B2 nm b2]
      have jI : (j : Int) < n := by omega
      have j0 : (0 : Int) ≤ (j : Int) := by omega
      have HNM := Lib.hid hnm
      have HMB := Lib.hid hmb
      have HBEL := Lib.hid hbel
      have HRB := Lib.hid hrb
      obtain ⟨q1, q2, q3, _, _, _⟩ := hat.three
      clear hnm hmb hbel hr s1 s2 hb0 hrb hat
      go_wp2_with fail
      go_quiet (fail)
      go_wp2_with fail
      go_loop [7, 8, 55] (fun _ _ i => ∃ t : Nat, t ≤ nm ∧ i = .int .i64 t) (fun _ _ i => nm - (intOf i).toNat)
      case atStart => exact ⟨0, Nat.zero_le _, rfl⟩
      case round =>
        obtain ⟨t, ht, rfl⟩ := hrel
        by_cases htl : t < nm
        · obtain ⟨x, hx⟩ : ∃ x, m[t]? = some x := ⟨_, List.getElem?_eq_getElem (by rw [HNM.out]; exact htl)⟩
          have hxb := HMB.out x (List.mem_of_getElem? hx)
          obtain ⟨ga, oa, rfl, hga, hca⟩ := S1.out (by rw [List.length_map, HNM.out]; omega)
          obtain ⟨gb, ob, rfl, hgb, hcb⟩ := S2.out (by rw [List.length_map, HNM.out]; omega)
          have h1 := hca t (by rw [List.length_map, HNM.out]; exact htl)
          have h2 := hcb t (by rw [List.length_map, HNM.out]; exact htl)
          rw [List.getElem?_map, hx, Option.map_some] at h1 h2
          have ex : IntKind.i64.wrap x = x := by rw [IntKind.wrap_i64]; omega
          have tI : (t : Int) < nm := by omega
          have t0 : (0 : Int) ≤ (t : Int) := by omega
          clear hca hcb hx hxb
          go_wp2_with fail
          exact ⟨⟨t + 1, by omega, by go_num⟩, by simp [intOf]; omega⟩
        · obtain rfl : t = nm := by omega
          have tI : ¬ (t : Int) < t := by omega
          go_wp2_with fail
          exact ⟨⟨j + 1, by omega, by go_num, below_drewN (HBEL.out.trans (HRB.out.mono HBEL.out.size)) _⟩, by simp [intOf]; omega⟩
    · obtain rfl : j = n := by omega
      have jI : ¬ (j : Int) < j := by omega
      have HB := Lib.hid hbel
      clear hbel
      go_wp2_with fail
      go_ret
      exact ⟨rfl, HB.out⟩
end Go.Proofs.YtppmcnpjglackaaGreatDoor
