/- The laws' own row of a document's row, by walking its text. -/
import Derived.Test.YtamcpdggpdaioaaMdFind
import Derived.Test.YtamcpdggpdaioaaMdTable
import Derived.BigRegion
import Derived.Deep.RegionWith
import Derived.Deep.RegionLaw
import Derived.Deep.RegionHeld3
namespace Go.Proofs.Ytamcpdggpdaioaa
open Go.RowKit
set_option linter.unusedSimpArgs false
set_option linter.unusedVariables false

theorem Rw.results1 {P : Program} {fn : Func} {p : Tmp} {ty : TypeId} (h : fn.results = #[.cell p ty]) (tmps : Array Value) (w : World) (g : Nat) (t : TypeId) (cs : Array Value) (fr : Nat × Nat) (d : TypeDesc)
    (hp : tmps.getD p undef = .pointer (some ⟨g, 0, none⟩)) (hg : w.heap[g]? = some (.cells cs t fr))
    (hu : P.underlying ty = some d) (hd : (match d with | .struct _ | .array _ _ => true | _ => false) = true) (hi : (P.info? ty).map (·.size) = some cs.size) :
    (results fn tmps).run P w = .ok (.agg cs) w := by
  have hp' : tmps[p]?.getD undef = .pointer (some ⟨g, 0, none⟩) := by simpa using hp
  simp [results, h, hp', asAddr, run_loadVar_row w g t ty cs fr d hg hu hd hi]
def Rw.RetOwn (c k : Int) (m : List Int) (w : World) (e : Ending) (w' : World) : Prop :=
  ∃ A n cp, e = .returned (.agg #[.int .i32 c, .int .i64 k, .slice A n cp]) ∧ m.length = n ∧ Slt w' 21 A (m.map (Value.int .i32)) ∧ Below w.heap.size w w'

set_option maxRecDepth 100000 in
set_option maxHeartbeats 4000000 in
theorem Rw.own_any (c k : Int) (A : Option Addr) (m : List Int) (n cp B : Nat) (w : World) (c0 : -2147483648 ≤ c) (c1 : c ≤ 2147483647) (hn : m.length = n) (hm : n ≤ 100000) (hmb : ∀ x ∈ m, -2147483648 ≤ x ∧ x ≤ 2147483647)
    (hB : B ≤ w.heap.size) (hA : Sl w B A (m.map (Value.int .i64))) :
    Calls Try.prog 35 #[.agg #[.int .i64 c, .int .i64 k, .slice A n cp]] w (Rw.RetOwn c k m w) := by
  have HN := Lib.hid hn
  have HMB := Lib.hid hmb
  obtain ⟨i0, hi, hi0, hi1, hi2⟩ := info_parts infoRune
  have ec : IntKind.i32.wrap c = c := by rw [IntKind.wrap_i32]; omega
  clear hn hmb
  go_enter Try.func35, Try.ntmps35
  go_wp2_with fail
  obtain ⟨wa, hwa⟩ : ∃ wa, ((w.alloc (.cells #[.int .i64 c, .int .i64 k, .slice A n cp] 58)).alloc (.cells #[.int .i32 0, .int .i64 0, .slice none 0 0] 84)).alloc (.cells #[.int .i32 c, .int .i64 k, .slice none 0 0] 84) = wa := ⟨_, rfl⟩
  have hz : w.heap.size + 2 < wa.heap.size := by rw [← hwa]; simp
  have hbelA : Below w.heap.size w wa := by rw [← hwa]; exact (((Below.refl _ _).alloc (Nat.le_refl _) _).alloc (by simp) _).alloc (by simp; omega) _
  have hat1 : Rw.At wa (w.heap.size + 1) 84 [.int .i32 0, .int .i64 0, .slice none 0 0] := by
    have h := Rw.At.new (w.alloc (.cells #[.int .i64 c, .int .i64 k, .slice A n cp] 58)) 84 [.int .i32 0, .int .i64 0, .slice none 0 0]
    rw [World.size_alloc] at h
    rw [← hwa]
    exact h.alloc _
  have hat2 : Rw.At wa (w.heap.size + 2) 84 [.int .i32 c, .int .i64 k, .slice none 0 0] := by
    have h := Rw.At.new ((w.alloc (.cells #[.int .i64 c, .int .i64 k, .slice A n cp] 58)).alloc (.cells #[.int .i32 0, .int .i64 0, .slice none 0 0] 84)) 84 [.int .i32 c, .int .i64 k, .slice none 0 0]
    rw [World.size_alloc, World.size_alloc] at h
    rw [← hwa]
    exact h
  rw [hwa]
  have HA := Lib.hid (hA.below (hbelA.mono hB) (Nat.le_refl _))
  have HBA := Lib.hid hbelA
  clear hwa hA hbelA
  go_loopw [5, 15] (fun _ i wr => ∃ (j : Nat) (v : Value), j ≤ n ∧ i = .int .i64 j ∧ Rw.At wr (w.heap.size + 1) 84 [.int .i32 0, .int .i64 0, .slice none 0 0] ∧ Rw.At wr (w.heap.size + 2) 84 [.int .i32 c, .int .i64 k, v] ∧
      wr.ownsRow (w.heap.size + 3) 21 1 v j ((m.take j).map (Value.int .i32)) ∧ Below (w.heap.size + 2) wa wr) (fun _ i _ => n - (intOf i).toNat)
  case atStart => exact ⟨0, .slice none 0 0, Nat.zero_le _, rfl, hat1, hat2, World.ownsRow_nil _ _ _ _, Below.refl _ _⟩
  case round =>
    obtain ⟨j, v, hj, rfl, ha1, ha2, hown, hbel⟩ := hrel
    have hzr : w.heap.size + 3 ≤ wr.heap.size := Nat.le_trans hz hbel.size
    obtain ⟨d1, d2, d3, d4, d5, d6⟩ := ha2.three
    by_cases hlt : j < n
    · obtain ⟨x, hx⟩ : ∃ x, m[j]? = some x := ⟨_, List.getElem?_eq_getElem (by rw [HN.out]; exact hlt)⟩
      have hxb := HMB.out x (List.mem_of_getElem? hx)
      obtain ⟨ab, ao, rfl, hab, hac⟩ := HA.out (by rw [List.length_map, HN.out]; omega)
      have hc := hac j (by rw [List.length_map, HN.out]; exact hlt)
      rw [List.getElem?_map, hx, Option.map_some, ← (bcell hbel).1 _ _ (by omega)] at hc
      have ex : IntKind.i32.wrap x = x := by rw [IntKind.wrap_i32]; omega
      have hnext : (m.take (j + 1)).map (Value.int .i32) = (m.take j).map (Value.int .i32) ++ [.int .i32 x] := by
        rw [List.take_add_one, hx]; simp
      have jI : (j : Int) < n := by omega
      have habr : ab < wr.heap.size := by omega
      have h2r : w.heap.size + 2 < wr.heap.size := hzr
      have HNX := Lib.hid hnext
      have HBEL := Lib.hid hbel
      clear hnext hbel hx hac hxb
      go_wp2_with (first | (at_builtin; refine wpList_push1 _ rfl _ _ _ rfl (w.heap.size + 3) 21 i0 _ 4 Try.underlying47 hi hi0 hi1 hi2 rfl _ j _ rfl hown _ rfl rfl (by simp only [maxLen]; omega) (by omega) hzr ?_; intro v1 w4 hown4 hb4; have hat4 := ha2.below' hb4 (Nat.lt_succ_self _); obtain ⟨e1, e2, e3, e4, e5, e6⟩ := hat4.three; obtain ⟨A4, c4, rfl⟩ := own_form hown4) | fail)
      exact ⟨⟨j + 1, _, by omega, by go_num, (ha1.below' hb4 (by omega)).other (show w.heap.size + 1 ≠ w.heap.size + 2 by omega) _, hat4.set 2 _, by rw [HNX.out]; exact Rw.own_grown hown4 (Nat.lt_succ_self _) (Rw.grown_set _ 2 _), (HBEL.out.trans (hb4.mono (Nat.le_succ _))).setCell (p := ⟨w.heap.size + 2, 2, none⟩) (Nat.le_refl _) _⟩, by simp [intOf]; omega⟩
    · obtain rfl : j = n := by omega
      have jI : ¬ (j : Int) < j := by omega
      rw [List.take_of_length_le (by rw [HN.out]; exact Nat.le_refl _)] at hown
      obtain ⟨A4, c4, rfl⟩ := own_form hown
      have g1 := ha1.frozen 0
      have g2 := ha1.frozen 1
      have g3 := ha1.frozen 2
      obtain ⟨x1, x2, x3, _, _, _⟩ := ha1.three
      have HB4 := Lib.hid (HBA.out.trans (hbel.mono (show w.heap.size ≤ w.heap.size + 2 by omega)))
      have HOWN := Lib.hid hown
      clear hbel hown
      go_wp2_with fail
      have k1 := ha1.set 0 (.int .i32 c)
      have k2 := k1.set 1 (.int .i64 k)
      have k3 := k2.set 2 (.slice A4 j c4)
      refine bodyPost_ret (Rw.results1 rfl _ _ (w.heap.size + 1) _ _ _ _ rfl k3 Try.underlying84 rfl (by kernel_rfl)) rfl ⟨A4, j, c4, rfl, HN.out, ?_, ?_⟩
      · exact (((Slt.of_own HOWN.out).setAt ha1 (by decide) 0 _).setAt k1 (by decide) 1 _).setAt k2 (by decide) 2 _
      · exact ((HB4.out.setCell (p := ⟨w.heap.size + 1, 0, none⟩) (Nat.le_succ _) _).setCell (p := ⟨w.heap.size + 1, 1, none⟩) (Nat.le_succ _) _).setCell (p := ⟨w.heap.size + 1, 2, none⟩) (Nat.le_succ _) _
end Go.Proofs.Ytamcpdggpdaioaa

/- The document's rows that a call makes. -/
namespace Go.Proofs.Ytamcpdggpdaioaa
open Go.RowKit
set_option linter.unusedSimpArgs false
set_option linter.unusedVariables false

theorem Rw.flI_app : ∀ (rs : List Rw.Row) (ads : List (Option Addr × Nat)) (r : Rw.Row) (a : Option Addr × Nat), ads.length = rs.length →
    Rw.flI (rs ++ [r]) (ads ++ [a]) = Rw.flI rs ads ++ [.int .i64 r.1, .int .i64 r.2.1, .slice a.1 r.2.2.length a.2]
  | [], [], r, a, _ => rfl
  | [], _ :: _, _, _, h => by simp at h
  | q :: rs, [], r, a, h => by simp at h
  | q :: rs, b :: ads, r, a, h => by
    simp only [List.cons_append, Rw.flI]
    rw [Rw.flI_app rs ads r a (by simpa using h)]
/-- The mappings of rows, each at its address. -/
def Rw.MapsI (w : World) (rs : List Rw.Row) (ads : List (Option Addr × Nat)) : Prop := ∀ (i : Nat) (r : Rw.Row) (a : Option Addr × Nat), rs[i]? = some r → ads[i]? = some a → Slt w 3 a.1 (r.2.2.map (Value.int .i64))
theorem Rw.MapsI.app {w : World} {rs : List Rw.Row} {ads : List (Option Addr × Nat)} (h : Rw.MapsI w rs ads) (hl : ads.length = rs.length) {r : Rw.Row} {a : Option Addr × Nat} (hr : Slt w 3 a.1 (r.2.2.map (Value.int .i64))) : Rw.MapsI w (rs ++ [r]) (ads ++ [a]) := by
  intro i q x hq hx
  rcases Nat.lt_or_ge i rs.length with hi | hi
  · rw [List.getElem?_append_left hi] at hq
    rw [List.getElem?_append_left (by omega)] at hx
    exact h i q x hq hx
  · rw [List.getElem?_append_right hi] at hq
    rw [List.getElem?_append_right (by omega)] at hx
    obtain ⟨j, hj⟩ : ∃ j, i - rs.length = j := ⟨_, rfl⟩
    rw [hl, hj] at hx
    rw [hj] at hq
    rcases j with _ | j
    · simp at hq hx
      subst hq hx
      exact hr
    · simp at hq
theorem Rw.MapsI.below {w w' : World} {rs : List Rw.Row} {ads : List (Option Addr × Nat)} (h : Rw.MapsI w rs ads) (hb : Below w.heap.size w w') : Rw.MapsI w' rs ads := fun i r a h1 h2 => (h i r a h1 h2).below hb
theorem Rw.MapsI.grown {w w' : World} {rs : List Rw.Row} {ads : List (Option Addr × Nat)} {row : Option Nat} (h : Rw.MapsI w rs ads) (hg : w.grownBy w' row) (hr : ∀ k, row = some k → ∀ cs z, w.heap[k]? ≠ some (.cells cs 3 z)) : Rw.MapsI w' rs ads :=
  fun i r a h1 h2 => (h i r a h1 h2).grown hg hr
theorem Rw.seesI_mk {w : World} {A : Option Addr} {rs : List Rw.Row} {ads : List (Option Addr × Nat)} (hl : ads.length = rs.length) (hs : Slt w 58 A (Rw.flI rs ads)) (hm : Rw.MapsI w rs ads) : Rw.SeesI w A rs :=
  ⟨ads, hl, hs.sl, fun i r a h1 h2 => (hm i r a h1 h2).sl⟩
theorem Rw.At.slt {w : World} {b : Nat} {t : TypeId} {cs : List Value} (h : Rw.At w b t cs) : Slt w t (some ⟨b, 0, none⟩) cs :=
  fun _ => ⟨b, 0, cs.toArray, rfl, h, fun i _ => by simp⟩
theorem infoRowI : (Try.prog.info? 58).map (fun i => (i.zero, i.size, i.bytes)) = some (some (.agg #[.int .i64 0, .int .i64 0, .slice none 0 0]), 3, 40) := by kernel_rfl
end Go.Proofs.Ytamcpdggpdaioaa
