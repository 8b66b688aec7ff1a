/- The laws' own row of a document's row, by walking its text. -/
import Derived.Test.YtkmfegamblmpeaaGreatDoorMdFind
import Derived.Test.YtkmfegamblmpeaaGreatDoorClone
import Derived.BigRegion
import Derived.Deep.RegionWith
import Derived.Deep.RegionLaw
import Derived.Deep.RegionHeld3
import Derived.Test.YtkmfegamblmpeaaGreatDoorPgLib
import Derived.RegionTactic
import Derived.Test.YtkmfegamblmpeaaGreatDoorUdPlain
import Derived.RangeFuncCalls
namespace Go.Proofs.YtkmfegamblmpeaaGreatDoor
open Go.RowKit
set_option linter.unusedSimpArgs false
set_option linter.unusedVariables false

theorem Rw.results1 {P : Program} {fn : Func} {p : Tmp} {ty : TypeId} (h : fn.results = #[.cell p ty]) (tmps : Array Value) (w : World) (g : Nat) (t : TypeId) (cs : Array Value) (fr : Nat × Nat) (d : TypeDesc)
    (hp : tmps.getD p undef = .pointer (some ⟨g, 0, none⟩)) (hg : w.heap[g]? = some (.cells cs t fr))
    (hu : P.underlying ty = some d) (hd : (match d with | .struct _ | .array _ _ => true | _ => false) = true) (hi : (P.info? ty).map (·.size) = some cs.size) :
    (results fn tmps).run P w = .ok (.agg cs) w := by
  have hp' : tmps[p]?.getD undef = .pointer (some ⟨g, 0, none⟩) := by simpa using hp
  simp [results, h, hp', asAddr, run_loadVar_row w g t ty cs fr d hg hu hd hi]
def Rw.RetOwn (c k : Int) (m : List Int) (w : World) (e : Ending) (w' : World) : Prop :=
  ∃ A n cp, e = .returned (.agg #[.int .i32 c, .int .i64 k, .slice A n cp]) ∧ m.length = n ∧ Slt w' 21 A (m.map (Value.int .i32)) ∧ Below w.heap.size w w'

set_option maxRecDepth 100000 in
set_option maxHeartbeats 4000000 in
theorem Rw.own_any (c k : Int) (A : Option Addr) (m : List Int) (n cp B : Nat) (w : World) (c0 : -2147483648 ≤ c) (c1 : c ≤ 2147483647) (hn : m.length = n) (hm : n ≤ 100000) (hmb : ∀ x ∈ m, -2147483648 ≤ x ∧ x ≤ 2147483647)
    (hB : B ≤ w.heap.size) (hA : Sl w B A (m.map (Value.int .i64))) :
    Calls Tryz.prog 58 #[.agg #[.int .i64 c, .int .i64 k, .slice A n cp]] w (Rw.RetOwn c k m w) := by
  have HN := Lib.hid hn
  have HMB := Lib.hid hmb
  obtain ⟨i0, hi, hi0, hi1, hi2⟩ := info_parts infoRune
  have ec : IntKind.i32.wrap c = c := by rw [IntKind.wrap_i32]; omega
  clear hn hmb
  go_enter Tryz.func58, Tryz.ntmps58
  go_wp2_with fail
  obtain ⟨wa, hwa⟩ : ∃ wa, ((w.alloc (.cells #[.int .i64 c, .int .i64 k, .slice A n cp] 59)).alloc (.cells #[.int .i32 0, .int .i64 0, .slice none 0 0] 99)).alloc (.cells #[.int .i32 c, .int .i64 k, .slice none 0 0] 99) = wa := ⟨_, rfl⟩
  have hz : w.heap.size + 2 < wa.heap.size := by rw [← hwa]; simp
  have hbelA : Below w.heap.size w wa := by rw [← hwa]; exact (((Below.refl _ _).alloc (Nat.le_refl _) _).alloc (by simp) _).alloc (by simp; omega) _
  have hat1 : Rw.At wa (w.heap.size + 1) 99 [.int .i32 0, .int .i64 0, .slice none 0 0] := by
    have h := Rw.At.new (w.alloc (.cells #[.int .i64 c, .int .i64 k, .slice A n cp] 59)) 99 [.int .i32 0, .int .i64 0, .slice none 0 0]
    rw [World.size_alloc] at h
    rw [← hwa]
    exact h.alloc _
  have hat2 : Rw.At wa (w.heap.size + 2) 99 [.int .i32 c, .int .i64 k, .slice none 0 0] := by
    have h := Rw.At.new ((w.alloc (.cells #[.int .i64 c, .int .i64 k, .slice A n cp] 59)).alloc (.cells #[.int .i32 0, .int .i64 0, .slice none 0 0] 99)) 99 [.int .i32 c, .int .i64 k, .slice none 0 0]
    rw [World.size_alloc, World.size_alloc] at h
    rw [← hwa]
    exact h
  rw [hwa]
  have HA := Lib.hid (hA.below (hbelA.mono hB) (Nat.le_refl _))
  have HBA := Lib.hid hbelA
  clear hwa hA hbelA
  go_loopw [5, 15] (fun _ i wr => ∃ (j : Nat) (v : Value), j ≤ n ∧ i = .int .i64 j ∧ Rw.At wr (w.heap.size + 1) 99 [.int .i32 0, .int .i64 0, .slice none 0 0] ∧ Rw.At wr (w.heap.size + 2) 99 [.int .i32 c, .int .i64 k, v] ∧
      wr.ownsRow (w.heap.size + 3) 21 1 v j ((m.take j).map (Value.int .i32)) ∧ Below (w.heap.size + 2) wa wr) (fun _ i _ => n - (intOf i).toNat)
  case atStart => exact ⟨0, .slice none 0 0, Nat.zero_le _, rfl, hat1, hat2, World.ownsRow_nil _ _ _ _, Below.refl _ _⟩
  case round =>
    obtain ⟨j, v, hj, rfl, ha1, ha2, hown, hbel⟩ := hrel
    have hzr : w.heap.size + 3 ≤ wr.heap.size := Nat.le_trans hz hbel.size
    obtain ⟨d1, d2, d3, d4, d5, d6⟩ := ha2.three
    by_cases hlt : j < n
    · obtain ⟨x, hx⟩ : ∃ x, m[j]? = some x := ⟨_, List.getElem?_eq_getElem (by rw [HN.out]; exact hlt)⟩
      have hxb := HMB.out x (List.mem_of_getElem? hx)
      obtain ⟨ab, ao, rfl, hab, hac⟩ := HA.out (by rw [List.length_map, HN.out]; omega)
      have hc := hac j (by rw [List.length_map, HN.out]; exact hlt)
      rw [List.getElem?_map, hx, Option.map_some, ← (bcell hbel).1 _ _ (by omega)] at hc
      have ex : IntKind.i32.wrap x = x := by rw [IntKind.wrap_i32]; omega
      have hnext : (m.take (j + 1)).map (Value.int .i32) = (m.take j).map (Value.int .i32) ++ [.int .i32 x] := by
        rw [List.take_add_one, hx]; simp
      have jI : (j : Int) < n := by omega
      have habr : ab < wr.heap.size := by omega
      have h2r : w.heap.size + 2 < wr.heap.size := hzr
      have HNX := Lib.hid hnext
      have HBEL := Lib.hid hbel
      clear hnext hbel hx hac hxb
      go_wp2_with (first | (at_builtin; refine wpList_push1 _ rfl _ _ _ rfl (w.heap.size + 3) 21 i0 _ 4 Tryz.underlying36 hi hi0 hi1 hi2 rfl _ j _ rfl hown _ rfl rfl (by simp only [maxLen]; omega) (by omega) hzr ?_; intro v1 w4 hown4 hb4; have hat4 := ha2.below' hb4 (Nat.lt_succ_self _); obtain ⟨e1, e2, e3, e4, e5, e6⟩ := hat4.three; obtain ⟨A4, c4, rfl⟩ := own_form hown4) | fail)
      exact ⟨⟨j + 1, _, by omega, by go_num, (ha1.below' hb4 (by omega)).other (show w.heap.size + 1 ≠ w.heap.size + 2 by omega) _, hat4.set 2 _, by rw [HNX.out]; exact Rw.own_grown hown4 (Nat.lt_succ_self _) (Rw.grown_set _ 2 _), (HBEL.out.trans (hb4.mono (Nat.le_succ _))).setCell (p := ⟨w.heap.size + 2, 2, none⟩) (Nat.le_refl _) _⟩, by simp [intOf]; omega⟩
    · obtain rfl : j = n := by omega
      have jI : ¬ (j : Int) < j := by omega
      rw [List.take_of_length_le (by rw [HN.out]; exact Nat.le_refl _)] at hown
      obtain ⟨A4, c4, rfl⟩ := own_form hown
      have g1 := ha1.frozen 0
      have g2 := ha1.frozen 1
      have g3 := ha1.frozen 2
      obtain ⟨x1, x2, x3, _, _, _⟩ := ha1.three
      have HB4 := Lib.hid (HBA.out.trans (hbel.mono (show w.heap.size ≤ w.heap.size + 2 by omega)))
      have HOWN := Lib.hid hown
      clear hbel hown
      go_wp2_with fail
      have k1 := ha1.set 0 (.int .i32 c)
      have k2 := k1.set 1 (.int .i64 k)
      have k3 := k2.set 2 (.slice A4 j c4)
      refine bodyPost_ret (Rw.results1 rfl _ _ (w.heap.size + 1) _ _ _ _ rfl k3 Tryz.underlying99 rfl (by kernel_rfl)) rfl ⟨A4, j, c4, rfl, HN.out, ?_, ?_⟩
      · exact (((Slt.of_own HOWN.out).setAt ha1 (by decide) 0 _).setAt k1 (by decide) 1 _).setAt k2 (by decide) 2 _
      · exact ((HB4.out.setCell (p := ⟨w.heap.size + 1, 0, none⟩) (Nat.le_succ _) _).setCell (p := ⟨w.heap.size + 1, 1, none⟩) (Nat.le_succ _) _).setCell (p := ⟨w.heap.size + 1, 2, none⟩) (Nat.le_succ _) _
end Go.Proofs.YtkmfegamblmpeaaGreatDoor

/- The document's rows that a call makes. -/
namespace Go.Proofs.YtkmfegamblmpeaaGreatDoor
open Go.RowKit
set_option linter.unusedSimpArgs false
set_option linter.unusedVariables false

theorem Rw.flI_app : ∀ (rs : List Rw.Row) (ads : List (Option Addr × Nat)) (r : Rw.Row) (a : Option Addr × Nat), ads.length = rs.length →
    Rw.flI (rs ++ [r]) (ads ++ [a]) = Rw.flI rs ads ++ [.int .i64 r.1, .int .i64 r.2.1, .slice a.1 r.2.2.length a.2]
  | [], [], r, a, _ => rfl
  | [], _ :: _, _, _, h => by simp at h
  | q :: rs, [], r, a, h => by simp at h
  | q :: rs, b :: ads, r, a, h => by
    simp only [List.cons_append, Rw.flI]
    rw [Rw.flI_app rs ads r a (by simpa using h)]
/-- The mappings of rows, each at its address. -/
def Rw.MapsI (w : World) (rs : List Rw.Row) (ads : List (Option Addr × Nat)) : Prop := ∀ (i : Nat) (r : Rw.Row) (a : Option Addr × Nat), rs[i]? = some r → ads[i]? = some a → Slt w 3 a.1 (r.2.2.map (Value.int .i64))
theorem Rw.MapsI.app {w : World} {rs : List Rw.Row} {ads : List (Option Addr × Nat)} (h : Rw.MapsI w rs ads) (hl : ads.length = rs.length) {r : Rw.Row} {a : Option Addr × Nat} (hr : Slt w 3 a.1 (r.2.2.map (Value.int .i64))) : Rw.MapsI w (rs ++ [r]) (ads ++ [a]) := by
  intro i q x hq hx
  rcases Nat.lt_or_ge i rs.length with hi | hi
  · rw [List.getElem?_append_left hi] at hq
    rw [List.getElem?_append_left (by omega)] at hx
    exact h i q x hq hx
  · rw [List.getElem?_append_right hi] at hq
    rw [List.getElem?_append_right (by omega)] at hx
    obtain ⟨j, hj⟩ : ∃ j, i - rs.length = j := ⟨_, rfl⟩
    rw [hl, hj] at hx
    rw [hj] at hq
    rcases j with _ | j
    · simp at hq hx
      subst hq hx
      exact hr
    · simp at hq
theorem Rw.MapsI.below {w w' : World} {rs : List Rw.Row} {ads : List (Option Addr × Nat)} (h : Rw.MapsI w rs ads) (hb : Below w.heap.size w w') : Rw.MapsI w' rs ads := fun i r a h1 h2 => (h i r a h1 h2).below hb
theorem Rw.MapsI.grown {w w' : World} {rs : List Rw.Row} {ads : List (Option Addr × Nat)} {row : Option Nat} (h : Rw.MapsI w rs ads) (hg : w.grownBy w' row) (hr : ∀ k, row = some k → ∀ cs z, w.heap[k]? ≠ some (.cells cs 3 z)) : Rw.MapsI w' rs ads :=
  fun i r a h1 h2 => (h i r a h1 h2).grown hg hr
theorem Rw.seesI_mk {w : World} {A : Option Addr} {rs : List Rw.Row} {ads : List (Option Addr × Nat)} (hl : ads.length = rs.length) (hs : Slt w 59 A (Rw.flI rs ads)) (hm : Rw.MapsI w rs ads) : Rw.SeesI w A rs :=
  ⟨ads, hl, hs.sl, fun i r a h1 h2 => (hm i r a h1 h2).sl⟩
theorem Rw.At.slt {w : World} {b : Nat} {t : TypeId} {cs : List Value} (h : Rw.At w b t cs) : Slt w t (some ⟨b, 0, none⟩) cs :=
  fun _ => ⟨b, 0, cs.toArray, rfl, h, fun i _ => by simp⟩
theorem infoRowI : (Tryz.prog.info? 59).map (fun i => (i.zero, i.size, i.bytes)) = some (some (.agg #[.int .i64 0, .int .i64 0, .slice none 0 0]), 3, 40) := by kernel_rfl
end Go.Proofs.YtkmfegamblmpeaaGreatDoor

/- The document's layer model: Class, Map, in, by walking their texts. -/
namespace Go.Proofs.YtkmfegamblmpeaaGreatDoor
open Go.RowKit
set_option linter.unusedSimpArgs false
set_option linter.unusedVariables false

/-- A document's table that is read: rows, and characters that aren't composed. -/
def Md.Doc (w : World) (v : Value) (T : List Rw.Row) (E : List Int) : Prop := ∃ A c XA xc, v = Md.tv A T.length c XA E.length xc ∧ Rw.SeesI w A T ∧ Sl w w.heap.size XA (E.map (Value.int .i64))
theorem Md.Doc.below {w w' : World} {v : Value} {T : List Rw.Row} {E : List Int} (h : Md.Doc w v T E) (hb : Below w.heap.size w w') : Md.Doc w' v T E := by
  obtain ⟨A, c, XA, xc, h1, h2, h3⟩ := h
  exact ⟨A, c, XA, xc, h1, h2.below hb, h3.below hb hb.size⟩

set_option maxRecDepth 100000 in
set_option maxHeartbeats 1000000 in
theorem Md.in_any (A : Option Addr) (n c : Nat) (l : List Int) (d : Int) (w : World) (hn : l.length = n) (hn' : n ≤ 1000000) (hA : Sl w w.heap.size A (l.map (Value.int .i64))) :
    Calls Tryz.prog 43 #[.slice A n c, .int .i64 d] w fun e w' => e = .returned (.bool (decide (d ∈ l))) ∧ w = w' := by
  obtain ⟨o, ho⟩ : ∃ o, decide (d ∈ l) = o := ⟨_, rfl⟩
  rw [ho]
  have HO := Lib.hid ho
  have HN := Lib.hid hn
  have HA := Lib.hid hA
  clear ho hn hA
  go_enter Tryz.func43, Tryz.ntmps43
  go_wp2_with fail
  go_loop [9] (fun i => ∃ k : Nat, k ≤ n ∧ i = .int .i64 k ∧ d ∉ l.take k) (fun i => n - (intOf i).toNat)
  case atStart => exact ⟨0, Nat.zero_le _, rfl, by simp⟩
  case round =>
    obtain ⟨k, hk, rfl, hno⟩ := hrel
    have HNO := Lib.hid hno
    clear hno
    by_cases hlt : k < n
    · obtain ⟨x, hx⟩ : ∃ x, l[k]? = some x := ⟨_, List.getElem?_eq_getElem (by rw [HN.out]; exact hlt)⟩
      obtain ⟨ab, ao, rfl, hab, hac⟩ := HA.out (by rw [List.length_map, HN.out]; omega)
      have hc := hac k (by rw [List.length_map, HN.out]; exact hlt)
      rw [List.getElem?_map, hx, Option.map_some] at hc
      have hkI : (k : Int) < n := by omega
      have HX := Lib.hid hx
      clear hac hx
      rcases hxd : (x == d) with _ | _
      · have hne : ¬ x = d := by simpa using hxd
        have HNE : Hid (d ∉ l.take (k + 1)) := Lib.hid (by
          rw [List.take_add_one, HX.out]
          intro h
          rcases List.mem_append.1 h with h | h
          · exact HNO.out h
          · simp at h
            exact hne h.symm)
        clear hne
        go_wp2_with fail
        go_round
        case rel => exact ⟨k + 1, by omega, by go_num, HNE.out⟩
        case measure => simp [intOf]; omega
      · have he : x = d := beq_iff_eq.1 hxd
        have hoo : o = true := by
          rw [← HO.out]
          exact decide_eq_true (by rw [← he]; exact List.mem_of_getElem? HX.out)
        have HOO := Lib.hid hoo
        clear he hoo
        go_wp2_with fail
        go_ret
        exact ⟨by rw [HOO.out]; rfl, rfl⟩
    · obtain rfl : n = k := by omega
      have hoo : o = false := by
        rw [← HO.out]
        have := HNO.out
        rw [List.take_of_length_le (by rw [HN.out]; exact Nat.le_refl _)] at this
        exact decide_eq_false this
      have HOO := Lib.hid hoo
      clear hoo hlt
      go_wp2_with fail
      go_ret
      exact ⟨by rw [HOO.out]; rfl, rfl⟩

theorem Md.find_take {T : List Rw.Row} {k : Nat} {r : Rw.Row} {c : Int} (hr : T[k]? = some r) (hno : ∀ q ∈ T.take k, q.1 ≠ c) (he : r.1 = c) : Md.find T c = some r := by
  obtain ⟨h1, h2⟩ := List.getElem?_eq_some_iff.1 hr
  rw [← List.take_append_drop k T, List.drop_eq_getElem_cons h1, h2]
  unfold Md.find
  rw [List.find?_append, List.find?_eq_none.2 (fun q hq => by simpa using hno q hq)]
  simp [he]
theorem Md.find_no {T : List Rw.Row} {k : Nat} {c : Int} (hk : T.length ≤ k) (hno : ∀ q ∈ T.take k, q.1 ≠ c) : Md.find T c = none := by
  rw [List.take_of_length_le hk] at hno
  exact Md.find_none hno
theorem Md.no_succ {T : List Rw.Row} {k : Nat} {r : Rw.Row} {c : Int} (hr : T[k]? = some r) (hno : ∀ q ∈ T.take k, q.1 ≠ c) (he : ¬ r.1 = c) : ∀ q ∈ T.take (k + 1), q.1 ≠ c := by
  rw [List.take_add_one, hr]
  intro q hq
  rcases List.mem_append.1 hq with hq | hq
  · exact hno q hq
  · simp at hq
    subst hq
    exact he

set_option maxRecDepth 100000 in
set_option maxHeartbeats 2000000 in
theorem Md.rcls_any (v : Value) (T : List Rw.Row) (E : List Int) (d : Int) (w : World) (hTn : T.length ≤ 1000000) (h : Md.Doc w v T E) :
    Calls Tryz.prog 11 #[v, .int .i64 d] w fun e w' => e = .returned (.int .i64 (Md.cls T d)) ∧ Below w.heap.size w w' := by
  obtain ⟨A, c, XA, xc, rfl, h2, hX⟩ := h
  obtain ⟨n, hn⟩ : ∃ k, T.length = k := ⟨_, rfl⟩
  obtain ⟨xn, hxn⟩ : ∃ k, E.length = k := ⟨_, rfl⟩
  rw [hn] at hTn ⊢
  rw [hxn]
  obtain ⟨res, hres⟩ : ∃ k, Md.cls T d = k := ⟨_, rfl⟩
  rw [hres]
  have hba : Below w.heap.size w (w.alloc (.cells #[.slice A n c, .slice XA xn xc] 25)) := (Below.refl _ _).alloc (Nat.le_refl _) _
  have hat : Rw.At (w.alloc (.cells #[.slice A n c, .slice XA xn xc] 25)) w.heap.size 25 [.slice A n c, .slice XA xn xc] := Rw.At.new w 25 [.slice A n c, .slice XA xn xc]
  obtain ⟨wa, hwa⟩ : ∃ wa, w.alloc (.cells #[.slice A n c, .slice XA xn xc] 25) = wa := ⟨_, rfl⟩
  rw [hwa] at hba hat
  have z0 := hat.cell 0 rfl
  have HWA := Lib.hid hwa
  have HBA := Lib.hid hba
  have HSEE := Lib.hid (h2.below hba)
  have HN := Lib.hid hn
  have HRES := Lib.hid hres
  clear hwa hba hat hn hxn hres h2 hX
  unfold Md.tv
  go_enter Tryz.func11, Tryz.ntmps11
  go_upto_region 1 with (fail)
  rw [HWA.out]
  go_wp2_with fail
  go_loopw [10] (fun i wr => ∃ k : Nat, k ≤ n ∧ i = .int .i64 k ∧ (∀ q ∈ T.take k, q.1 ≠ d) ∧ Below wa.heap.size wa wr) (fun i _ => n - (intOf i).toNat)
  case atStart => exact ⟨0, Nat.zero_le _, rfl, by simp, Below.refl _ _⟩
  case round =>
    obtain ⟨k, hk, rfl, hno, hbel⟩ := hrel
    have HNO := Lib.hid hno
    have HBEL := Lib.hid hbel
    clear hno
    by_cases hlt : k < n
    · obtain ⟨r, hr⟩ : ∃ r, T[k]? = some r := ⟨_, List.getElem?_eq_getElem (by rw [HN.out]; exact hlt)⟩
      obtain ⟨b, o, a, hA1, hb, c0, c1, c2, hsl⟩ := (HSEE.out.below hbel).row hr
      have hkI : (k : Int) < n := by omega
      have hatn := Rw.At.new wr 59 [.int .i64 r.1, .int .i64 r.2.1, .slice a.1 r.2.2.length a.2]
      obtain ⟨x0, x1, x2, _, _, _⟩ := hatn.three
      have HB2 := Lib.hid (hbel.alloc hbel.size (.cells #[.int .i64 r.1, .int .i64 r.2.1, .slice a.1 r.2.2.length a.2] 59))
      have HR := Lib.hid hr
      subst hA1
      clear hr hsl hbel hatn
      rcases hxd : (r.1 == d) with _ | _
      · have HNX := Lib.hid (Md.no_succ HR.out HNO.out (by simpa using hxd))
        go_wp2_with fail
        exact ⟨⟨k + 1, by omega, by go_num, HNX.out, HB2.out⟩, by simp [intOf]; omega⟩
      · have hrs : res = r.2.1 := by
          rw [← HRES.out]
          unfold Md.cls
          rw [Md.find_take HR.out HNO.out (beq_iff_eq.1 hxd)]
          rfl
        have HRS := Lib.hid hrs
        clear hrs
        go_wp2_with fail
        go_ret
        exact ⟨by rw [HRS.out]; rfl, HBA.out.trans (HB2.out.mono HBA.out.size)⟩
    · obtain rfl : n = k := by omega
      have hrs : res = 0 := by
        rw [← HRES.out]
        unfold Md.cls
        rw [Md.find_no (by rw [HN.out]; exact Nat.le_refl _) HNO.out]
        rfl
      have HRS := Lib.hid hrs
      clear hrs hlt
      go_wp2_with fail
      go_ret
      exact ⟨by rw [HRS.out]; rfl, HBA.out.trans (HBEL.out.mono HBA.out.size)⟩
end Go.Proofs.YtkmfegamblmpeaaGreatDoor

/- A quiet call inside a region that holds an append: its step. -/
namespace Go.Proofs.YtkmfegamblmpeaaGreatDoor
open Go.RowKit
set_option linter.unusedSimpArgs false
set_option linter.unusedVariables false

theorem step_quiet {P : Program} {ops : Array Oper} {o : Oper} {a : Act} {K : Act → World → Prop} {Q : Exit → Act → World → Prop} {E : Prop} (w : World) (hgd : o.guard = none) (f : FuncId) (x : Operand) (ts : Array TypeId)
    (ho : o.op = .call { callee := .value (.func f), args := #[x], argTypes := ts }) (entry : ∀ args w, (callFunc f args).run P w = .ok (.enter f args) w) (u : Value) (hv : a.eval x = u)
    (v : Value) (hC : Calls P f #[u] w fun e w' => e = .returned v ∧ w = w') (h : K (a.put o.dst v) w) :
    if Region.wanted o (yielded ops a.tmps) = true then Oper.wp P o a w K Q else E := by
  have hw : Region.wanted o (yielded ops a.tmps) = true := by simp [Region.wanted, hgd]
  rw [if_pos hw]
  have hrun : (execOp a.eval o).run P w = .ok (.enter f #[u]) w := by
    have hf : a.eval (.func f) = .func (.func f) #[] #[] := rfl
    unfold execOp
    subst hv
    simp [ho, resolve, invoke, go_sem, entry, hf]
  unfold Oper.wp
  rw [hrun, Oper.upon_enter]
  refine hC.mono ?_
  rintro e w' ⟨rfl, rfl⟩
  exact h
end Go.Proofs.YtkmfegamblmpeaaGreatDoor

/- A call of a Go function inside a region that holds an append: its step, whatever the contract says. -/
namespace Go.Proofs.YtkmfegamblmpeaaGreatDoor
open Go.RowKit
set_option linter.unusedSimpArgs false
set_option linter.unusedVariables false

theorem step_call {P : Program} {ops : Array Oper} {o : Oper} {a : Act} {K : Act → World → Prop} {Q : Exit → Act → World → Prop} {E : Prop} (w : World) (hgd : o.guard = none) (f : FuncId) (xs : List Operand) (ts : Array TypeId)
    (ho : o.op = .call { callee := .value (.func f), args := xs.toArray, argTypes := ts }) (entry : ∀ args w, (callFunc f args).run P w = .ok (.enter f args) w) (us : List Value) (hv : xs.map a.eval = us)
    (R : Ending → World → Prop) (hC : Calls P f us.toArray w R) (h : ∀ e w', R e w' → ∃ v, e = .returned v ∧ K (a.put o.dst v) w') :
    if Region.wanted o (yielded ops a.tmps) = true then Oper.wp P o a w K Q else E := by
  have hw : Region.wanted o (yielded ops a.tmps) = true := by simp [Region.wanted, hgd]
  rw [if_pos hw]
  have hrun : (execOp a.eval o).run P w = .ok (.enter f us.toArray) w := by
    have hf : a.eval (.func f) = .func (.func f) #[] #[] := rfl
    unfold execOp
    subst hv
    simp [ho, resolve, invoke, go_sem, entry, hf]
  unfold Oper.wp
  rw [hrun, Oper.upon_enter]
  refine hC.mono ?_
  intro e w' hR
  obtain ⟨v, rfl, hK⟩ := h e w' hR
  exact hK
end Go.Proofs.YtkmfegamblmpeaaGreatDoor
