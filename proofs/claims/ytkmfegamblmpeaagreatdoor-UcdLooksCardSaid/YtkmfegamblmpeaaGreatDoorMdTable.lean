/- Slices whose block's type is known. -/
import Derived.Test.YtkmfegamblmpeaaGreatDoorUdPlain
import Derived.Test.YtkmfegamblmpeaaGreatDoorLib3
import Derived.RangeFuncRecord
import Derived.Deep.DeepCutAuto
import Derived.Deep.RegionWith
import Derived.BigRegion
namespace Go.Proofs.YtkmfegamblmpeaaGreatDoor
open Go.RowKit
set_option linter.unusedSimpArgs false
set_option linter.unusedVariables false

/-- A slice's cells: the list xs; its block is of the type t. -/
def Slt (w : World) (t : TypeId) (A : Option Addr) (xs : List Value) : Prop :=
  0 < xs.length → ∃ b o cs, A = some ⟨b, o, none⟩ ∧ w.heap[b]? = some (.cells cs t (0, 0)) ∧ ∀ i, i < xs.length → cs[o + i]? = xs[i]?
theorem Slt.nil (w : World) (t : TypeId) (A : Option Addr) : Slt w t A [] := fun h => absurd h (by simp)
theorem Slt.sl {w : World} {t : TypeId} {A : Option Addr} {xs : List Value} (h : Slt w t A xs) : Sl w w.heap.size A xs := by
  intro hx
  obtain ⟨b, o, cs, hA, hb, hc⟩ := h hx
  exact ⟨b, o, hA, heap_lt hb, fun i hi => by rw [← hc i hi]; simp [World.cell?, hb]⟩
theorem Slt.frozen {w : World} {t : TypeId} {b o : Nat} {xs : List Value} (h : Slt w t (some ⟨b, o, none⟩) xs) (hx : 0 < xs.length) (i : Nat) : w.frozen? ⟨b, i, none⟩ = false := by
  obtain ⟨b', o', cs, hA, hb, _⟩ := h hx
  simp only [Option.some.injEq, Addr.mk.injEq] at hA
  obtain ⟨rfl, rfl, _⟩ := hA
  simp [World.frozen?, hb]
theorem Slt.grown {w w' : World} {t : TypeId} {A : Option Addr} {xs : List Value} {row : Option Nat} (h : Slt w t A xs) (hg : w.grownBy w' row) (hr : ∀ k, row = some k → ∀ cs z, w.heap[k]? ≠ some (.cells cs t z)) : Slt w' t A xs := by
  intro hx
  obtain ⟨b, o, cs, hA, hb, hc⟩ := h hx
  exact ⟨b, o, cs, hA, (hg.block b (heap_lt hb) fun e => hr b e.symm cs (0, 0) hb).trans hb, hc⟩
theorem Slt.below {w w' : World} {t : TypeId} {A : Option Addr} {xs : List Value} (h : Slt w t A xs) (hb : Below w.heap.size w w') : Slt w' t A xs := by
  intro hx
  obtain ⟨b, o, cs, hA, hh, hc⟩ := h hx
  exact ⟨b, o, cs, hA, (hb.block b (heap_lt hh)).trans hh, hc⟩
theorem Slt.of_own {w : World} {base : Nat} {e : TypeId} {size n c : Nat} {A : Option Addr} {xs : List Value} (h : w.ownsRow base e size (.slice A n c) n xs) : Slt w e A xs := by
  intro hx
  obtain ⟨hl, h⟩ := h
  rcases h with ⟨hv, hn⟩ | ⟨g, cap, cur, hv, _, hg, _, _, _, htake⟩
  · subst hn; simp at hl; rw [hl] at hx; simp at hx
  · simp only [Value.slice.injEq] at hv
    obtain ⟨hA, _, _⟩ := hv
    refine ⟨g, 0, cur, hA, hg, fun i hi => ?_⟩
    rw [← htake]
    simp [List.getElem?_take, ← hl, hi]

end Go.Proofs.YtkmfegamblmpeaaGreatDoor

/- Rows in memory: the program's, the document's. -/
namespace Go.Proofs.YtkmfegamblmpeaaGreatDoor
open Go.RowKit
set_option linter.unusedSimpArgs false
set_option linter.unusedVariables false

/-- Rows' cells. -/
def Rw.fl : List Rw.Row → List (Option Addr × Nat) → List Value
  | r :: rs, a :: ads => .int .i32 r.1 :: .int .i64 r.2.1 :: .slice a.1 r.2.2.length a.2 :: Rw.fl rs ads
  | _, _ => []
theorem Rw.fl_len : ∀ (rs : List Rw.Row) (ads : List (Option Addr × Nat)), ads.length = rs.length → (Rw.fl rs ads).length = rs.length * 3
  | [], _, _ => by simp [Rw.fl]
  | r :: rs, [], h => by simp at h
  | r :: rs, a :: ads, h => by simp [Rw.fl, Rw.fl_len rs ads (by simpa using h)]; omega
theorem Rw.fl_app : ∀ (rs : List Rw.Row) (ads : List (Option Addr × Nat)) (r : Rw.Row) (a : Option Addr × Nat), ads.length = rs.length →
    Rw.fl (rs ++ [r]) (ads ++ [a]) = Rw.fl rs ads ++ [.int .i32 r.1, .int .i64 r.2.1, .slice a.1 r.2.2.length a.2]
  | [], [], r, a, _ => rfl
  | [], _ :: _, _, _, h => by simp at h
  | q :: rs, [], r, a, h => by simp at h
  | q :: rs, b :: ads, r, a, h => by
    simp only [List.cons_append, Rw.fl]
    rw [Rw.fl_app rs ads r a (by simpa using h)]
/-- The mappings of rows, each at its address. -/
def Rw.Maps (w : World) (rs : List Rw.Row) (ads : List (Option Addr × Nat)) : Prop := ∀ (i : Nat) (r : Rw.Row) (a : Option Addr × Nat), rs[i]? = some r → ads[i]? = some a → Slt w 21 a.1 (r.2.2.map (Value.int .i32))
theorem Rw.Maps.app {w : World} {rs : List Rw.Row} {ads : List (Option Addr × Nat)} (h : Rw.Maps w rs ads) (hl : ads.length = rs.length) {r : Rw.Row} {a : Option Addr × Nat} (hr : Slt w 21 a.1 (r.2.2.map (Value.int .i32))) : Rw.Maps w (rs ++ [r]) (ads ++ [a]) := by
  intro i q x hq hx
  rcases Nat.lt_or_ge i rs.length with hi | hi
  · rw [List.getElem?_append_left hi] at hq
    rw [List.getElem?_append_left (by omega)] at hx
    exact h i q x hq hx
  · rw [List.getElem?_append_right hi] at hq
    rw [List.getElem?_append_right (by omega)] at hx
    obtain ⟨j, hj⟩ : ∃ j, i - rs.length = j := ⟨_, rfl⟩
    rw [hl, hj] at hx
    rw [hj] at hq
    rcases j with _ | j
    · simp at hq hx
      subst hq hx
      exact hr
    · simp at hq
theorem Rw.Maps.below {w w' : World} {rs : List Rw.Row} {ads : List (Option Addr × Nat)} (h : Rw.Maps w rs ads) (hb : Below w.heap.size w w') : Rw.Maps w' rs ads := fun i r a h1 h2 => (h i r a h1 h2).below hb
theorem Rw.Maps.grown {w w' : World} {rs : List Rw.Row} {ads : List (Option Addr × Nat)} {row : Option Nat} (h : Rw.Maps w rs ads) (hg : w.grownBy w' row) (hr : ∀ k, row = some k → ∀ cs z, w.heap[k]? ≠ some (.cells cs 21 z)) : Rw.Maps w' rs ads :=
  fun i r a h1 h2 => (h i r a h1 h2).grown hg hr
theorem Rw.below_grown {b : Nat} {w w' : World} {row : Option Nat} (hg : w.grownBy w' row) (hb : b ≤ w.heap.size) (hr : ∀ k, row = some k → b ≤ k) : Below b w w' := (Below.refl b w).grown hg hb hr
theorem Rw.own_not {w : World} {base : Nat} {e t' : TypeId} {size n : Nat} {v : Value} {xs : List Value} (h : w.ownsRow base e size v n xs) (hne : e ≠ t') : ∀ k, v.ownBlock = some k → ∀ cs' z, w.heap[k]? ≠ some (.cells cs' t' z) := by
  intro k hk cs' z e'
  rcases h.2 with ⟨rfl, _⟩ | ⟨g, cap, cur, rfl, _, hg, _⟩
  · simp [Value.ownBlock] at hk
  · simp only [Value.ownBlock, Option.some.injEq] at hk
    subst hk
    have := hg.symm.trans e'
    simp only [Option.some.injEq, Obj.cells.injEq] at this
    exact hne this.2.1
theorem Rw.own_one {w : World} {base : Nat} {e : TypeId} {size n : Nat} {v : Value} {xs : List Value} (h : w.ownsRow base e size v n xs) : v.oneCell' = true := by
  obtain ⟨A, c, rfl⟩ := own_form h
  rfl
theorem Rw.own_ne {w : World} {base : Nat} {e : TypeId} {size n : Nat} {v : Value} {xs : List Value} (h : w.ownsRow base e size v n xs) (g : Nat) (hg : g < base) : v.ownBlock ≠ some g := fun hk => by have := (h.lt _ hk).1; omega
theorem Rw.own_grown {w w' : World} {base : Nat} {e : TypeId} {size n b : Nat} {v : Value} {xs : List Value} (h : w.ownsRow base e size v n xs) (hb : b < base) (hg : w.grownBy w' (some b)) : w'.ownsRow base e size v n xs :=
  h.kept hg (by
    rcases h.2 with ⟨rfl, _⟩ | ⟨g, cap, cur, rfl, hgb, _⟩
    · exact .inl rfl
    · refine .inr fun e' => ?_
      simp only [Value.ownBlock, Option.some.injEq] at e'
      omega)
theorem Rw.fl_get : ∀ (rs : List Rw.Row) (ads : List (Option Addr × Nat)) (i : Nat) (r : Rw.Row) (a : Option Addr × Nat), rs[i]? = some r → ads[i]? = some a →
    (Rw.fl rs ads)[i * 3]? = some (.int .i32 r.1) ∧ (Rw.fl rs ads)[i * 3 + 1]? = some (.int .i64 r.2.1) ∧ (Rw.fl rs ads)[i * 3 + 2]? = some (.slice a.1 r.2.2.length a.2)
  | [], _, i, _, _, h, _ => by simp at h
  | _ :: _, [], i, _, _, _, h => by simp at h
  | q :: rs, b :: ads, 0, r, a, h, h' => by simp at h h'; subst h h'; exact ⟨rfl, rfl, rfl⟩
  | q :: rs, b :: ads, i + 1, r, a, h, h' => by
    have := Rw.fl_get rs ads i r a (by simpa using h) (by simpa using h')
    rw [show (i + 1) * 3 = i * 3 + 1 + 1 + 1 by omega]
    exact this
/-- Rows that lie in memory. -/
def Rw.Tab (w : World) (A : Option Addr) (rs : List Rw.Row) : Prop := ∃ ads, ads.length = rs.length ∧ Slt w 99 A (Rw.fl rs ads) ∧ Rw.Maps w rs ads
/-- The document's rows' cells. -/
def Rw.flI : List Rw.Row → List (Option Addr × Nat) → List Value
  | r :: rs, a :: ads => .int .i64 r.1 :: .int .i64 r.2.1 :: .slice a.1 r.2.2.length a.2 :: Rw.flI rs ads
  | _, _ => []
theorem Rw.flI_len : ∀ (rs : List Rw.Row) (ads : List (Option Addr × Nat)), ads.length = rs.length → (Rw.flI rs ads).length = rs.length * 3
  | [], _, _ => by simp [Rw.flI]
  | r :: rs, [], h => by simp at h
  | r :: rs, a :: ads, h => by simp [Rw.flI, Rw.flI_len rs ads (by simpa using h)]; omega
theorem Rw.flI_get : ∀ (rs : List Rw.Row) (ads : List (Option Addr × Nat)) (i : Nat) (r : Rw.Row) (a : Option Addr × Nat), rs[i]? = some r → ads[i]? = some a →
    (Rw.flI rs ads)[i * 3]? = some (.int .i64 r.1) ∧ (Rw.flI rs ads)[i * 3 + 1]? = some (.int .i64 r.2.1) ∧ (Rw.flI rs ads)[i * 3 + 2]? = some (.slice a.1 r.2.2.length a.2)
  | [], _, i, _, _, h, _ => by simp at h
  | _ :: _, [], i, _, _, _, h => by simp at h
  | q :: rs, b :: ads, 0, r, a, h, h' => by simp at h h'; subst h h'; exact ⟨rfl, rfl, rfl⟩
  | q :: rs, b :: ads, i + 1, r, a, h, h' => by
    have := Rw.flI_get rs ads i r a (by simpa using h) (by simpa using h')
    rw [show (i + 1) * 3 = i * 3 + 1 + 1 + 1 by omega]
    exact this
/-- Rows that are read: the program's; the document's. -/
def Rw.Sees (w : World) (A : Option Addr) (rs : List Rw.Row) : Prop := ∃ ads : List (Option Addr × Nat), ads.length = rs.length ∧ Sl w w.heap.size A (Rw.fl rs ads) ∧
  ∀ (i : Nat) (r : Rw.Row) (a : Option Addr × Nat), rs[i]? = some r → ads[i]? = some a → Sl w w.heap.size a.1 (r.2.2.map (Value.int .i32))
def Rw.SeesI (w : World) (A : Option Addr) (rs : List Rw.Row) : Prop := ∃ ads : List (Option Addr × Nat), ads.length = rs.length ∧ Sl w w.heap.size A (Rw.flI rs ads) ∧
  ∀ (i : Nat) (r : Rw.Row) (a : Option Addr × Nat), rs[i]? = some r → ads[i]? = some a → Sl w w.heap.size a.1 (r.2.2.map (Value.int .i64))
theorem Rw.Tab.sees {w : World} {A : Option Addr} {rs : List Rw.Row} (h : Rw.Tab w A rs) : Rw.Sees w A rs := by
  obtain ⟨ads, hl, hs, hm⟩ := h
  exact ⟨ads, hl, hs.sl, fun i r a h1 h2 => (hm i r a h1 h2).sl⟩
theorem Rw.Sees.below {w w' : World} {A : Option Addr} {rs : List Rw.Row} (h : Rw.Sees w A rs) (hb : Below w.heap.size w w') : Rw.Sees w' A rs := by
  obtain ⟨ads, hl, hs, hm⟩ := h
  exact ⟨ads, hl, hs.below hb hb.size, fun i r a h1 h2 => (hm i r a h1 h2).below hb hb.size⟩
theorem Rw.SeesI.below {w w' : World} {A : Option Addr} {rs : List Rw.Row} (h : Rw.SeesI w A rs) (hb : Below w.heap.size w w') : Rw.SeesI w' A rs := by
  obtain ⟨ads, hl, hs, hm⟩ := h
  exact ⟨ads, hl, hs.below hb hb.size, fun i r a h1 h2 => (hm i r a h1 h2).below hb hb.size⟩
theorem Rw.Sees.row {w : World} {A : Option Addr} {rs : List Rw.Row} (h : Rw.Sees w A rs) {i : Nat} {r : Rw.Row} (hr : rs[i]? = some r) :
    ∃ (b o : Nat) (a : Option Addr × Nat), A = some ⟨b, o, none⟩ ∧ b < w.heap.size ∧ w.cell? ⟨b, o + i * 3, none⟩ = some (.int .i32 r.1) ∧ w.cell? ⟨b, o + i * 3 + 1, none⟩ = some (.int .i64 r.2.1) ∧ w.cell? ⟨b, o + i * 3 + 2, none⟩ = some (.slice a.1 r.2.2.length a.2) ∧
      Sl w w.heap.size a.1 (r.2.2.map (Value.int .i32)) := by
  obtain ⟨ads, hl, hs, hm⟩ := h
  have hi := (List.getElem?_eq_some_iff.1 hr).1
  obtain ⟨a, ha⟩ : ∃ a, ads[i]? = some a := ⟨_, List.getElem?_eq_getElem (by omega)⟩
  obtain ⟨b, o, rfl, hb, hc⟩ := hs (by rw [Rw.fl_len _ _ hl]; omega)
  obtain ⟨g0, g1, g2⟩ := Rw.fl_get rs ads i r a hr ha
  have hlen := Rw.fl_len rs ads hl
  refine ⟨b, o, a, rfl, hb, ?_, ?_, ?_, hm i r a hr ha⟩
  · rw [hc _ (by omega), g0]
  · rw [Nat.add_assoc, hc _ (by omega), g1]
  · rw [Nat.add_assoc, hc _ (by omega), g2]
theorem Rw.SeesI.row {w : World} {A : Option Addr} {rs : List Rw.Row} (h : Rw.SeesI w A rs) {i : Nat} {r : Rw.Row} (hr : rs[i]? = some r) :
    ∃ (b o : Nat) (a : Option Addr × Nat), A = some ⟨b, o, none⟩ ∧ b < w.heap.size ∧ w.cell? ⟨b, o + i * 3, none⟩ = some (.int .i64 r.1) ∧ w.cell? ⟨b, o + i * 3 + 1, none⟩ = some (.int .i64 r.2.1) ∧ w.cell? ⟨b, o + i * 3 + 2, none⟩ = some (.slice a.1 r.2.2.length a.2) ∧
      Sl w w.heap.size a.1 (r.2.2.map (Value.int .i64)) := by
  obtain ⟨ads, hl, hs, hm⟩ := h
  have hi := (List.getElem?_eq_some_iff.1 hr).1
  obtain ⟨a, ha⟩ : ∃ a, ads[i]? = some a := ⟨_, List.getElem?_eq_getElem (by omega)⟩
  obtain ⟨b, o, rfl, hb, hc⟩ := hs (by rw [Rw.flI_len _ _ hl]; omega)
  obtain ⟨g0, g1, g2⟩ := Rw.flI_get rs ads i r a hr ha
  have hlen := Rw.flI_len rs ads hl
  refine ⟨b, o, a, rfl, hb, ?_, ?_, ?_, hm i r a hr ha⟩
  · rw [hc _ (by omega), g0]
  · rw [Nat.add_assoc, hc _ (by omega), g1]
  · rw [Nat.add_assoc, hc _ (by omega), g2]
end Go.Proofs.YtkmfegamblmpeaaGreatDoor

/- The layer model: the search in a table, by walking its text. -/
namespace Go.Proofs.YtkmfegamblmpeaaGreatDoor
open Go.RowKit
set_option linter.unusedSimpArgs false
set_option linter.unusedVariables false

set_option maxRecDepth 100000 in
theorem Md.cmp_any (c d : Int) (u v : Value) (w : World) (h1 : -2147483648 ≤ c) (h2 : c ≤ 2147483647) (h3 : -2147483648 ≤ d) (h4 : d ≤ 2147483647) :
    Calls Tryz.prog 113 #[.agg #[.int .i32 c, u, v], .int .i32 d] w fun e w' => e = .returned (.int .i64 (c - d)) ∧ Below w.heap.size w w' := by
  have e1 : IntKind.i64.wrap c = c := by rw [IntKind.wrap_i64]; omega
  have e2 : IntKind.i64.wrap d = d := by rw [IntKind.wrap_i64]; omega
  have e3 : IntKind.i64.wrap (c - d) = c - d := by rw [IntKind.wrap_i64]; omega
  have hb : Below w.heap.size w (w.alloc (.cells #[.int .i32 c, u, v] 99)) := (Below.refl _ _).alloc (Nat.le_refl _) _
  have HB := Lib.hid hb
  clear hb
  go_enter Tryz.func113, Tryz.ntmps113
  go_wp2_with fail
  go_ret
  exact ⟨rfl, HB.out⟩

/-- What a search answers: whether the character has a row, and where. -/
def Md.Hit (T : List Rw.Row) (d : Int) (i : Nat) (is : Bool) : Prop := (is = true → ∃ r, T[i]? = some r ∧ Md.find T d = some r) ∧ (is = false → Md.find T d = none)

def Md.RetHit (T : List Rw.Row) (d : Int) (w : World) (e : Ending) (w' : World) : Prop := ∃ (i : Nat) (is : Bool), e = .returned (.tuple #[.int .i64 i, .bool is]) ∧ Md.Hit T d i is ∧ Below w.heap.size w w'

set_option maxRecDepth 100000 in
set_option maxHeartbeats 2000000 in
theorem Md.search_any (A : Option Addr) (n c : Nat) (T : List Rw.Row) (d : Int) (w : World) (hn : T.length = n) (hn' : n ≤ 1000000) (hr : Md.rises T) (hbd : Md.bd T) (h3 : -2147483648 ≤ d) (h4 : d ≤ 2147483647) (hA : Rw.Sees w A T) :
    Calls Tryz.prog 112 #[.slice A n c, .int .i32 d, .func (.func 113) #[] #[]] w
      (Md.RetHit T d w) := by
  have HN := Lib.hid hn
  have HR := Lib.hid hr
  have HD := Lib.hid hbd
  have HA := Lib.hid hA
  clear hn hr hbd hA
  go_enter Tryz.func112, Tryz.ntmps112
  go_wp2_with fail
  go_loopw [9, 10] (fun vi vj wr => ∃ i j : Nat, i ≤ j ∧ j ≤ n ∧ vi = .int .i64 i ∧ vj = .int .i64 j ∧ (∀ t r, t < i → T[t]? = some r → r.1 < d) ∧ (∀ t r, j ≤ t → T[t]? = some r → d ≤ r.1) ∧ Below w.heap.size w wr) (fun vi vj _ => (intOf vj).toNat - (intOf vi).toNat)
  case atStart => exact ⟨0, n, by omega, Nat.le_refl _, rfl, rfl, fun t r ht => by omega, fun t r ht hx => by have := (List.getElem?_eq_some_iff.1 hx).1; have := HN.out; omega, Below.refl _ _⟩
  case round =>
    obtain ⟨i, j, hij, hjn, rfl, rfl, hlo, hhi, hbel⟩ := hrel
    have HLO := Lib.hid hlo
    have HHI := Lib.hid hhi
    have HB := Lib.hid hbel
    clear hlo hhi
    by_cases hlt : (i : Int) < j
    · obtain ⟨x, hx⟩ : ∃ x, T[(i + j) / 2]? = some x := ⟨_, List.getElem?_eq_getElem (by rw [HN.out]; omega)⟩
      obtain ⟨b, o, a, hA1, hb, c0, c1, c2, _⟩ := (HA.out.below hbel).row hx
      have hxd := (HD.out x (List.mem_of_getElem? hx)).1
      have hc := Md.cmp_any x.1 d (.int .i64 x.2.1) (.slice a.1 x.2.2.length a.2) wr hxd.1 hxd.2 h3 h4
      have HX := Lib.hid hx
      have m0 : (0 : Int) ≤ (((i + j) / 2 : Nat) : Int) := by omega
      have m1 : (((i + j) / 2 : Nat) : Int) < n := by omega
      subst hA1
      clear hbel hx
      go_wp2_with fail
      refine hc.mono ?_
      rintro e w1 ⟨rfl, hb1⟩
      have hz := HB.out.size
      have HB1 := Lib.hid (HB.out.trans (hb1.mono hz))
      have hij2 : i < j := by omega
      clear hb1 hc c0 c1 c2 hlt
      by_cases hd : x.1 - d < 0
      · go_wp2_with fail
        refine ⟨⟨(i + j) / 2 + 1, j, by omega, hjn, by go_num, rfl, fun t r ht hx => ?_, HHI.out, HB1.out⟩, by simp [intOf]; omega⟩
        by_cases he : t = (i + j) / 2
        · rw [he, HX.out] at hx
          cases hx
          omega
        · have := Md.rises_get HR.out hx HX.out (by omega)
          omega
      · go_wp2_with fail
        refine ⟨⟨i, (i + j) / 2, by omega, by omega, rfl, by go_num, HLO.out, fun t r ht hx => ?_, HB1.out⟩, by simp [intOf]; omega⟩
        by_cases he : t = (i + j) / 2
        · rw [he, HX.out] at hx
          cases hx
          omega
        · have := Md.rises_get HR.out HX.out hx (by omega)
          omega
    · obtain rfl : i = j := by omega
      have hcut := Md.find_cut HR.out d i HLO.out HHI.out
      by_cases hin : (i : Int) < n
      · obtain ⟨x, hx⟩ : ∃ x, T[i]? = some x := ⟨_, List.getElem?_eq_getElem (by rw [HN.out]; omega)⟩
        obtain ⟨b, o, a, hA1, hb, c0, c1, c2, _⟩ := (HA.out.below hbel).row hx
        have hxd := (HD.out x (List.mem_of_getElem? hx)).1
        have hc := Md.cmp_any x.1 d (.int .i64 x.2.1) (.slice a.1 x.2.2.length a.2) wr hxd.1 hxd.2 h3 h4
        have HX := Lib.hid hx
        rw [hx, Option.bind_some] at hcut
        have HCUT := Lib.hid hcut
        have m0 : (0 : Int) ≤ (i : Int) := by omega
        subst hA1
        clear hbel hx hcut hlt
        go_wp2_with fail
        refine hc.mono ?_
        rintro e w1 ⟨rfl, hb1⟩
        have HB1 := Lib.hid (HB.out.trans (hb1.mono HB.out.size))
        clear hb1 hc c0 c1 c2
        rcases hz : (x.1 - d == 0) with _ | _
        · have hne : ¬ x.1 = d := fun e => by simp [e] at hz
          have HH : Hid (Md.Hit T d i false) := Lib.hid ⟨fun e => Bool.noConfusion e, fun _ => by rw [HCUT.out, if_neg hne]⟩
          clear hne
          go_wp2_with fail
          go_ret2
          exact ⟨i, false, rfl, HH.out, HB1.out⟩
        · have he : x.1 = d := by have := beq_iff_eq.1 hz; omega
          have HH : Hid (Md.Hit T d i true) := Lib.hid ⟨fun _ => ⟨x, HX.out, by rw [HCUT.out, if_pos he]⟩, fun e => Bool.noConfusion e⟩
          clear he
          go_wp2_with fail
          go_ret2
          exact ⟨i, true, rfl, HH.out, HB1.out⟩
      · rw [List.getElem?_eq_none (by rw [HN.out]; omega), Option.bind_none] at hcut
        have HH : Hid (Md.Hit T d i false) := Lib.hid ⟨fun e => Bool.noConfusion e, fun _ => hcut⟩
        clear hbel hcut hlt
        go_wp2_with fail
        go_ret2
        exact ⟨i, false, rfl, HH.out, HB.out⟩
end Go.Proofs.YtkmfegamblmpeaaGreatDoor

/- Small laws of the layer rows: a block whose cells are known. -/
namespace Go.Proofs.YtkmfegamblmpeaaGreatDoor
open Go.RowKit
set_option linter.unusedSimpArgs false
set_option linter.unusedVariables false

/-- What stands at block b: cells of the type t. -/
def Rw.At (w : World) (b : Nat) (t : TypeId) (cs : List Value) : Prop := w.heap[b]? = some (.cells cs.toArray t (0, 0))
theorem Rw.At.lt {w : World} {b : Nat} {t : TypeId} {cs : List Value} (h : Rw.At w b t cs) : b < w.heap.size := heap_lt h
theorem Rw.At.cell {w : World} {b : Nat} {t : TypeId} {cs : List Value} (h : Rw.At w b t cs) (i : Nat) {v : Value} (hv : cs[i]? = some v) : w.cell? ⟨b, i, none⟩ = some v := by
  unfold Rw.At at h
  simp [World.cell?, h, hv]
theorem Rw.At.frozen {w : World} {b : Nat} {t : TypeId} {cs : List Value} (h : Rw.At w b t cs) (i : Nat) : w.frozen? ⟨b, i, none⟩ = false := by
  unfold Rw.At at h
  simp [World.frozen?, h]
theorem Rw.At.set {w : World} {b : Nat} {t : TypeId} {cs : List Value} (h : Rw.At w b t cs) (i : Nat) (v : Value) : Rw.At (w.setCell ⟨b, i, none⟩ v) b t (cs.set i v) := by
  obtain ⟨hlt, hk⟩ := Array.getElem?_eq_some_iff.1 h
  show (w.heap.modify b _)[b]? = _
  rw [Array.getElem?_eq_getElem (by rw [Array.size_modify]; exact hlt), Array.getElem_modify_self, hk]
  simp
theorem Rw.At.grown {w w' : World} {b : Nat} {t : TypeId} {cs : List Value} {row : Option Nat} (h : Rw.At w b t cs) (hg : w.grownBy w' row) (hr : row ≠ some b) : Rw.At w' b t cs :=
  (hg.block b h.lt fun e => hr e.symm).trans h
theorem Rw.At.below {w w' : World} {b : Nat} {t : TypeId} {cs : List Value} (h : Rw.At w b t cs) (hb : Below w.heap.size w w') : Rw.At w' b t cs := (hb.block b h.lt).trans h
theorem Rw.At.new (w : World) (t : TypeId) (cs : List Value) : Rw.At (w.alloc (.cells cs.toArray t)) w.heap.size t cs := World.alloc_heap_new w _
theorem Rw.grown_below {w w' : World} (h : Below w.heap.size w w') : w.grownBy w' none := ⟨h.os, h.tape, h.output, h.size, fun k hk _ => h.block k hk⟩
theorem Rw.At.three {w : World} {b : Nat} {t : TypeId} {u v x : Value} (h : Rw.At w b t [u, v, x]) :
    w.cell? ⟨b, 0, none⟩ = some u ∧ w.cell? ⟨b, 1, none⟩ = some v ∧ w.cell? ⟨b, 2, none⟩ = some x ∧ w.frozen? ⟨b, 0, none⟩ = false ∧ w.frozen? ⟨b, 1, none⟩ = false ∧ w.frozen? ⟨b, 2, none⟩ = false :=
  ⟨h.cell 0 rfl, h.cell 1 rfl, h.cell 2 rfl, h.frozen 0, h.frozen 1, h.frozen 2⟩
theorem Rw.At.below' {w w' : World} {b B : Nat} {t : TypeId} {cs : List Value} (h : Rw.At w b t cs) (hb : Below B w w') (hB : b < B) : Rw.At w' b t cs := (hb.block b hB).trans h
theorem Rw.At.other {w : World} {b b' i : Nat} {t : TypeId} {cs : List Value} (h : Rw.At w b t cs) (hne : b ≠ b') (v : Value) : Rw.At (w.setCell ⟨b', i, none⟩ v) b t cs :=
  (Below.heap_setCell _ _ _ b hne).trans h
theorem Rw.At.alloc {w : World} {b : Nat} {t : TypeId} {cs : List Value} (h : Rw.At w b t cs) (o : Obj) : Rw.At (w.alloc o) b t cs := (Below.heap_alloc _ _ _ h.lt).trans h
theorem Slt.setAt {w : World} {t t' : TypeId} {A : Option Addr} {xs cs : List Value} {b : Nat} (h : Slt w t A xs) (k : Rw.At w b t' cs) (hne : t' ≠ t) (i : Nat) (v : Value) : Slt (w.setCell ⟨b, i, none⟩ v) t A xs := by
  intro hx
  obtain ⟨g, o, cs', hA, hb, hc⟩ := h hx
  refine ⟨g, o, cs', hA, (Below.heap_setCell _ _ _ g fun e => ?_).trans hb, hc⟩
  have e : g = b := e
  subst e
  have := k.symm.trans hb
  simp only [Option.some.injEq, Obj.cells.injEq] at this
  exact hne this.2.1
theorem Rw.results2 {P : Program} {fn : Func} {p u : Tmp} {ty : TypeId} (h : fn.results = #[.cell p ty, .tmp u]) (tmps : Array Value) (w : World) (g : Nat) (t : TypeId) (cs : Array Value) (fr : Nat × Nat) (d : TypeDesc)
    (hp : tmps.getD p undef = .pointer (some ⟨g, 0, none⟩)) (hg : w.heap[g]? = some (.cells cs t fr))
    (hu : P.underlying ty = some d) (hd : (match d with | .struct _ | .array _ _ => true | _ => false) = true) (hi : (P.info? ty).map (·.size) = some cs.size) :
    (results fn tmps).run P w = .ok (.tuple #[.agg cs, tmps.getD u undef]) w := by
  have hp' : tmps[p]?.getD undef = .pointer (some ⟨g, 0, none⟩) := by simpa using hp
  simp [results, h, hp', asAddr, run_loadVar_row w g t ty cs fr d hg hu hd hi]
theorem Rw.grown_set {w : World} (b i : Nat) (v : Value) : w.grownBy (w.setCell ⟨b, i, none⟩ v) (some b) :=
  ⟨rfl, rfl, rfl, (by show w.heap.size ≤ (w.heap.modify b _).size; rw [Array.size_modify]; exact Nat.le_refl _), fun k _ hk => Below.heap_setCell _ _ _ k (fun e => hk (by rw [show k = b from e]))⟩
theorem Rw.grown_trans {w w' w'' : World} {row : Option Nat} (h : w.grownBy w' row) (h' : w'.grownBy w'' row) : w.grownBy w'' row :=
  ⟨h'.os.trans h.os, h'.tape.trans h.tape, h'.output.trans h.output, Nat.le_trans h.size h'.size, fun k hk hne => (h'.block k (Nat.lt_of_lt_of_le hk h.size) hne).trans (h.block k hk hne)⟩
theorem Rw.grown_bel {w w' : World} {row : Option Nat} (h : Below w.heap.size w w') : w.grownBy w' row := ⟨h.os, h.tape, h.output, h.size, fun k hk _ => h.block k hk⟩
theorem Rw.grown_row {w w' : World} {row : Option Nat} (h : w.grownBy w' none) : w.grownBy w' row := ⟨h.os, h.tape, h.output, h.size, fun k hk _ => h.block k hk (by simp)⟩
theorem Rw.At.not {w : World} {b : Nat} {t t' : TypeId} {cs : List Value} (h : Rw.At w b t cs) (hne : t ≠ t') : ∀ cs' z, w.heap[b]? ≠ some (.cells cs' t' z) := fun cs' z e => by
  have := h.symm.trans e
  simp only [Option.some.injEq, Obj.cells.injEq] at this
  exact hne this.2.1
end Go.Proofs.YtkmfegamblmpeaaGreatDoor

/- The layer model: what is looked up in a table, by walking its text. -/
namespace Go.Proofs.YtkmfegamblmpeaaGreatDoor
open Go.RowKit
set_option linter.unusedSimpArgs false
set_option linter.unusedVariables false

/-- A table's value: rows, and the set of those that aren't composed. -/
def Md.tv (A : Option Addr) (n c : Nat) (XA : Option Addr) (xn xc : Nat) : Value := .agg #[.slice A n c, .slice XA xn xc]
/-- A row's value. -/
def Md.rv (r : Rw.Row) (a : Option Addr × Nat) : Value := .agg #[.int .i32 r.1, .int .i64 r.2.1, .slice a.1 r.2.2.length a.2]
/-- A character's row; an empty one. -/
def Md.rowOf (T : List Rw.Row) (d : Int) : Rw.Row := (Md.find T d).getD (0, 0, [])
theorem Md.cls_of (T : List Rw.Row) (d : Int) : Md.cls T d = (Md.rowOf T d).2.1 := by
  unfold Md.cls Md.rowOf
  cases Md.find T d <;> rfl
theorem Md.rmp_of (T : List Rw.Row) (d : Int) : Md.rmp T d = (Md.rowOf T d).2.2 := by
  unfold Md.rmp Md.rowOf
  cases Md.find T d <;> rfl
def Md.RetFind (T : List Rw.Row) (d : Int) (w : World) (e : Ending) (w' : World) : Prop :=
  ∃ a : Option Addr × Nat, e = .returned (.tuple #[Md.rv (Md.rowOf T d) a, .bool (Md.find T d).isSome]) ∧ Sl w' w'.heap.size a.1 ((Md.rowOf T d).2.2.map (Value.int .i32)) ∧ Below w.heap.size w w'

set_option maxRecDepth 100000 in
set_option maxHeartbeats 2000000 in
theorem Md.find_any (A : Option Addr) (n c : Nat) (XA : Option Addr) (xn xc : Nat) (T : List Rw.Row) (d : Int) (w : World) (hn : T.length = n) (hn' : n ≤ 1000000) (hr : Md.rises T) (hbd : Md.bd T) (h3 : -2147483648 ≤ d) (h4 : d ≤ 2147483647) (hA : Rw.Sees w A T) :
    Calls Tryz.prog 83 #[Md.tv A n c XA xn xc, .int .i32 d] w (Md.RetFind T d w) := by
  obtain ⟨wa, hwa⟩ : ∃ wa, (w.alloc (.cells #[.slice A n c, .slice XA xn xc] 50)).alloc (.cells #[.int .i32 0, .int .i64 0, .slice none 0 0] 99) = wa := ⟨_, rfl⟩
  have hbA : Below w.heap.size w wa := by rw [← hwa]; exact ((Below.refl _ _).alloc (Nat.le_refl _) _).alloc (by simp) _
  have hat0 : Rw.At wa w.heap.size 50 [.slice A n c, .slice XA xn xc] := by rw [← hwa]; exact (Rw.At.new w 50 [.slice A n c, .slice XA xn xc]).alloc _
  have hat1 : Rw.At wa (w.heap.size + 1) 99 [.int .i32 0, .int .i64 0, .slice none 0 0] := by
    have h := Rw.At.new (w.alloc (.cells #[.slice A n c, .slice XA xn xc] 50)) 99 [.int .i32 0, .int .i64 0, .slice none 0 0]
    rw [World.size_alloc] at h
    rw [← hwa]
    exact h
  have hz1 : w.heap.size + 1 < wa.heap.size := hat1.lt
  have hS := Md.search_any A n c T d wa hn hn' hr hbd h3 h4 (hA.below hbA)
  have HWA := Lib.hid hwa
  have HN := Lib.hid hn
  have HA := Lib.hid hA
  have HBA := Lib.hid hbA
  have z0 := hat0.cell 0 rfl
  clear hwa hbA hA hr hbd hn
  unfold Md.tv
  go_enter Tryz.func83, Tryz.ntmps83
  go_upto_region 1 with (fail)
  rw [HWA.out]
  go_wp2_with fail
  refine hS.mono ?_
  rintro e w1 ⟨i, is, rfl, hhit, hb1⟩
  have hat2 := hat0.below hb1
  have hat3 := hat1.below hb1
  have z2 := hat2.cell 0 rfl
  obtain ⟨m1, m2, m3, m4, m5, m6⟩ := hat3.three
  have hz3 : w.heap.size + 1 < w1.heap.size := hat3.lt
  have HB1 := Lib.hid (HBA.out.trans (hb1.mono HBA.out.size))
  have HHIT := Lib.hid hhit
  clear hb1 hhit hS z0 hat0 hat1 hz1
  have HAT3 := Lib.hid hat3
  clear hat3
  cases is
  · have hf := HHIT.out.2 rfl
    have hro : Md.rowOf T d = (0, 0, []) := by unfold Md.rowOf; rw [hf]; rfl
    have HF := Lib.hid hf
    have HRO := Lib.hid hro
    clear hf hro
    go_wp2_with fail
    have hat4 := ((HAT3.out.set 0 (.int .i32 0)).set 1 (.int .i64 0)).set 2 (.slice none 0 0)
    refine bodyPost_ret (Rw.results2 rfl _ _ (w.heap.size + 1) _ _ _ _ rfl hat4 Tryz.underlying99 rfl (by kernel_rfl)) rfl ⟨(none, 0), ?_, ?_, ?_⟩
    · rw [HRO.out, HF.out]; rfl
    · rw [HRO.out]; exact Sl.nil _ _ _
    · exact ((HB1.out.setCell (p := ⟨w.heap.size + 1, 0, none⟩) (by simp) _).setCell (p := ⟨w.heap.size + 1, 1, none⟩) (by simp) _).setCell (p := ⟨w.heap.size + 1, 2, none⟩) (by simp) _
  · obtain ⟨r, hr, hf⟩ := HHIT.out.1 rfl
    obtain ⟨b, o, a, hA1, hb, c0', c1', c2', hmap⟩ := HA.out.row hr
    have c0 := ((bcell HB1.out).1 b (o + i * 3) hb).trans c0'
    have c1 := ((bcell HB1.out).1 b (o + i * 3 + 1) hb).trans c1'
    have c2 := ((bcell HB1.out).1 b (o + i * 3 + 2) hb).trans c2'
    have hbw : b < w1.heap.size := Nat.lt_of_lt_of_le hb HB1.out.size
    have m0 : (0 : Int) ≤ (i : Int) := by omega
    have m7 : (i : Int) < n := by have := (List.getElem?_eq_some_iff.1 hr).1; have := HN.out; omega
    have hro : Md.rowOf T d = r := by unfold Md.rowOf; rw [hf]; rfl
    have HF := Lib.hid hf
    have HRO := Lib.hid hro
    have HM := Lib.hid hmap
    subst hA1
    clear hr hf hro hmap c0' c1' c2'
    go_wp2_with fail
    have hat4 := ((HAT3.out.set 0 (.int .i32 r.1)).set 1 (.int .i64 r.2.1)).set 2 (.slice a.1 r.2.2.length a.2)
    refine bodyPost_ret (Rw.results2 rfl _ _ (w.heap.size + 1) _ _ _ _ rfl hat4 Tryz.underlying99 rfl (by kernel_rfl)) rfl ⟨a, ?_, ?_, ?_⟩
    · rw [HRO.out, HF.out]; rfl
    · rw [HRO.out]
      exact HM.out.below (((HB1.out.setCell (p := ⟨w.heap.size + 1, 0, none⟩) (by simp) _).setCell (p := ⟨w.heap.size + 1, 1, none⟩) (by simp) _).setCell (p := ⟨w.heap.size + 1, 2, none⟩) (by simp) _) (by simpa using HB1.out.size)
    · exact ((HB1.out.setCell (p := ⟨w.heap.size + 1, 0, none⟩) (by simp) _).setCell (p := ⟨w.heap.size + 1, 1, none⟩) (by simp) _).setCell (p := ⟨w.heap.size + 1, 2, none⟩) (by simp) _
end Go.Proofs.YtkmfegamblmpeaaGreatDoor
