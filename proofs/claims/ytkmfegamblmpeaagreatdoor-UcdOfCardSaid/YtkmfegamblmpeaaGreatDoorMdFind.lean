/- Slices whose block's type is known. -/
import Derived.Test.YtkmfegamblmpeaaGreatDoorUdPlain
import Derived.Test.YtkmfegamblmpeaaGreatDoorMdTab
namespace Go.Proofs.YtkmfegamblmpeaaGreatDoor
open Go.RowKit
set_option linter.unusedSimpArgs false
set_option linter.unusedVariables false

/-- A slice's cells: the list xs; its block is of the type t. -/
def Slt (w : World) (t : TypeId) (A : Option Addr) (xs : List Value) : Prop :=
  0 < xs.length → ∃ b o cs, A = some ⟨b, o, none⟩ ∧ w.heap[b]? = some (.cells cs t (0, 0)) ∧ ∀ i, i < xs.length → cs[o + i]? = xs[i]?
theorem Slt.nil (w : World) (t : TypeId) (A : Option Addr) : Slt w t A [] := fun h => absurd h (by simp)
theorem Slt.sl {w : World} {t : TypeId} {A : Option Addr} {xs : List Value} (h : Slt w t A xs) : Sl w w.heap.size A xs := by
  intro hx
  obtain ⟨b, o, cs, hA, hb, hc⟩ := h hx
  exact ⟨b, o, hA, heap_lt hb, fun i hi => by rw [← hc i hi]; simp [World.cell?, hb]⟩
theorem Slt.frozen {w : World} {t : TypeId} {b o : Nat} {xs : List Value} (h : Slt w t (some ⟨b, o, none⟩) xs) (hx : 0 < xs.length) (i : Nat) : w.frozen? ⟨b, i, none⟩ = false := by
  obtain ⟨b', o', cs, hA, hb, _⟩ := h hx
  simp only [Option.some.injEq, Addr.mk.injEq] at hA
  obtain ⟨rfl, rfl, _⟩ := hA
  simp [World.frozen?, hb]
theorem Slt.grown {w w' : World} {t : TypeId} {A : Option Addr} {xs : List Value} {row : Option Nat} (h : Slt w t A xs) (hg : w.grownBy w' row) (hr : ∀ k, row = some k → ∀ cs z, w.heap[k]? ≠ some (.cells cs t z)) : Slt w' t A xs := by
  intro hx
  obtain ⟨b, o, cs, hA, hb, hc⟩ := h hx
  exact ⟨b, o, cs, hA, (hg.block b (heap_lt hb) fun e => hr b e.symm cs (0, 0) hb).trans hb, hc⟩
theorem Slt.below {w w' : World} {t : TypeId} {A : Option Addr} {xs : List Value} (h : Slt w t A xs) (hb : Below w.heap.size w w') : Slt w' t A xs := by
  intro hx
  obtain ⟨b, o, cs, hA, hh, hc⟩ := h hx
  exact ⟨b, o, cs, hA, (hb.block b (heap_lt hh)).trans hh, hc⟩
theorem Slt.of_own {w : World} {base : Nat} {e : TypeId} {size n c : Nat} {A : Option Addr} {xs : List Value} (h : w.ownsRow base e size (.slice A n c) n xs) : Slt w e A xs := by
  intro hx
  obtain ⟨hl, h⟩ := h
  rcases h with ⟨hv, hn⟩ | ⟨g, cap, cur, hv, _, hg, _, _, _, htake⟩
  · subst hn; simp at hl; rw [hl] at hx; simp at hx
  · simp only [Value.slice.injEq] at hv
    obtain ⟨hA, _, _⟩ := hv
    refine ⟨g, 0, cur, hA, hg, fun i hi => ?_⟩
    rw [← htake]
    simp [List.getElem?_take, ← hl, hi]

end Go.Proofs.YtkmfegamblmpeaaGreatDoor

/- Rows in memory: the program's, the document's. -/
namespace Go.Proofs.YtkmfegamblmpeaaGreatDoor
open Go.RowKit
set_option linter.unusedSimpArgs false
set_option linter.unusedVariables false

/-- Rows' cells. -/
def Rw.fl : List Rw.Row → List (Option Addr × Nat) → List Value
  | r :: rs, a :: ads => .int .i32 r.1 :: .int .i64 r.2.1 :: .slice a.1 r.2.2.length a.2 :: Rw.fl rs ads
  | _, _ => []
theorem Rw.fl_len : ∀ (rs : List Rw.Row) (ads : List (Option Addr × Nat)), ads.length = rs.length → (Rw.fl rs ads).length = rs.length * 3
  | [], _, _ => by simp [Rw.fl]
  | r :: rs, [], h => by simp at h
  | r :: rs, a :: ads, h => by simp [Rw.fl, Rw.fl_len rs ads (by simpa using h)]; omega
theorem Rw.fl_app : ∀ (rs : List Rw.Row) (ads : List (Option Addr × Nat)) (r : Rw.Row) (a : Option Addr × Nat), ads.length = rs.length →
    Rw.fl (rs ++ [r]) (ads ++ [a]) = Rw.fl rs ads ++ [.int .i32 r.1, .int .i64 r.2.1, .slice a.1 r.2.2.length a.2]
  | [], [], r, a, _ => rfl
  | [], _ :: _, _, _, h => by simp at h
  | q :: rs, [], r, a, h => by simp at h
  | q :: rs, b :: ads, r, a, h => by
    simp only [List.cons_append, Rw.fl]
    rw [Rw.fl_app rs ads r a (by simpa using h)]
/-- The mappings of rows, each at its address. -/
def Rw.Maps (w : World) (rs : List Rw.Row) (ads : List (Option Addr × Nat)) : Prop := ∀ (i : Nat) (r : Rw.Row) (a : Option Addr × Nat), rs[i]? = some r → ads[i]? = some a → Slt w 21 a.1 (r.2.2.map (Value.int .i32))
theorem Rw.Maps.app {w : World} {rs : List Rw.Row} {ads : List (Option Addr × Nat)} (h : Rw.Maps w rs ads) (hl : ads.length = rs.length) {r : Rw.Row} {a : Option Addr × Nat} (hr : Slt w 21 a.1 (r.2.2.map (Value.int .i32))) : Rw.Maps w (rs ++ [r]) (ads ++ [a]) := by
  intro i q x hq hx
  rcases Nat.lt_or_ge i rs.length with hi | hi
  · rw [List.getElem?_append_left hi] at hq
    rw [List.getElem?_append_left (by omega)] at hx
    exact h i q x hq hx
  · rw [List.getElem?_append_right hi] at hq
    rw [List.getElem?_append_right (by omega)] at hx
    obtain ⟨j, hj⟩ : ∃ j, i - rs.length = j := ⟨_, rfl⟩
    rw [hl, hj] at hx
    rw [hj] at hq
    rcases j with _ | j
    · simp at hq hx
      subst hq hx
      exact hr
    · simp at hq
theorem Rw.Maps.below {w w' : World} {rs : List Rw.Row} {ads : List (Option Addr × Nat)} (h : Rw.Maps w rs ads) (hb : Below w.heap.size w w') : Rw.Maps w' rs ads := fun i r a h1 h2 => (h i r a h1 h2).below hb
theorem Rw.Maps.grown {w w' : World} {rs : List Rw.Row} {ads : List (Option Addr × Nat)} {row : Option Nat} (h : Rw.Maps w rs ads) (hg : w.grownBy w' row) (hr : ∀ k, row = some k → ∀ cs z, w.heap[k]? ≠ some (.cells cs 21 z)) : Rw.Maps w' rs ads :=
  fun i r a h1 h2 => (h i r a h1 h2).grown hg hr
theorem Rw.below_grown {b : Nat} {w w' : World} {row : Option Nat} (hg : w.grownBy w' row) (hb : b ≤ w.heap.size) (hr : ∀ k, row = some k → b ≤ k) : Below b w w' := (Below.refl b w).grown hg hb hr
theorem Rw.own_not {w : World} {base : Nat} {e t' : TypeId} {size n : Nat} {v : Value} {xs : List Value} (h : w.ownsRow base e size v n xs) (hne : e ≠ t') : ∀ k, v.ownBlock = some k → ∀ cs' z, w.heap[k]? ≠ some (.cells cs' t' z) := by
  intro k hk cs' z e'
  rcases h.2 with ⟨rfl, _⟩ | ⟨g, cap, cur, rfl, _, hg, _⟩
  · simp [Value.ownBlock] at hk
  · simp only [Value.ownBlock, Option.some.injEq] at hk
    subst hk
    have := hg.symm.trans e'
    simp only [Option.some.injEq, Obj.cells.injEq] at this
    exact hne this.2.1
theorem Rw.own_one {w : World} {base : Nat} {e : TypeId} {size n : Nat} {v : Value} {xs : List Value} (h : w.ownsRow base e size v n xs) : v.oneCell' = true := by
  obtain ⟨A, c, rfl⟩ := own_form h
  rfl
theorem Rw.own_ne {w : World} {base : Nat} {e : TypeId} {size n : Nat} {v : Value} {xs : List Value} (h : w.ownsRow base e size v n xs) (g : Nat) (hg : g < base) : v.ownBlock ≠ some g := fun hk => by have := (h.lt _ hk).1; omega
theorem Rw.own_grown {w w' : World} {base : Nat} {e : TypeId} {size n b : Nat} {v : Value} {xs : List Value} (h : w.ownsRow base e size v n xs) (hb : b < base) (hg : w.grownBy w' (some b)) : w'.ownsRow base e size v n xs :=
  h.kept hg (by
    rcases h.2 with ⟨rfl, _⟩ | ⟨g, cap, cur, rfl, hgb, _⟩
    · exact .inl rfl
    · refine .inr fun e' => ?_
      simp only [Value.ownBlock, Option.some.injEq] at e'
      omega)
theorem Rw.fl_get : ∀ (rs : List Rw.Row) (ads : List (Option Addr × Nat)) (i : Nat) (r : Rw.Row) (a : Option Addr × Nat), rs[i]? = some r → ads[i]? = some a →
    (Rw.fl rs ads)[i * 3]? = some (.int .i32 r.1) ∧ (Rw.fl rs ads)[i * 3 + 1]? = some (.int .i64 r.2.1) ∧ (Rw.fl rs ads)[i * 3 + 2]? = some (.slice a.1 r.2.2.length a.2)
  | [], _, i, _, _, h, _ => by simp at h
  | _ :: _, [], i, _, _, _, h => by simp at h
  | q :: rs, b :: ads, 0, r, a, h, h' => by simp at h h'; subst h h'; exact ⟨rfl, rfl, rfl⟩
  | q :: rs, b :: ads, i + 1, r, a, h, h' => by
    have := Rw.fl_get rs ads i r a (by simpa using h) (by simpa using h')
    rw [show (i + 1) * 3 = i * 3 + 1 + 1 + 1 by omega]
    exact this
/-- Rows that lie in memory. -/
def Rw.Tab (w : World) (A : Option Addr) (rs : List Rw.Row) : Prop := ∃ ads, ads.length = rs.length ∧ Slt w 99 A (Rw.fl rs ads) ∧ Rw.Maps w rs ads
/-- The document's rows' cells. -/
def Rw.flI : List Rw.Row → List (Option Addr × Nat) → List Value
  | r :: rs, a :: ads => .int .i64 r.1 :: .int .i64 r.2.1 :: .slice a.1 r.2.2.length a.2 :: Rw.flI rs ads
  | _, _ => []
theorem Rw.flI_len : ∀ (rs : List Rw.Row) (ads : List (Option Addr × Nat)), ads.length = rs.length → (Rw.flI rs ads).length = rs.length * 3
  | [], _, _ => by simp [Rw.flI]
  | r :: rs, [], h => by simp at h
  | r :: rs, a :: ads, h => by simp [Rw.flI, Rw.flI_len rs ads (by simpa using h)]; omega
theorem Rw.flI_get : ∀ (rs : List Rw.Row) (ads : List (Option Addr × Nat)) (i : Nat) (r : Rw.Row) (a : Option Addr × Nat), rs[i]? = some r → ads[i]? = some a →
    (Rw.flI rs ads)[i * 3]? = some (.int .i64 r.1) ∧ (Rw.flI rs ads)[i * 3 + 1]? = some (.int .i64 r.2.1) ∧ (Rw.flI rs ads)[i * 3 + 2]? = some (.slice a.1 r.2.2.length a.2)
  | [], _, i, _, _, h, _ => by simp at h
  | _ :: _, [], i, _, _, _, h => by simp at h
  | q :: rs, b :: ads, 0, r, a, h, h' => by simp at h h'; subst h h'; exact ⟨rfl, rfl, rfl⟩
  | q :: rs, b :: ads, i + 1, r, a, h, h' => by
    have := Rw.flI_get rs ads i r a (by simpa using h) (by simpa using h')
    rw [show (i + 1) * 3 = i * 3 + 1 + 1 + 1 by omega]
    exact this
/-- Rows that are read: the program's; the document's. -/
def Rw.Sees (w : World) (A : Option Addr) (rs : List Rw.Row) : Prop := ∃ ads : List (Option Addr × Nat), ads.length = rs.length ∧ Sl w w.heap.size A (Rw.fl rs ads) ∧
  ∀ (i : Nat) (r : Rw.Row) (a : Option Addr × Nat), rs[i]? = some r → ads[i]? = some a → Sl w w.heap.size a.1 (r.2.2.map (Value.int .i32))
def Rw.SeesI (w : World) (A : Option Addr) (rs : List Rw.Row) : Prop := ∃ ads : List (Option Addr × Nat), ads.length = rs.length ∧ Sl w w.heap.size A (Rw.flI rs ads) ∧
  ∀ (i : Nat) (r : Rw.Row) (a : Option Addr × Nat), rs[i]? = some r → ads[i]? = some a → Sl w w.heap.size a.1 (r.2.2.map (Value.int .i64))
theorem Rw.Tab.sees {w : World} {A : Option Addr} {rs : List Rw.Row} (h : Rw.Tab w A rs) : Rw.Sees w A rs := by
  obtain ⟨ads, hl, hs, hm⟩ := h
  exact ⟨ads, hl, hs.sl, fun i r a h1 h2 => (hm i r a h1 h2).sl⟩
theorem Rw.Sees.below {w w' : World} {A : Option Addr} {rs : List Rw.Row} (h : Rw.Sees w A rs) (hb : Below w.heap.size w w') : Rw.Sees w' A rs := by
  obtain ⟨ads, hl, hs, hm⟩ := h
  exact ⟨ads, hl, hs.below hb hb.size, fun i r a h1 h2 => (hm i r a h1 h2).below hb hb.size⟩
theorem Rw.SeesI.below {w w' : World} {A : Option Addr} {rs : List Rw.Row} (h : Rw.SeesI w A rs) (hb : Below w.heap.size w w') : Rw.SeesI w' A rs := by
  obtain ⟨ads, hl, hs, hm⟩ := h
  exact ⟨ads, hl, hs.below hb hb.size, fun i r a h1 h2 => (hm i r a h1 h2).below hb hb.size⟩
theorem Rw.Sees.row {w : World} {A : Option Addr} {rs : List Rw.Row} (h : Rw.Sees w A rs) {i : Nat} {r : Rw.Row} (hr : rs[i]? = some r) :
    ∃ (b o : Nat) (a : Option Addr × Nat), A = some ⟨b, o, none⟩ ∧ b < w.heap.size ∧ w.cell? ⟨b, o + i * 3, none⟩ = some (.int .i32 r.1) ∧ w.cell? ⟨b, o + i * 3 + 1, none⟩ = some (.int .i64 r.2.1) ∧ w.cell? ⟨b, o + i * 3 + 2, none⟩ = some (.slice a.1 r.2.2.length a.2) ∧
      Sl w w.heap.size a.1 (r.2.2.map (Value.int .i32)) := by
  obtain ⟨ads, hl, hs, hm⟩ := h
  have hi := (List.getElem?_eq_some_iff.1 hr).1
  obtain ⟨a, ha⟩ : ∃ a, ads[i]? = some a := ⟨_, List.getElem?_eq_getElem (by omega)⟩
  obtain ⟨b, o, rfl, hb, hc⟩ := hs (by rw [Rw.fl_len _ _ hl]; omega)
  obtain ⟨g0, g1, g2⟩ := Rw.fl_get rs ads i r a hr ha
  have hlen := Rw.fl_len rs ads hl
  refine ⟨b, o, a, rfl, hb, ?_, ?_, ?_, hm i r a hr ha⟩
  · rw [hc _ (by omega), g0]
  · rw [Nat.add_assoc, hc _ (by omega), g1]
  · rw [Nat.add_assoc, hc _ (by omega), g2]
theorem Rw.SeesI.row {w : World} {A : Option Addr} {rs : List Rw.Row} (h : Rw.SeesI w A rs) {i : Nat} {r : Rw.Row} (hr : rs[i]? = some r) :
    ∃ (b o : Nat) (a : Option Addr × Nat), A = some ⟨b, o, none⟩ ∧ b < w.heap.size ∧ w.cell? ⟨b, o + i * 3, none⟩ = some (.int .i64 r.1) ∧ w.cell? ⟨b, o + i * 3 + 1, none⟩ = some (.int .i64 r.2.1) ∧ w.cell? ⟨b, o + i * 3 + 2, none⟩ = some (.slice a.1 r.2.2.length a.2) ∧
      Sl w w.heap.size a.1 (r.2.2.map (Value.int .i64)) := by
  obtain ⟨ads, hl, hs, hm⟩ := h
  have hi := (List.getElem?_eq_some_iff.1 hr).1
  obtain ⟨a, ha⟩ : ∃ a, ads[i]? = some a := ⟨_, List.getElem?_eq_getElem (by omega)⟩
  obtain ⟨b, o, rfl, hb, hc⟩ := hs (by rw [Rw.flI_len _ _ hl]; omega)
  obtain ⟨g0, g1, g2⟩ := Rw.flI_get rs ads i r a hr ha
  have hlen := Rw.flI_len rs ads hl
  refine ⟨b, o, a, rfl, hb, ?_, ?_, ?_, hm i r a hr ha⟩
  · rw [hc _ (by omega), g0]
  · rw [Nat.add_assoc, hc _ (by omega), g1]
  · rw [Nat.add_assoc, hc _ (by omega), g2]
end Go.Proofs.YtkmfegamblmpeaaGreatDoor

/- The layer model: the search in a table, by walking its text. -/
namespace Go.Proofs.YtkmfegamblmpeaaGreatDoor
open Go.RowKit
set_option linter.unusedSimpArgs false
set_option linter.unusedVariables false

set_option maxRecDepth 100000 in
theorem Md.cmp_any (c d : Int) (u v : Value) (w : World) (h1 : -2147483648 ≤ c) (h2 : c ≤ 2147483647) (h3 : -2147483648 ≤ d) (h4 : d ≤ 2147483647) :
    Calls Tryz.prog 113 #[.agg #[.int .i32 c, u, v], .int .i32 d] w fun e w' => e = .returned (.int .i64 (c - d)) ∧ Below w.heap.size w w' := by
  have e1 : IntKind.i64.wrap c = c := by rw [IntKind.wrap_i64]; omega
  have e2 : IntKind.i64.wrap d = d := by rw [IntKind.wrap_i64]; omega
  have e3 : IntKind.i64.wrap (c - d) = c - d := by rw [IntKind.wrap_i64]; omega
  have hb : Below w.heap.size w (w.alloc (.cells #[.int .i32 c, u, v] 99)) := (Below.refl _ _).alloc (Nat.le_refl _) _
  have HB := Lib.hid hb
  clear hb
  go_enter Tryz.func113, Tryz.ntmps113
  go_wp2_with fail
  go_ret
  exact ⟨rfl, HB.out⟩

/-- What a search answers: whether the character has a row, and where. -/
def Md.Hit (T : List Rw.Row) (d : Int) (i : Nat) (is : Bool) : Prop := (is = true → ∃ r, T[i]? = some r ∧ Md.find T d = some r) ∧ (is = false → Md.find T d = none)

def Md.RetHit (T : List Rw.Row) (d : Int) (w : World) (e : Ending) (w' : World) : Prop := ∃ (i : Nat) (is : Bool), e = .returned (.tuple #[.int .i64 i, .bool is]) ∧ Md.Hit T d i is ∧ Below w.heap.size w w'

set_option maxRecDepth 100000 in
set_option maxHeartbeats 2000000 in
theorem Md.search_any (A : Option Addr) (n c : Nat) (T : List Rw.Row) (d : Int) (w : World) (hn : T.length = n) (hn' : n ≤ 1000000) (hr : Md.rises T) (hbd : Md.bd T) (h3 : -2147483648 ≤ d) (h4 : d ≤ 2147483647) (hA : Rw.Sees w A T) :
    Calls Tryz.prog 112 #[.slice A n c, .int .i32 d, .func (.func 113) #[] #[]] w
      (Md.RetHit T d w) := by
  have HN := Lib.hid hn
  have HR := Lib.hid hr
  have HD := Lib.hid hbd
  have HA := Lib.hid hA
  clear hn hr hbd hA
  go_enter Tryz.func112, Tryz.ntmps112
  go_wp2_with fail
  go_loopw [9, 10] (fun vi vj wr => ∃ i j : Nat, i ≤ j ∧ j ≤ n ∧ vi = .int .i64 i ∧ vj = .int .i64 j ∧ (∀ t r, t < i → T[t]? = some r → r.1 < d) ∧ (∀ t r, j ≤ t → T[t]? = some r → d ≤ r.1) ∧ Below w.heap.size w wr) (fun vi vj _ => (intOf vj).toNat - (intOf vi).toNat)
  case atStart => exact ⟨0, n, by omega, Nat.le_refl _, rfl, rfl, fun t r ht => by omega, fun t r ht hx => by have := (List.getElem?_eq_some_iff.1 hx).1; have := HN.out; omega, Below.refl _ _⟩
  case round =>
    obtain ⟨i, j, hij, hjn, rfl, rfl, hlo, hhi, hbel⟩ := hrel
    have HLO := Lib.hid hlo
    have HHI := Lib.hid hhi
    have HB := Lib.hid hbel
    clear hlo hhi
    by_cases hlt : (i : Int) < j
    · obtain ⟨x, hx⟩ : ∃ x, T[(i + j) / 2]? = some x := ⟨_, List.getElem?_eq_getElem (by rw [HN.out]; omega)⟩
      obtain ⟨b, o, a, hA1, hb, c0, c1, c2, _⟩ := (HA.out.below hbel).row hx
      have hxd := (HD.out x (List.mem_of_getElem? hx)).1
      have hc := Md.cmp_any x.1 d (.int .i64 x.2.1) (.slice a.1 x.2.2.length a.2) wr hxd.1 hxd.2 h3 h4
      have HX := Lib.hid hx
      have m0 : (0 : Int) ≤ (((i + j) / 2 : Nat) : Int) := by omega
      have m1 : (((i + j) / 2 : Nat) : Int) < n := by omega
      subst hA1
      clear hbel hx
      go_wp2_with fail
      refine hc.mono ?_
      rintro e w1 ⟨rfl, hb1⟩
      have hz := HB.out.size
      have HB1 := Lib.hid (HB.out.trans (hb1.mono hz))
      have hij2 : i < j := by omega
      clear hb1 hc c0 c1 c2 hlt
      by_cases hd : x.1 - d < 0
      · go_wp2_with fail
        refine ⟨⟨(i + j) / 2 + 1, j, by omega, hjn, by go_num, rfl, fun t r ht hx => ?_, HHI.out, HB1.out⟩, by simp [intOf]; omega⟩
        by_cases he : t = (i + j) / 2
        · rw [he, HX.out] at hx
          cases hx
          omega
        · have := Md.rises_get HR.out hx HX.out (by omega)
          omega
      · go_wp2_with fail
        refine ⟨⟨i, (i + j) / 2, by omega, by omega, rfl, by go_num, HLO.out, fun t r ht hx => ?_, HB1.out⟩, by simp [intOf]; omega⟩
        by_cases he : t = (i + j) / 2
        · rw [he, HX.out] at hx
          cases hx
          omega
        · have := Md.rises_get HR.out HX.out hx (by omega)
          omega
    · obtain rfl : i = j := by omega
      have hcut := Md.find_cut HR.out d i HLO.out HHI.out
      by_cases hin : (i : Int) < n
      · obtain ⟨x, hx⟩ : ∃ x, T[i]? = some x := ⟨_, List.getElem?_eq_getElem (by rw [HN.out]; omega)⟩
        obtain ⟨b, o, a, hA1, hb, c0, c1, c2, _⟩ := (HA.out.below hbel).row hx
        have hxd := (HD.out x (List.mem_of_getElem? hx)).1
        have hc := Md.cmp_any x.1 d (.int .i64 x.2.1) (.slice a.1 x.2.2.length a.2) wr hxd.1 hxd.2 h3 h4
        have HX := Lib.hid hx
        rw [hx, Option.bind_some] at hcut
        have HCUT := Lib.hid hcut
        have m0 : (0 : Int) ≤ (i : Int) := by omega
        subst hA1
        clear hbel hx hcut hlt
        go_wp2_with fail
        refine hc.mono ?_
        rintro e w1 ⟨rfl, hb1⟩
        have HB1 := Lib.hid (HB.out.trans (hb1.mono HB.out.size))
        clear hb1 hc c0 c1 c2
        rcases hz : (x.1 - d == 0) with _ | _
        · have hne : ¬ x.1 = d := fun e => by simp [e] at hz
          have HH : Hid (Md.Hit T d i false) := Lib.hid ⟨fun e => Bool.noConfusion e, fun _ => by rw [HCUT.out, if_neg hne]⟩
          clear hne
          go_wp2_with fail
          go_ret2
          exact ⟨i, false, rfl, HH.out, HB1.out⟩
        · have he : x.1 = d := by have := beq_iff_eq.1 hz; omega
          have HH : Hid (Md.Hit T d i true) := Lib.hid ⟨fun _ => ⟨x, HX.out, by rw [HCUT.out, if_pos he]⟩, fun e => Bool.noConfusion e⟩
          clear he
          go_wp2_with fail
          go_ret2
          exact ⟨i, true, rfl, HH.out, HB1.out⟩
      · rw [List.getElem?_eq_none (by rw [HN.out]; omega), Option.bind_none] at hcut
        have HH : Hid (Md.Hit T d i false) := Lib.hid ⟨fun e => Bool.noConfusion e, fun _ => hcut⟩
        clear hbel hcut hlt
        go_wp2_with fail
        go_ret2
        exact ⟨i, false, rfl, HH.out, HB.out⟩
end Go.Proofs.YtkmfegamblmpeaaGreatDoor
