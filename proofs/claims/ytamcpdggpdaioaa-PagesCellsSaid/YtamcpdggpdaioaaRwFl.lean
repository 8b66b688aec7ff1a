/- Rows in memory: the program's, the document's. -/
import Derived.Test.YtamcpdggpdaioaaSlt
import Derived.Test.YtamcpdggpdaioaaRwRow
namespace Go.Proofs.Ytamcpdggpdaioaa
open Go.RowKit
set_option linter.unusedSimpArgs false
set_option linter.unusedVariables false

/-- Rows' cells. -/
def Rw.fl : List Rw.Row → List (Option Addr × Nat) → List Value
  | r :: rs, a :: ads => .int .i32 r.1 :: .int .i64 r.2.1 :: .slice a.1 r.2.2.length a.2 :: Rw.fl rs ads
  | _, _ => []
theorem Rw.fl_len : ∀ (rs : List Rw.Row) (ads : List (Option Addr × Nat)), ads.length = rs.length → (Rw.fl rs ads).length = rs.length * 3
  | [], _, _ => by simp [Rw.fl]
  | r :: rs, [], h => by simp at h
  | r :: rs, a :: ads, h => by simp [Rw.fl, Rw.fl_len rs ads (by simpa using h)]; omega
theorem Rw.fl_app : ∀ (rs : List Rw.Row) (ads : List (Option Addr × Nat)) (r : Rw.Row) (a : Option Addr × Nat), ads.length = rs.length →
    Rw.fl (rs ++ [r]) (ads ++ [a]) = Rw.fl rs ads ++ [.int .i32 r.1, .int .i64 r.2.1, .slice a.1 r.2.2.length a.2]
  | [], [], r, a, _ => rfl
  | [], _ :: _, _, _, h => by simp at h
  | q :: rs, [], r, a, h => by simp at h
  | q :: rs, b :: ads, r, a, h => by
    simp only [List.cons_append, Rw.fl]
    rw [Rw.fl_app rs ads r a (by simpa using h)]
/-- The mappings of rows, each at its address. -/
def Rw.Maps (w : World) (rs : List Rw.Row) (ads : List (Option Addr × Nat)) : Prop := ∀ (i : Nat) (r : Rw.Row) (a : Option Addr × Nat), rs[i]? = some r → ads[i]? = some a → Slt w 21 a.1 (r.2.2.map (Value.int .i32))
theorem Rw.Maps.app {w : World} {rs : List Rw.Row} {ads : List (Option Addr × Nat)} (h : Rw.Maps w rs ads) (hl : ads.length = rs.length) {r : Rw.Row} {a : Option Addr × Nat} (hr : Slt w 21 a.1 (r.2.2.map (Value.int .i32))) : Rw.Maps w (rs ++ [r]) (ads ++ [a]) := by
  intro i q x hq hx
  rcases Nat.lt_or_ge i rs.length with hi | hi
  · rw [List.getElem?_append_left hi] at hq
    rw [List.getElem?_append_left (by omega)] at hx
    exact h i q x hq hx
  · rw [List.getElem?_append_right hi] at hq
    rw [List.getElem?_append_right (by omega)] at hx
    obtain ⟨j, hj⟩ : ∃ j, i - rs.length = j := ⟨_, rfl⟩
    rw [hl, hj] at hx
    rw [hj] at hq
    rcases j with _ | j
    · simp at hq hx
      subst hq hx
      exact hr
    · simp at hq
theorem Rw.Maps.below {w w' : World} {rs : List Rw.Row} {ads : List (Option Addr × Nat)} (h : Rw.Maps w rs ads) (hb : Below w.heap.size w w') : Rw.Maps w' rs ads := fun i r a h1 h2 => (h i r a h1 h2).below hb
theorem Rw.Maps.grown {w w' : World} {rs : List Rw.Row} {ads : List (Option Addr × Nat)} {row : Option Nat} (h : Rw.Maps w rs ads) (hg : w.grownBy w' row) (hr : ∀ k, row = some k → ∀ cs z, w.heap[k]? ≠ some (.cells cs 21 z)) : Rw.Maps w' rs ads :=
  fun i r a h1 h2 => (h i r a h1 h2).grown hg hr
theorem Rw.below_grown {b : Nat} {w w' : World} {row : Option Nat} (hg : w.grownBy w' row) (hb : b ≤ w.heap.size) (hr : ∀ k, row = some k → b ≤ k) : Below b w w' := (Below.refl b w).grown hg hb hr
theorem Rw.own_not {w : World} {base : Nat} {e t' : TypeId} {size n : Nat} {v : Value} {xs : List Value} (h : w.ownsRow base e size v n xs) (hne : e ≠ t') : ∀ k, v.ownBlock = some k → ∀ cs' z, w.heap[k]? ≠ some (.cells cs' t' z) := by
  intro k hk cs' z e'
  rcases h.2 with ⟨rfl, _⟩ | ⟨g, cap, cur, rfl, _, hg, _⟩
  · simp [Value.ownBlock] at hk
  · simp only [Value.ownBlock, Option.some.injEq] at hk
    subst hk
    have := hg.symm.trans e'
    simp only [Option.some.injEq, Obj.cells.injEq] at this
    exact hne this.2.1
theorem Rw.own_one {w : World} {base : Nat} {e : TypeId} {size n : Nat} {v : Value} {xs : List Value} (h : w.ownsRow base e size v n xs) : v.oneCell' = true := by
  obtain ⟨A, c, rfl⟩ := own_form h
  rfl
theorem Rw.own_ne {w : World} {base : Nat} {e : TypeId} {size n : Nat} {v : Value} {xs : List Value} (h : w.ownsRow base e size v n xs) (g : Nat) (hg : g < base) : v.ownBlock ≠ some g := fun hk => by have := (h.lt _ hk).1; omega
theorem Rw.own_grown {w w' : World} {base : Nat} {e : TypeId} {size n b : Nat} {v : Value} {xs : List Value} (h : w.ownsRow base e size v n xs) (hb : b < base) (hg : w.grownBy w' (some b)) : w'.ownsRow base e size v n xs :=
  h.kept hg (by
    rcases h.2 with ⟨rfl, _⟩ | ⟨g, cap, cur, rfl, hgb, _⟩
    · exact .inl rfl
    · refine .inr fun e' => ?_
      simp only [Value.ownBlock, Option.some.injEq] at e'
      omega)
theorem Rw.fl_get : ∀ (rs : List Rw.Row) (ads : List (Option Addr × Nat)) (i : Nat) (r : Rw.Row) (a : Option Addr × Nat), rs[i]? = some r → ads[i]? = some a →
    (Rw.fl rs ads)[i * 3]? = some (.int .i32 r.1) ∧ (Rw.fl rs ads)[i * 3 + 1]? = some (.int .i64 r.2.1) ∧ (Rw.fl rs ads)[i * 3 + 2]? = some (.slice a.1 r.2.2.length a.2)
  | [], _, i, _, _, h, _ => by simp at h
  | _ :: _, [], i, _, _, _, h => by simp at h
  | q :: rs, b :: ads, 0, r, a, h, h' => by simp at h h'; subst h h'; exact ⟨rfl, rfl, rfl⟩
  | q :: rs, b :: ads, i + 1, r, a, h, h' => by
    have := Rw.fl_get rs ads i r a (by simpa using h) (by simpa using h')
    rw [show (i + 1) * 3 = i * 3 + 1 + 1 + 1 by omega]
    exact this
/-- Rows that lie in memory. -/
def Rw.Tab (w : World) (A : Option Addr) (rs : List Rw.Row) : Prop := ∃ ads, ads.length = rs.length ∧ Slt w 84 A (Rw.fl rs ads) ∧ Rw.Maps w rs ads
/-- The document's rows' cells. -/
def Rw.flI : List Rw.Row → List (Option Addr × Nat) → List Value
  | r :: rs, a :: ads => .int .i64 r.1 :: .int .i64 r.2.1 :: .slice a.1 r.2.2.length a.2 :: Rw.flI rs ads
  | _, _ => []
theorem Rw.flI_len : ∀ (rs : List Rw.Row) (ads : List (Option Addr × Nat)), ads.length = rs.length → (Rw.flI rs ads).length = rs.length * 3
  | [], _, _ => by simp [Rw.flI]
  | r :: rs, [], h => by simp at h
  | r :: rs, a :: ads, h => by simp [Rw.flI, Rw.flI_len rs ads (by simpa using h)]; omega
theorem Rw.flI_get : ∀ (rs : List Rw.Row) (ads : List (Option Addr × Nat)) (i : Nat) (r : Rw.Row) (a : Option Addr × Nat), rs[i]? = some r → ads[i]? = some a →
    (Rw.flI rs ads)[i * 3]? = some (.int .i64 r.1) ∧ (Rw.flI rs ads)[i * 3 + 1]? = some (.int .i64 r.2.1) ∧ (Rw.flI rs ads)[i * 3 + 2]? = some (.slice a.1 r.2.2.length a.2)
  | [], _, i, _, _, h, _ => by simp at h
  | _ :: _, [], i, _, _, _, h => by simp at h
  | q :: rs, b :: ads, 0, r, a, h, h' => by simp at h h'; subst h h'; exact ⟨rfl, rfl, rfl⟩
  | q :: rs, b :: ads, i + 1, r, a, h, h' => by
    have := Rw.flI_get rs ads i r a (by simpa using h) (by simpa using h')
    rw [show (i + 1) * 3 = i * 3 + 1 + 1 + 1 by omega]
    exact this
/-- Rows that are read: the program's; the document's. -/
def Rw.Sees (w : World) (A : Option Addr) (rs : List Rw.Row) : Prop := ∃ ads : List (Option Addr × Nat), ads.length = rs.length ∧ Sl w w.heap.size A (Rw.fl rs ads) ∧
  ∀ (i : Nat) (r : Rw.Row) (a : Option Addr × Nat), rs[i]? = some r → ads[i]? = some a → Sl w w.heap.size a.1 (r.2.2.map (Value.int .i32))
def Rw.SeesI (w : World) (A : Option Addr) (rs : List Rw.Row) : Prop := ∃ ads : List (Option Addr × Nat), ads.length = rs.length ∧ Sl w w.heap.size A (Rw.flI rs ads) ∧
  ∀ (i : Nat) (r : Rw.Row) (a : Option Addr × Nat), rs[i]? = some r → ads[i]? = some a → Sl w w.heap.size a.1 (r.2.2.map (Value.int .i64))
theorem Rw.Tab.sees {w : World} {A : Option Addr} {rs : List Rw.Row} (h : Rw.Tab w A rs) : Rw.Sees w A rs := by
  obtain ⟨ads, hl, hs, hm⟩ := h
  exact ⟨ads, hl, hs.sl, fun i r a h1 h2 => (hm i r a h1 h2).sl⟩
theorem Rw.Sees.below {w w' : World} {A : Option Addr} {rs : List Rw.Row} (h : Rw.Sees w A rs) (hb : Below w.heap.size w w') : Rw.Sees w' A rs := by
  obtain ⟨ads, hl, hs, hm⟩ := h
  exact ⟨ads, hl, hs.below hb hb.size, fun i r a h1 h2 => (hm i r a h1 h2).below hb hb.size⟩
theorem Rw.SeesI.below {w w' : World} {A : Option Addr} {rs : List Rw.Row} (h : Rw.SeesI w A rs) (hb : Below w.heap.size w w') : Rw.SeesI w' A rs := by
  obtain ⟨ads, hl, hs, hm⟩ := h
  exact ⟨ads, hl, hs.below hb hb.size, fun i r a h1 h2 => (hm i r a h1 h2).below hb hb.size⟩
theorem Rw.Sees.row {w : World} {A : Option Addr} {rs : List Rw.Row} (h : Rw.Sees w A rs) {i : Nat} {r : Rw.Row} (hr : rs[i]? = some r) :
    ∃ (b o : Nat) (a : Option Addr × Nat), A = some ⟨b, o, none⟩ ∧ b < w.heap.size ∧ w.cell? ⟨b, o + i * 3, none⟩ = some (.int .i32 r.1) ∧ w.cell? ⟨b, o + i * 3 + 1, none⟩ = some (.int .i64 r.2.1) ∧ w.cell? ⟨b, o + i * 3 + 2, none⟩ = some (.slice a.1 r.2.2.length a.2) ∧
      Sl w w.heap.size a.1 (r.2.2.map (Value.int .i32)) := by
  obtain ⟨ads, hl, hs, hm⟩ := h
  have hi := (List.getElem?_eq_some_iff.1 hr).1
  obtain ⟨a, ha⟩ : ∃ a, ads[i]? = some a := ⟨_, List.getElem?_eq_getElem (by omega)⟩
  obtain ⟨b, o, rfl, hb, hc⟩ := hs (by rw [Rw.fl_len _ _ hl]; omega)
  obtain ⟨g0, g1, g2⟩ := Rw.fl_get rs ads i r a hr ha
  have hlen := Rw.fl_len rs ads hl
  refine ⟨b, o, a, rfl, hb, ?_, ?_, ?_, hm i r a hr ha⟩
  · rw [hc _ (by omega), g0]
  · rw [Nat.add_assoc, hc _ (by omega), g1]
  · rw [Nat.add_assoc, hc _ (by omega), g2]
theorem Rw.SeesI.row {w : World} {A : Option Addr} {rs : List Rw.Row} (h : Rw.SeesI w A rs) {i : Nat} {r : Rw.Row} (hr : rs[i]? = some r) :
    ∃ (b o : Nat) (a : Option Addr × Nat), A = some ⟨b, o, none⟩ ∧ b < w.heap.size ∧ w.cell? ⟨b, o + i * 3, none⟩ = some (.int .i64 r.1) ∧ w.cell? ⟨b, o + i * 3 + 1, none⟩ = some (.int .i64 r.2.1) ∧ w.cell? ⟨b, o + i * 3 + 2, none⟩ = some (.slice a.1 r.2.2.length a.2) ∧
      Sl w w.heap.size a.1 (r.2.2.map (Value.int .i64)) := by
  obtain ⟨ads, hl, hs, hm⟩ := h
  have hi := (List.getElem?_eq_some_iff.1 hr).1
  obtain ⟨a, ha⟩ : ∃ a, ads[i]? = some a := ⟨_, List.getElem?_eq_getElem (by omega)⟩
  obtain ⟨b, o, rfl, hb, hc⟩ := hs (by rw [Rw.flI_len _ _ hl]; omega)
  obtain ⟨g0, g1, g2⟩ := Rw.flI_get rs ads i r a hr ha
  have hlen := Rw.flI_len rs ads hl
  refine ⟨b, o, a, rfl, hb, ?_, ?_, ?_, hm i r a hr ha⟩
  · rw [hc _ (by omega), g0]
  · rw [Nat.add_assoc, hc _ (by omega), g1]
  · rw [Nat.add_assoc, hc _ (by omega), g2]
end Go.Proofs.Ytamcpdggpdaioaa
