/- Many rows of the call's own at once, each in a block of its own: what an append, a call, a store leaves of them. -/
import Derived.Test.YthcdecncnppjaaaDoorLib4
import Derived.Test.YthcdecncnppjaaaDoorMap
import Derived.Test.YthcdecncnppjaaaDoorRwTab
import Derived.Maps.AppendAt
namespace Go.Proofs.YthcdecncnppjaaaDoor
open Go.RowKit
set_option linter.unusedSimpArgs false
set_option linter.unusedVariables false

/-- A row: its elements' type, the cells of one, the slice, its length, the cells. -/
structure Fam.Row where
  e : TypeId
  size : Nat
  v : Value
  n : Nat
  xs : List Value
structure Fam {ι : Type} (w : World) (base : Nat) (f : ι → Option Fam.Row) : Prop where
  own : ∀ i r, f i = some r → w.ownsRow base r.e r.size r.v r.n r.xs
  apart : ∀ i j r q g, i ≠ j → f i = some r → f j = some q → r.v.ownBlock = some g → q.v.ownBlock ≠ some g
def Fam.set {ι : Type} [DecidableEq ι] (f : ι → Option Fam.Row) (i : ι) (r : Fam.Row) : ι → Option Fam.Row := fun j => if j = i then some r else f j
theorem Fam.set_same {ι : Type} [DecidableEq ι] (f : ι → Option Fam.Row) (i : ι) (r : Fam.Row) : Fam.set f i r i = some r := by simp [Fam.set]
theorem Fam.set_other {ι : Type} [DecidableEq ι] (f : ι → Option Fam.Row) {i j : ι} (r : Fam.Row) (h : j ≠ i) : Fam.set f i r j = f j := by simp [Fam.set, h]

section
variable {ι : Type} {w : World} {base : Nat} {f : ι → Option Fam.Row}
theorem own_at {e : TypeId} {size n : Nat} {v : Value} {xs : List Value} (h : w.ownsRow base e size v n xs) {g : Nat} (hg : v.ownBlock = some g) : base ≤ g ∧ g < w.heap.size := by
  rcases h.2 with ⟨rfl, _⟩ | ⟨k, cap, cur, rfl, hb, hk, _⟩
  · simp [Value.ownBlock] at hg
  · simp only [Value.ownBlock, Option.some.injEq] at hg
    subst hg
    exact ⟨hb, heap_lt hk⟩
theorem Fam.mk' (w : World) (base : Nat) : Fam w base (fun _ : ι => none) := ⟨fun i r h => (by cases h), fun i j r q g _ h => (by cases h)⟩
theorem Fam.below (h : Fam w base f) {w' : World} (hb : Below w.heap.size w w') : Fam w' base f :=
  ⟨fun i r hi => own_below (h.own i r hi) hb (Nat.le_refl _), h.apart⟩
/-- A store into a block that is none of the rows'. -/
theorem Fam.other (h : Fam w base f) {w' : World} {b : Nat} (hg : w.grownBy w' (some b)) (hb : b < base) : Fam w' base f :=
  ⟨fun i r hi => (h.own i r hi).kept hg (by
    cases hv : r.v.ownBlock with
    | none => exact .inl rfl
    | some g => exact .inr fun e => by cases e; have := (own_at (h.own i r hi) hv).1; omega), h.apart⟩
theorem Fam.congr (h : Fam w base f) {g : ι → Option Fam.Row} (hg : ∀ i r, g i = some r → f i = some r) : Fam w base g :=
  ⟨fun i r hi => h.own i r (hg i r hi), fun i j r q x hij hi hj => h.apart i j r q x hij (hg i r hi) (hg j q hj)⟩
/-- A row that grows. -/
theorem Fam.grow [DecidableEq ι] (h : Fam w base f) {w' : World} {i : ι} {r : Fam.Row} (hi : f i = some r) (hg : w.grownBy w' r.v.ownBlock) {q : Fam.Row} (hq : w'.ownsRow base q.e q.size q.v q.n q.xs)
    (hl : q.v.ownBlock = r.v.ownBlock ∨ q.v.ownBlock = some w.heap.size) : Fam w' base (Fam.set f i q) := by
  have hlt : ∀ j s g, f j = some s → s.v.ownBlock = some g → g < w.heap.size := fun j s g hj hs => (own_at (h.own j s hj) hs).2
  refine ⟨fun j s hj => ?_, fun j k s t g hjk hj hk hs ht => ?_⟩
  · by_cases e : j = i
    · subst e
      rw [Fam.set_same] at hj
      cases hj
      exact hq
    · rw [Fam.set_other _ _ e] at hj
      refine (h.own j s hj).kept hg ?_
      cases hv : s.v.ownBlock with
      | none => exact .inl rfl
      | some g => exact .inr fun e' => h.apart j i s r g e hj hi hv e'.symm
  · by_cases e1 : j = i
    · subst e1
      rw [Fam.set_same] at hj
      cases hj
      rw [Fam.set_other _ _ (Ne.symm hjk)] at hk
      rcases hl with hl | hl
      · rw [hl] at hs
        exact h.apart j k r t g hjk hi hk hs ht
      · rw [hl] at hs
        cases hs
        have := hlt k t _ hk ht
        omega
    · rw [Fam.set_other _ _ e1] at hj
      by_cases e2 : k = i
      · subst e2
        rw [Fam.set_same] at hk
        cases hk
        rcases hl with hl | hl
        · rw [hl] at ht
          exact h.apart j k s r g hjk hj hi hs ht
        · rw [hl] at ht
          cases ht
          have := hlt j s _ hj hs
          omega
      · rw [Fam.set_other _ _ e2] at hk
        exact h.apart j k s t g hjk hj hk hs ht
/-- A row that a call, or an allocation, made. -/
theorem Fam.new [DecidableEq ι] (h : Fam w base f) {w' : World} (hb : Below w.heap.size w w') (i : ι) {q : Fam.Row} (hq : w'.ownsRow base q.e q.size q.v q.n q.xs) (hl : ∀ g, q.v.ownBlock = some g → w.heap.size ≤ g) : Fam w' base (Fam.set f i q) := by
  have hlt : ∀ j s g, f j = some s → s.v.ownBlock = some g → g < w.heap.size := fun j s g hj hs => (own_at (h.own j s hj) hs).2
  refine ⟨fun j s hj => ?_, fun j k s t g hjk hj hk hs ht => ?_⟩
  · by_cases e : j = i
    · subst e
      rw [Fam.set_same] at hj
      cases hj
      exact hq
    · rw [Fam.set_other _ _ e] at hj
      exact own_below (h.own j s hj) hb (Nat.le_refl _)
  · by_cases e1 : j = i
    · subst e1
      rw [Fam.set_same] at hj
      cases hj
      rw [Fam.set_other _ _ (Ne.symm hjk)] at hk
      have h1 := hl g hs
      have h2 := hlt k t g hk ht
      omega
    · rw [Fam.set_other _ _ e1] at hj
      by_cases e2 : k = i
      · subst e2
        rw [Fam.set_same] at hk
        cases hk
        have h1 := hl g ht
        have h2 := hlt j s g hj hs
        omega
      · rw [Fam.set_other _ _ e2] at hk
        exact h.apart j k s t g hjk hj hk hs ht
end

/-- An append, and where the new slice lies. -/
theorem run_appendAt {P : Program} (w : World) (t ty : TypeId)
    (base : Nat) (e : TypeId) (i : TypeInfo) (z : Value) (size bytes : Nat) (ht : P.underlying t = some (.slice e)) (hi : P.info? e = some i) (hz : i.zero = some z)
    (hsize : i.size = size) (hby : i.bytes = bytes) (hzs : z.cells.size = size) (hsz : 0 < size)
    (v : Value) (n : Nat) (xs : List Value) (hown : w.ownsRow base e size v n xs)
    (B : Nat) (A : Option Addr) (m c : Nat) (news : List Value) (hl : news.length = m * size) (hA : Sl w B A news) (h1 : ∀ u ∈ news, u.oneCell' = true)
    (h63 : n + m ≤ maxLen) (hbytes : (n + m) * bytes ≤ 140737488355328) (hbase : base ≤ w.heap.size) :
    ∃ v' w', (Builtin.append_ #[t, t] ty #[v, .slice A m c]).run P w = .ok v' w' ∧ w'.ownsRow base e size v' (n + m) (xs ++ news) ∧ Below base w w' ∧ w.grownBy w' v.ownBlock ∧ (v'.ownBlock = v.ownBlock ∨ v'.ownBlock = some w.heap.size) := by
  rcases A with _ | ad
  · have hn : news = [] := by
      rcases news with _ | ⟨u, r⟩
      · rfl
      · obtain ⟨b, o, hA, _⟩ := hA (by simp)
        cases hA
    subst hn
    have hm : m = 0 := by
      rcases Nat.eq_zero_or_pos m with h | h
      · exact h
      · have := Nat.mul_pos h hsz
        simp at hl
        omega
    subst hm
    exact ⟨v, w, run_append_empty (P := P) w base t ty e i size ht hi v n xs hown c, by simpa using hown, Below.refl _ _, World.grownBy.refl w _, .inl rfl⟩
  · obtain ⟨v', w', hr, h2, h3, _, h5⟩ := run_append_own_at (P := P) w base t ty e i z size bytes ht hi hz hsize hby hzs hsz v n xs hown ad m c news hl (by
      intro j q hq
      have hj : j < news.length := (List.getElem?_eq_some_iff.1 hq).1
      obtain ⟨b, o, hA, _, hc⟩ := hA (by omega)
      simp only [Option.some.injEq] at hA
      subst hA
      rw [Addr.add_lit, hc j hj, hq]) h1 h63 hbytes hbase
    refine ⟨v', w', hr, h2, ?_, h3, h5⟩
    refine (Below.refl _ _).grown h3 hbase ?_
    intro k hk
    exact (hown.lt k hk).1

/-- An append onto one of the rows, as an operation. -/
theorem Fam.wp_append {P : Program} {ι : Type} [DecidableEq ι] {o : Oper} {a : Act} {K : Act → World → Prop} {Q : Exit → Act → World → Prop} (w : World) (s x : Operand) (t : TypeId)
    (ho : o.op = .call { callee := .builtin .append, args := #[s, x], argTypes := #[t, t] })
    {base : Nat} {f : ι → Option Fam.Row} (hF : Fam w base f) (j : ι) (r : Fam.Row) (hj : f j = some r)
    (i : TypeInfo) (z : Value) (bytes : Nat) (ht : P.underlying t = some (.slice r.e)) (hi : P.info? r.e = some i) (hz : i.zero = some z)
    (hsize : i.size = r.size) (hby : i.bytes = bytes) (hzs : z.cells.size = r.size) (hsz : 0 < r.size) (hs : a.eval s = r.v)
    (B : Nat) (A : Option Addr) (m c : Nat) (news : List Value) (hx : a.eval x = .slice A m c) (hl : news.length = m * r.size) (hA : Sl w B A news) (h1 : ∀ u ∈ news, u.oneCell' = true)
    (h63 : r.n + m ≤ maxLen) (hbytes : (r.n + m) * bytes ≤ 140737488355328) (hbase : base ≤ w.heap.size)
    (h : ∀ v' w', Fam w' base (Fam.set f j ⟨r.e, r.size, v', r.n + m, r.xs ++ news⟩) → Below base w w' → w.grownBy w' r.v.ownBlock → K (a.put o.dst v') w') :
    o.wp P a w K Q := by
  obtain ⟨v', w', hr, h2, h3, h4, h5⟩ := run_appendAt (P := P) w t o.type base r.e i z r.size bytes ht hi hz hsize hby hzs hsz r.v r.n r.xs (hF.own j r hj) B A m c news hl hA h1 h63 hbytes hbase
  unfold Oper.wp execOp
  simp only [ho, resolve, invoke, builtin, Sem.run_bind, Sem.run_pure, Result.andThen_ok, List.map_toArray, List.map_cons, List.map_nil, hs, hx, hr]
  exact h v' w' (hF.grow hj h4 (q := ⟨r.e, r.size, v', r.n + m, r.xs ++ news⟩) h2 h5) h3 h4
/-- The same, at a plain region's list. -/
theorem Fam.wpList_append {P : Program} {ι : Type} [DecidableEq ι] {ops : Array Oper} {rest : List Oper} {o : Oper} {a : Act} {Q : Exit → Act → World → Prop} (w : World) (hgd : o.guard = none) (s x : Operand) (t : TypeId)
    (ho : o.op = .call { callee := .builtin .append, args := #[s, x], argTypes := #[t, t] })
    {base : Nat} {f : ι → Option Fam.Row} (hF : Fam w base f) (j : ι) (r : Fam.Row) (hj : f j = some r)
    (i : TypeInfo) (z : Value) (bytes : Nat) (ht : P.underlying t = some (.slice r.e)) (hi : P.info? r.e = some i) (hz : i.zero = some z)
    (hsize : i.size = r.size) (hby : i.bytes = bytes) (hzs : z.cells.size = r.size) (hsz : 0 < r.size) (hs : a.eval s = r.v)
    (B : Nat) (A : Option Addr) (m c : Nat) (news : List Value) (hx : a.eval x = .slice A m c) (hl : news.length = m * r.size) (hA : Sl w B A news) (h1 : ∀ u ∈ news, u.oneCell' = true)
    (h63 : r.n + m ≤ maxLen) (hbytes : (r.n + m) * bytes ≤ 140737488355328) (hbase : base ≤ w.heap.size)
    (h : ∀ v' w', Fam w' base (Fam.set f j ⟨r.e, r.size, v', r.n + m, r.xs ++ news⟩) → Below base w w' → w.grownBy w' r.v.ownBlock → wpList P ops Q rest (a.put o.dst v') w') :
    wpList P ops Q (o :: rest) a w :=
  wpList_plain hgd fun _ hK => Fam.wp_append w s x t ho hF j r hj i z bytes ht hi hz hsize hby hzs hsz hs B A m c news hx hl hA h1 h63 hbytes hbase fun v' w' h2 h3 h4 => hK _ _ (h v' w' h2 h3 h4)
theorem own_cell {w : World} {base : Nat} {e : TypeId} {size n c g : Nat} {xs : List Value} (h : w.ownsRow base e size (.slice (some ⟨g, 0, none⟩) n c) n xs) {i : Nat} {u : Value} (hi : xs[i]? = some u) : w.cell? ⟨g, i, none⟩ = some u := by
  have hlt := (List.getElem?_eq_some_iff.1 hi).1
  obtain ⟨b, o, hA, _, hc⟩ := Sl.of_own h (by omega)
  simp only [Option.some.injEq, Addr.mk.injEq, and_true] at hA
  obtain ⟨rfl, rfl⟩ := hA
  have := hc i hlt
  rw [Nat.zero_add] at this
  rw [this, hi]
theorem own_mono {w : World} {base base' : Nat} {e : TypeId} {size n : Nat} {v : Value} {xs : List Value} (h : w.ownsRow base e size v n xs) (hb : base' ≤ base) : w.ownsRow base' e size v n xs := by
  refine ⟨h.1, ?_⟩
  rcases h.2 with hn | ⟨g, cap, cur, h1, h2, h3⟩
  · exact .inl hn
  · exact .inr ⟨g, cap, cur, h1, by omega, h3⟩
theorem own_frozen {w : World} {base : Nat} {e : TypeId} {size n c g : Nat} {xs : List Value} (h : w.ownsRow base e size (.slice (some ⟨g, 0, none⟩) n c) n xs) (i : Nat) : w.frozen? ⟨g, i, none⟩ = false := by
  rcases h.2 with ⟨hv, _⟩ | ⟨k, cap, cur, hv, _, hk, _⟩
  · cases hv
  · simp only [Value.slice.injEq, Option.some.injEq, Addr.mk.injEq, and_true, true_and] at hv
    obtain ⟨rfl, _⟩ := hv
    simp [World.frozen?, hk]
section
variable {ι : Type} {w : World} {base : Nat} {f : ι → Option Fam.Row}
theorem Fam.ne (h : Fam w base f) {i j : ι} (hij : i ≠ j) {r q : Fam.Row} (hi : f i = some r) (hj : f j = some q) {b : Nat} (hb : q.v.ownBlock = some b) : r.v.ownBlock ≠ some b := fun e => h.apart i j r q b hij hi hj e hb
theorem Fam.low (h : Fam w base f) {i : ι} {r : Fam.Row} (hi : f i = some r) {b : Nat} (hb : b < base) : r.v.ownBlock ≠ some b := fun e => by have := (own_at (h.own i r hi) e).1; omega
/-- A new row out of an allocation: a box, or what a literal made. -/
theorem Fam.box [DecidableEq ι] (h : Fam w base f) (hb : base ≤ w.heap.size) (i : ι) (cs : List Value) (e : TypeId) (n size : Nat) (hs : cs.length = n * size) (hn : n ≤ maxLen) : Fam (w.alloc (.cells cs.toArray e)) base (Fam.set f i ⟨e, size, .slice (some ⟨w.heap.size, 0, none⟩) n n, n, cs⟩) :=
  h.new ((Below.refl _ _).alloc (Nat.le_refl _) _) i (World.ownsRow_lit w cs.toArray n hb hn (by simpa using hs)) (fun g hg => by simp only [Value.ownBlock, Option.some.injEq] at hg; omega)
end
theorem own_of_at {w : World} {base b : Nat} {t : TypeId} {cs : List Value} (h : Rw.At w b t cs) (hb : base ≤ b) (n size : Nat) (hs : cs.length = n * size) (hn : n ≤ maxLen) : w.ownsRow base t size (.slice (some ⟨b, 0, none⟩) n n) n cs :=
  ⟨hs, .inr ⟨b, n, cs.toArray, rfl, hb, h, Nat.le_refl _, hn, by simpa using hs, by rw [List.take_of_length_le (by simp; omega)]⟩⟩
/-- A store into a row's own cells. -/
theorem Fam.store {ι : Type} [DecidableEq ι] {w w' : World} {base : Nat} {f : ι → Option Fam.Row} (h : Fam w base f) {i : ι} {e : TypeId} {size n b : Nat} {cs cs' : List Value} (hi : f i = some ⟨e, size, .slice (some ⟨b, 0, none⟩) n n, n, cs⟩) (hg : w.grownBy w' (some b)) (hat : Rw.At w' b e cs') (hs : cs'.length = n * size) (hn : n ≤ maxLen) :
    Fam w' base (Fam.set f i ⟨e, size, .slice (some ⟨b, 0, none⟩) n n, n, cs'⟩) :=
  h.grow hi hg (own_of_at hat (own_at (h.own _ _ hi) (g := b) rfl).1 n size hs hn) (.inl rfl)
theorem grown_belowB {w w' : World} {B b : Nat} (hg : w.grownBy w' (some b)) (hB : B ≤ w.heap.size) (hb : B ≤ b) : Below B w w' :=
  Below.grown (Below.refl _ _) hg hB (by intro k hk; simp only [Option.some.injEq] at hk; omega)
theorem some_ne {q b : Nat} (h : q < b) : some q ≠ some b := by simp only [ne_eq, Option.some.injEq]; omega
theorem own_tail {w : World} {base : Nat} {e : TypeId} {n c b : Nat} {xs : List Value} (h : w.ownsRow base e 1 (.slice (some ⟨b, 0, none⟩) n c) n xs) : Sl w w.heap.size (some ⟨b, 1, none⟩) (xs.drop 1) := by
  intro hx
  rw [List.length_drop] at hx
  refine ⟨b, 1, rfl, (own_at h (g := b) rfl).2, fun q hq => ?_⟩
  rw [List.length_drop] at hq
  rw [List.getElem?_drop]
  exact (own_cell h (List.getElem?_eq_getElem (by omega))).trans (List.getElem?_eq_getElem (by omega)).symm
theorem own_cap {w : World} {base : Nat} {e : TypeId} {size n c b : Nat} {xs : List Value} (h : w.ownsRow base e size (.slice (some ⟨b, 0, none⟩) n c) n xs) : n ≤ c := by
  rcases h.2 with ⟨hv, _⟩ | ⟨g, cap, cur, hv, _, _, hnc, _⟩
  · cases hv
  · simp only [Value.slice.injEq] at hv; omega
theorem Mp.Is.same {P : Program} {k : TypeId} {w w' : World} {b : Nat} {F : Value → Option Value} (h : Mp.Is P k w b F) (hs : w'.heap[b]? = w.heap[b]?) : Mp.Is P k w' b F := by
  obtain ⟨es, c, hb, r⟩ := h
  exact ⟨es, c, hs.trans hb, r⟩
theorem Mp.Is.notcells {P : Program} {k : TypeId} {w : World} {b : Nat} {F : Value → Option Value} (h : Mp.Is P k w b F) {cs : Array Value} {t : TypeId} {z : Nat × Nat} : w.heap[b]? ≠ some (.cells cs t z) := fun e => by
  obtain ⟨es, c, hb, r⟩ := h
  rw [hb] at e
  cases e
end Go.Proofs.YthcdecncnppjaaaDoor
