/- Many rows of the call's own at once, each in a block of its own: what an append, a call, a store leaves of them. -/
import Derived.Test.YtkmfegamblmpeaaGreatDoorUdPlain
import Derived.Test.YtkmfegamblmpeaaGreatDoorCpIsPlain
import Derived.Test.YtkmfegamblmpeaaGreatDoorClone
import Derived.Maps.AppendAt
import Derived.Test.YtkmfegamblmpeaaGreatDoorUdIs
namespace Go.Proofs.YtkmfegamblmpeaaGreatDoor
open Go.RowKit
set_option linter.unusedSimpArgs false
set_option linter.unusedVariables false

/-- A row: its elements' type, the cells of one, the slice, its length, the cells. -/
structure Fam.Row where
  e : TypeId
  size : Nat
  v : Value
  n : Nat
  xs : List Value
structure Fam {ι : Type} (w : World) (base : Nat) (f : ι → Option Fam.Row) : Prop where
  own : ∀ i r, f i = some r → w.ownsRow base r.e r.size r.v r.n r.xs
  apart : ∀ i j r q g, i ≠ j → f i = some r → f j = some q → r.v.ownBlock = some g → q.v.ownBlock ≠ some g
def Fam.set {ι : Type} [DecidableEq ι] (f : ι → Option Fam.Row) (i : ι) (r : Fam.Row) : ι → Option Fam.Row := fun j => if j = i then some r else f j
theorem Fam.set_same {ι : Type} [DecidableEq ι] (f : ι → Option Fam.Row) (i : ι) (r : Fam.Row) : Fam.set f i r i = some r := by simp [Fam.set]
theorem Fam.set_other {ι : Type} [DecidableEq ι] (f : ι → Option Fam.Row) {i j : ι} (r : Fam.Row) (h : j ≠ i) : Fam.set f i r j = f j := by simp [Fam.set, h]

section
variable {ι : Type} {w : World} {base : Nat} {f : ι → Option Fam.Row}
theorem own_at {e : TypeId} {size n : Nat} {v : Value} {xs : List Value} (h : w.ownsRow base e size v n xs) {g : Nat} (hg : v.ownBlock = some g) : base ≤ g ∧ g < w.heap.size := by
  rcases h.2 with ⟨rfl, _⟩ | ⟨k, cap, cur, rfl, hb, hk, _⟩
  · simp [Value.ownBlock] at hg
  · simp only [Value.ownBlock, Option.some.injEq] at hg
    subst hg
    exact ⟨hb, heap_lt hk⟩
theorem Fam.mk' (w : World) (base : Nat) : Fam w base (fun _ : ι => none) := ⟨fun i r h => (by cases h), fun i j r q g _ h => (by cases h)⟩
theorem Fam.below (h : Fam w base f) {w' : World} (hb : Below w.heap.size w w') : Fam w' base f :=
  ⟨fun i r hi => own_below (h.own i r hi) hb (Nat.le_refl _), h.apart⟩
/-- A store into a block that is none of the rows'. -/
theorem Fam.other (h : Fam w base f) {w' : World} {b : Nat} (hg : w.grownBy w' (some b)) (hb : b < base) : Fam w' base f :=
  ⟨fun i r hi => (h.own i r hi).kept hg (by
    cases hv : r.v.ownBlock with
    | none => exact .inl rfl
    | some g => exact .inr fun e => by cases e; have := (own_at (h.own i r hi) hv).1; omega), h.apart⟩
/-- A row that grows. -/
theorem Fam.grow [DecidableEq ι] (h : Fam w base f) {w' : World} {i : ι} {r : Fam.Row} (hi : f i = some r) (hg : w.grownBy w' r.v.ownBlock) {q : Fam.Row} (hq : w'.ownsRow base q.e q.size q.v q.n q.xs)
    (hl : q.v.ownBlock = r.v.ownBlock ∨ q.v.ownBlock = some w.heap.size) : Fam w' base (Fam.set f i q) := by
  have hlt : ∀ j s g, f j = some s → s.v.ownBlock = some g → g < w.heap.size := fun j s g hj hs => (own_at (h.own j s hj) hs).2
  refine ⟨fun j s hj => ?_, fun j k s t g hjk hj hk hs ht => ?_⟩
  · by_cases e : j = i
    · subst e
      rw [Fam.set_same] at hj
      cases hj
      exact hq
    · rw [Fam.set_other _ _ e] at hj
      refine (h.own j s hj).kept hg ?_
      cases hv : s.v.ownBlock with
      | none => exact .inl rfl
      | some g => exact .inr fun e' => h.apart j i s r g e hj hi hv e'.symm
  · by_cases e1 : j = i
    · subst e1
      rw [Fam.set_same] at hj
      cases hj
      rw [Fam.set_other _ _ (Ne.symm hjk)] at hk
      rcases hl with hl | hl
      · rw [hl] at hs
        exact h.apart j k r t g hjk hi hk hs ht
      · rw [hl] at hs
        cases hs
        have := hlt k t _ hk ht
        omega
    · rw [Fam.set_other _ _ e1] at hj
      by_cases e2 : k = i
      · subst e2
        rw [Fam.set_same] at hk
        cases hk
        rcases hl with hl | hl
        · rw [hl] at ht
          exact h.apart j k s r g hjk hj hi hs ht
        · rw [hl] at ht
          cases ht
          have := hlt j s _ hj hs
          omega
      · rw [Fam.set_other _ _ e2] at hk
        exact h.apart j k s t g hjk hj hk hs ht
/-- A row that a call, or an allocation, made. -/
theorem Fam.new [DecidableEq ι] (h : Fam w base f) {w' : World} (hb : Below w.heap.size w w') (i : ι) {q : Fam.Row} (hq : w'.ownsRow base q.e q.size q.v q.n q.xs) (hl : ∀ g, q.v.ownBlock = some g → w.heap.size ≤ g) : Fam w' base (Fam.set f i q) := by
  have hlt : ∀ j s g, f j = some s → s.v.ownBlock = some g → g < w.heap.size := fun j s g hj hs => (own_at (h.own j s hj) hs).2
  refine ⟨fun j s hj => ?_, fun j k s t g hjk hj hk hs ht => ?_⟩
  · by_cases e : j = i
    · subst e
      rw [Fam.set_same] at hj
      cases hj
      exact hq
    · rw [Fam.set_other _ _ e] at hj
      exact own_below (h.own j s hj) hb (Nat.le_refl _)
  · by_cases e1 : j = i
    · subst e1
      rw [Fam.set_same] at hj
      cases hj
      rw [Fam.set_other _ _ (Ne.symm hjk)] at hk
      have h1 := hl g hs
      have h2 := hlt k t g hk ht
      omega
    · rw [Fam.set_other _ _ e1] at hj
      by_cases e2 : k = i
      · subst e2
        rw [Fam.set_same] at hk
        cases hk
        have h1 := hl g ht
        have h2 := hlt j s g hj hs
        omega
      · rw [Fam.set_other _ _ e2] at hk
        exact h.apart j k s t g hjk hj hk hs ht
end

/-- An append, and where the new slice lies. -/
theorem run_appendAt {P : Program} (w : World) (t ty : TypeId)
    (base : Nat) (e : TypeId) (i : TypeInfo) (z : Value) (size bytes : Nat) (ht : P.underlying t = some (.slice e)) (hi : P.info? e = some i) (hz : i.zero = some z)
    (hsize : i.size = size) (hby : i.bytes = bytes) (hzs : z.cells.size = size) (hsz : 0 < size)
    (v : Value) (n : Nat) (xs : List Value) (hown : w.ownsRow base e size v n xs)
    (B : Nat) (A : Option Addr) (m c : Nat) (news : List Value) (hl : news.length = m * size) (hA : Sl w B A news) (h1 : ∀ u ∈ news, u.oneCell' = true)
    (h63 : n + m ≤ maxLen) (hbytes : (n + m) * bytes ≤ 140737488355328) (hbase : base ≤ w.heap.size) :
    ∃ v' w', (Builtin.append_ #[t, t] ty #[v, .slice A m c]).run P w = .ok v' w' ∧ w'.ownsRow base e size v' (n + m) (xs ++ news) ∧ Below base w w' ∧ w.grownBy w' v.ownBlock ∧ (v'.ownBlock = v.ownBlock ∨ v'.ownBlock = some w.heap.size) := by
  rcases A with _ | ad
  · have hn : news = [] := by
      rcases news with _ | ⟨u, r⟩
      · rfl
      · obtain ⟨b, o, hA, _⟩ := hA (by simp)
        cases hA
    subst hn
    have hm : m = 0 := by
      rcases Nat.eq_zero_or_pos m with h | h
      · exact h
      · have := Nat.mul_pos h hsz
        simp at hl
        omega
    subst hm
    exact ⟨v, w, run_append_empty (P := P) w base t ty e i size ht hi v n xs hown c, by simpa using hown, Below.refl _ _, World.grownBy.refl w _, .inl rfl⟩
  · obtain ⟨v', w', hr, h2, h3, _, h5⟩ := run_append_own_at (P := P) w base t ty e i z size bytes ht hi hz hsize hby hzs hsz v n xs hown ad m c news hl (by
      intro j q hq
      have hj : j < news.length := (List.getElem?_eq_some_iff.1 hq).1
      obtain ⟨b, o, hA, _, hc⟩ := hA (by omega)
      simp only [Option.some.injEq] at hA
      subst hA
      rw [Addr.add_lit, hc j hj, hq]) h1 h63 hbytes hbase
    refine ⟨v', w', hr, h2, ?_, h3, h5⟩
    refine (Below.refl _ _).grown h3 hbase ?_
    intro k hk
    exact (hown.lt k hk).1

/-- An append onto one of the rows, as an operation. -/
theorem Fam.wp_append {P : Program} {ι : Type} [DecidableEq ι] {o : Oper} {a : Act} {K : Act → World → Prop} {Q : Exit → Act → World → Prop} (w : World) (s x : Operand) (t : TypeId)
    (ho : o.op = .call { callee := .builtin .append, args := #[s, x], argTypes := #[t, t] })
    {base : Nat} {f : ι → Option Fam.Row} (hF : Fam w base f) (j : ι) (r : Fam.Row) (hj : f j = some r)
    (i : TypeInfo) (z : Value) (bytes : Nat) (ht : P.underlying t = some (.slice r.e)) (hi : P.info? r.e = some i) (hz : i.zero = some z)
    (hsize : i.size = r.size) (hby : i.bytes = bytes) (hzs : z.cells.size = r.size) (hsz : 0 < r.size) (hs : a.eval s = r.v)
    (B : Nat) (A : Option Addr) (m c : Nat) (news : List Value) (hx : a.eval x = .slice A m c) (hl : news.length = m * r.size) (hA : Sl w B A news) (h1 : ∀ u ∈ news, u.oneCell' = true)
    (h63 : r.n + m ≤ maxLen) (hbytes : (r.n + m) * bytes ≤ 140737488355328) (hbase : base ≤ w.heap.size)
    (h : ∀ v' w', Fam w' base (Fam.set f j ⟨r.e, r.size, v', r.n + m, r.xs ++ news⟩) → Below base w w' → w.grownBy w' r.v.ownBlock → K (a.put o.dst v') w') :
    o.wp P a w K Q := by
  obtain ⟨v', w', hr, h2, h3, h4, h5⟩ := run_appendAt (P := P) w t o.type base r.e i z r.size bytes ht hi hz hsize hby hzs hsz r.v r.n r.xs (hF.own j r hj) B A m c news hl hA h1 h63 hbytes hbase
  unfold Oper.wp execOp
  simp only [ho, resolve, invoke, builtin, Sem.run_bind, Sem.run_pure, Result.andThen_ok, List.map_toArray, List.map_cons, List.map_nil, hs, hx, hr]
  exact h v' w' (hF.grow hj h4 (q := ⟨r.e, r.size, v', r.n + m, r.xs ++ news⟩) h2 h5) h3 h4
/-- The same, at a plain region's list. -/
theorem Fam.wpList_append {P : Program} {ι : Type} [DecidableEq ι] {ops : Array Oper} {rest : List Oper} {o : Oper} {a : Act} {Q : Exit → Act → World → Prop} (w : World) (hgd : o.guard = none) (s x : Operand) (t : TypeId)
    (ho : o.op = .call { callee := .builtin .append, args := #[s, x], argTypes := #[t, t] })
    {base : Nat} {f : ι → Option Fam.Row} (hF : Fam w base f) (j : ι) (r : Fam.Row) (hj : f j = some r)
    (i : TypeInfo) (z : Value) (bytes : Nat) (ht : P.underlying t = some (.slice r.e)) (hi : P.info? r.e = some i) (hz : i.zero = some z)
    (hsize : i.size = r.size) (hby : i.bytes = bytes) (hzs : z.cells.size = r.size) (hsz : 0 < r.size) (hs : a.eval s = r.v)
    (B : Nat) (A : Option Addr) (m c : Nat) (news : List Value) (hx : a.eval x = .slice A m c) (hl : news.length = m * r.size) (hA : Sl w B A news) (h1 : ∀ u ∈ news, u.oneCell' = true)
    (h63 : r.n + m ≤ maxLen) (hbytes : (r.n + m) * bytes ≤ 140737488355328) (hbase : base ≤ w.heap.size)
    (h : ∀ v' w', Fam w' base (Fam.set f j ⟨r.e, r.size, v', r.n + m, r.xs ++ news⟩) → Below base w w' → w.grownBy w' r.v.ownBlock → wpList P ops Q rest (a.put o.dst v') w') :
    wpList P ops Q (o :: rest) a w :=
  wpList_plain hgd fun _ hK => Fam.wp_append w s x t ho hF j r hj i z bytes ht hi hz hsize hby hzs hsz hs B A m c news hx hl hA h1 h63 hbytes hbase fun v' w' h2 h3 h4 => hK _ _ (h v' w' h2 h3 h4)
theorem own_cell {w : World} {base : Nat} {e : TypeId} {size n c g : Nat} {xs : List Value} (h : w.ownsRow base e size (.slice (some ⟨g, 0, none⟩) n c) n xs) {i : Nat} {u : Value} (hi : xs[i]? = some u) : w.cell? ⟨g, i, none⟩ = some u := by
  have hlt := (List.getElem?_eq_some_iff.1 hi).1
  obtain ⟨b, o, hA, _, hc⟩ := Sl.of_own h (by omega)
  simp only [Option.some.injEq, Addr.mk.injEq, and_true] at hA
  obtain ⟨rfl, rfl⟩ := hA
  have := hc i hlt
  rw [Nat.zero_add] at this
  rw [this, hi]
theorem own_mono {w : World} {base base' : Nat} {e : TypeId} {size n : Nat} {v : Value} {xs : List Value} (h : w.ownsRow base e size v n xs) (hb : base' ≤ base) : w.ownsRow base' e size v n xs := by
  refine ⟨h.1, ?_⟩
  rcases h.2 with hn | ⟨g, cap, cur, h1, h2, h3⟩
  · exact .inl hn
  · exact .inr ⟨g, cap, cur, h1, by omega, h3⟩
section
variable {ι : Type} {w : World} {base : Nat} {f : ι → Option Fam.Row}
theorem Fam.ne (h : Fam w base f) {i j : ι} (hij : i ≠ j) {r q : Fam.Row} (hi : f i = some r) (hj : f j = some q) {b : Nat} (hb : q.v.ownBlock = some b) : r.v.ownBlock ≠ some b := fun e => h.apart i j r q b hij hi hj e hb
theorem Fam.low (h : Fam w base f) {i : ι} {r : Fam.Row} (hi : f i = some r) {b : Nat} (hb : b < base) : r.v.ownBlock ≠ some b := fun e => by have := (own_at (h.own i r hi) e).1; omega
/-- A new row out of an allocation: a box, or what a literal made. -/
theorem Fam.box [DecidableEq ι] (h : Fam w base f) (hb : base ≤ w.heap.size) (i : ι) (cs : List Value) (e : TypeId) (n size : Nat) (hs : cs.length = n * size) (hn : n ≤ maxLen) : Fam (w.alloc (.cells cs.toArray e)) base (Fam.set f i ⟨e, size, .slice (some ⟨w.heap.size, 0, none⟩) n n, n, cs⟩) :=
  h.new ((Below.refl _ _).alloc (Nat.le_refl _) _) i (World.ownsRow_lit w cs.toArray n hb hn (by simpa using hs)) (fun g hg => by simp only [Value.ownBlock, Option.some.injEq] at hg; omega)
end
theorem own_of_at {w : World} {base b : Nat} {t : TypeId} {cs : List Value} (h : Rw.At w b t cs) (hb : base ≤ b) (n size : Nat) (hs : cs.length = n * size) (hn : n ≤ maxLen) : w.ownsRow base t size (.slice (some ⟨b, 0, none⟩) n n) n cs :=
  ⟨hs, .inr ⟨b, n, cs.toArray, rfl, hb, h, Nat.le_refl _, hn, by simpa using hs, by rw [List.take_of_length_le (by simp; omega)]⟩⟩
/-- A store into a row's own cells. -/
theorem Fam.store {ι : Type} [DecidableEq ι] {w w' : World} {base : Nat} {f : ι → Option Fam.Row} (h : Fam w base f) {i : ι} {e : TypeId} {size n b : Nat} {cs cs' : List Value} (hi : f i = some ⟨e, size, .slice (some ⟨b, 0, none⟩) n n, n, cs⟩) (hg : w.grownBy w' (some b)) (hat : Rw.At w' b e cs') (hs : cs'.length = n * size) (hn : n ≤ maxLen) :
    Fam w' base (Fam.set f i ⟨e, size, .slice (some ⟨b, 0, none⟩) n n, n, cs'⟩) :=
  h.grow hi hg (own_of_at hat (own_at (h.own _ _ hi) (g := b) rfl).1 n size hs hn) (.inl rfl)
theorem grown_belowB {w w' : World} {B b : Nat} (hg : w.grownBy w' (some b)) (hB : B ≤ w.heap.size) (hb : B ≤ b) : Below B w w' :=
  Below.grown (Below.refl _ _) hg hB (by intro k hk; simp only [Option.some.injEq] at hk; omega)
theorem some_ne {q b : Nat} (h : q < b) : some q ≠ some b := by simp only [ne_eq, Option.some.injEq]; omega
theorem own_tail {w : World} {base : Nat} {e : TypeId} {n c b : Nat} {xs : List Value} (h : w.ownsRow base e 1 (.slice (some ⟨b, 0, none⟩) n c) n xs) : Sl w w.heap.size (some ⟨b, 1, none⟩) (xs.drop 1) := by
  intro hx
  rw [List.length_drop] at hx
  refine ⟨b, 1, rfl, (own_at h (g := b) rfl).2, fun q hq => ?_⟩
  rw [List.length_drop] at hq
  rw [List.getElem?_drop]
  exact (own_cell h (List.getElem?_eq_getElem (by omega))).trans (List.getElem?_eq_getElem (by omega)).symm
theorem own_cap {w : World} {base : Nat} {e : TypeId} {size n c b : Nat} {xs : List Value} (h : w.ownsRow base e size (.slice (some ⟨b, 0, none⟩) n c) n xs) : n ≤ c := by
  rcases h.2 with ⟨hv, _⟩ | ⟨g, cap, cur, hv, _, _, hnc, _⟩
  · cases hv
  · simp only [Value.slice.injEq] at hv; omega
theorem Mp.Is.same {P : Program} {k : TypeId} {w w' : World} {b : Nat} {F : Value → Option Value} (h : Mp.Is P k w b F) (hs : w'.heap[b]? = w.heap[b]?) : Mp.Is P k w' b F := by
  obtain ⟨es, c, hb, r⟩ := h
  exact ⟨es, c, hs.trans hb, r⟩
end Go.Proofs.YtkmfegamblmpeaaGreatDoor

/- ucd.Of: what is there behind the first rows. -/
namespace Go.Proofs.YtkmfegamblmpeaaGreatDoor
open Go.RowKit
set_option linter.unusedSimpArgs false
set_option linter.unusedVariables false
abbrev Ud.Ix := Nat × Int
def Ud.rowOf (A : Option Addr) (c : Nat) (l : List Int) : Fam.Row := ⟨21, 1, .slice A l.length c, l.length, Ud.ints l⟩
def Ud.rowV (v : Value) (l : List Int) : Fam.Row := ⟨21, 1, v, l.length, Ud.ints l⟩
def Ud.clK (K : List Rw.Row) : List (Int × Int) := K.map fun r => (r.1, r.2.1)
def Ud.innM (T M : List Rw.Row) : List Int := M.flatMap fun r => (Ud.full T r.1).drop 1
def Ud.mpdM (M : List Rw.Row) : List Int := M.map (·.1)
def Ud.prsM (T : List Rw.Row) (X : Int → Bool) (M : List Rw.Row) : List Rw.Row := M.filter fun r => Md.prim T X r.1
def Ud.secM (T : List Rw.Row) (X : Int → Bool) (M : List Rw.Row) : List Int := (Ud.prsM T X M).map fun r => r.2.2.getD 1 0
def Ud.begM (T M : List Rw.Row) (c : Int) : List Int := (M.filter fun r => decide ((Ud.full T r.1).headD 0 = c)).map (·.1)
def Ud.joiM (T : List Rw.Row) (X : Int → Bool) (M : List Rw.Row) (a b : Int) : Option Int := (Ud.prsM T X M).foldl (fun o r => if r.2.2.getD 0 0 = a ∧ r.2.2.getD 1 0 = b then some r.1 else o) none
structure Ud.Rows (T : List Rw.Row) (X : Int → Bool) (K M : List Rw.Row) (f : Ud.Ix → Option Fam.Row) (vT vc vp ve vi vs vm : Value) (ads : List (Option Addr × Nat)) (es : List Ud.At) : Prop where
  la : ads.length = K.length
  le : es.length = M.length
  t : f (0, 0) = some ⟨99, 3, vT, K.length, Rw.fl K ads⟩
  c : f (0, 1) = some ⟨102, 2, vc, K.length, Pg.fl (Ud.clK K)⟩
  p : f (0, 2) = some ⟨102, 2, vp, M.length, Pg.fl (Ud.plG 0 M)⟩
  e : f (0, 3) = some ⟨81, 3, ve, M.length, Ud.flE T X M es⟩
  i : f (0, 4) = some (Ud.rowV vi (Ud.innM T M))
  s : f (0, 5) = some (Ud.rowV vs (Ud.secM T X M))
  m : f (0, 6) = some (Ud.rowV vm (Ud.mpdM M))
  rm : ∀ (j : Nat) r a, K[j]? = some r → ads[j]? = some a → f (2, (j : Int)) = some (Ud.rowOf a.1 a.2 r.2.2)
  em : ∀ (j : Nat) r a, M[j]? = some r → es[j]? = some a → f (3, (j : Int)) = some (Ud.rowOf a.m a.mc r.2.2) ∧ f (4, (j : Int)) = some (Ud.rowOf a.f a.fc (Ud.full T r.1))
/-- The map of what begins so, while it grows. -/
def Ud.BegI (T M : List Rw.Row) (f : Ud.Ix → Option Fam.Row) (G : Value → Option Value) : Prop :=
  ∀ c : Int, (Ud.begM T M c = [] ∧ G (.int .i32 c) = none) ∨ ∃ v, G (.int .i32 c) = some v ∧ f (1, c) = some (Ud.rowV v (Ud.begM T M c))
def Ud.JoiI (T : List Rw.Row) (X : Int → Bool) (M : List Rw.Row) (J : Value → Option Value) : Prop := ∀ a c : Int, J (.agg #[.int .i32 a, .int .i32 c]) = (Ud.joiM T X M a c).map (Value.int .i32)
def Ud.cells (vT : Value) (XA : Option Addr) (xn xc : Nat) (ve : Value) (mb jb : Nat) : List Value := [vT, .slice XA xn xc, .pointer none, .pointer none, ve, .map (some mb), .map (some jb), .slice none 0 0, .slice none 0 0, .slice none 0 0]
def Ud.Inv (T : List Rw.Row) (X : Int → Bool) (K M : List Rw.Row) (w : World) (base D mb jb : Nat) (XA : Option Addr) (xn xc : Nat) (vc vp vi vs vm : Value) : Prop :=
  ∃ f vT ve ads es G J, Fam w base f ∧ Rw.At w D 76 (Ud.cells vT XA xn xc ve mb jb) ∧ Mp.Is Tryz.prog 21 w mb G ∧ Mp.Is Tryz.prog 104 w jb J ∧ base ≤ w.heap.size ∧
    Ud.Rows T X K M f vT vc vp ve vi vs vm ads es ∧ Ud.BegI T M f G ∧ Ud.JoiI T X M J
section
variable {T : List Rw.Row} {X : Int → Bool} {K M : List Rw.Row} {f f' : Ud.Ix → Option Fam.Row} {vT vc vp ve vi vs vm : Value} {ads : List (Option Addr × Nat)} {es : List Ud.At}
theorem Ud.get_app {α : Type} {l : List α} {a : α} {j : Nat} {x : α} (h : (l ++ [a])[j]? = some x) : (l[j]? = some x ∧ j < l.length) ∨ (j = l.length ∧ a = x) := by
  rcases Nat.lt_or_ge j l.length with hl | hl
  · rw [List.getElem?_append_left hl] at h
    exact .inl ⟨h, hl⟩
  · rw [List.getElem?_append_right hl] at h
    have : j - l.length = 0 := by
      rcases Nat.eq_zero_or_pos (j - l.length) with h0 | h0
      · exact h0
      · rw [List.getElem?_eq_none (by simp; omega)] at h; cases h
    rw [this] at h
    exact .inr ⟨by omega, by simpa using h⟩
/-- A row more that is kept. -/
theorem Ud.Rows.addK (h : Ud.Rows T X K M f vT vc vp ve vi vs vm ads es) {r : Rw.Row} {a : Option Addr × Nat} {vT' vc' : Value}
    (h0 : f' (0, 0) = some ⟨99, 3, vT', K.length + 1, Rw.fl K ads ++ [.int .i32 r.1, .int .i64 r.2.1, .slice a.1 r.2.2.length a.2]⟩) (h1 : f' (0, 1) = some ⟨102, 2, vc', K.length + 1, Pg.fl (Ud.clK K) ++ [.int .i32 r.1, .int .u16 r.2.1]⟩)
    (h2 : f' (2, (K.length : Int)) = some (Ud.rowOf a.1 a.2 r.2.2)) (ho : ∀ ix : Ud.Ix, ix.1 ≤ 5 → ix ≠ (0, 0) → ix ≠ (0, 1) → ix ≠ (2, (K.length : Int)) → f' ix = f ix) :
    Ud.Rows T X (K ++ [r]) M f' vT' vc' vp ve vi vs vm (ads ++ [a]) es := by
  have same : ∀ i : Int, 2 ≤ i → f' (0, i) = f (0, i) := fun i hi => ho _ (Nat.zero_le _) (by intro e; cases e; omega) (by intro e; cases e; omega) (by intro e; cases e)
  refine ⟨by simp [h.la], h.le, ?_, ?_, (same 2 (by decide)).trans h.p, (same 3 (by decide)).trans h.e, (same 4 (by decide)).trans h.i, (same 5 (by decide)).trans h.s, (same 6 (by decide)).trans h.m, fun j q b hj hb => ?_, fun j q b hj hb => ?_⟩
  · rw [h0, Rw.fl_app _ _ r a h.la, List.length_append]; rfl
  · rw [h1]
    unfold Ud.clK
    rw [List.map_append, Pg.fl_app, List.length_append]; rfl
  · rcases Ud.get_app hj with ⟨hj', hl⟩ | ⟨rfl, rfl⟩
    · rcases Ud.get_app hb with ⟨hb', _⟩ | ⟨e, _⟩
      · rw [ho _ (by show (2 : Nat) ≤ 5; decide) (by intro e; cases e) (by intro e; cases e) (by intro e; simp only [Prod.mk.injEq, true_and] at e; omega)]
        exact h.rm j q b hj' hb'
      · have := h.la; omega
    · rcases Ud.get_app hb with ⟨_, hl⟩ | ⟨_, rfl⟩
      · have := h.la; omega
      · exact h2
  · rw [ho _ (by show (3 : Nat) ≤ 5; decide) (by intro e; cases e) (by intro e; cases e) (by intro e; cases e), ho _ (by show (4 : Nat) ≤ 5; decide) (by intro e; cases e) (by intro e; cases e) (by intro e; cases e)]
    exact h.em j q b hj hb
/-- A row more that maps something. -/
theorem Ud.Rows.addM (h : Ud.Rows T X K M f vT vc vp ve vi vs vm ads es) {r : Rw.Row} {a : Ud.At} {vp' ve' vi' vs' vm' : Value}
    (h0 : f' (0, 2) = some ⟨102, 2, vp', M.length + 1, Pg.fl (Ud.plG 0 M) ++ [.int .i32 r.1, .int .u16 ((M.length : Int) + 1)]⟩)
    (h1 : f' (0, 3) = some ⟨81, 3, ve', M.length + 1, Ud.flE T X M es ++ [.slice a.m r.2.2.length a.mc, .slice a.f (Ud.full T r.1).length a.fc, .bool (Md.prim T X r.1)]⟩)
    (h2 : f' (0, 4) = some (Ud.rowV vi' (Ud.innM T M ++ (Ud.full T r.1).drop 1))) (h3 : f' (0, 6) = some (Ud.rowV vm' (Ud.mpdM M ++ [r.1])))
    (h4 : f' (0, 5) = some (Ud.rowV vs' (Ud.secM T X (M ++ [r])))) (h5 : f' (3, (M.length : Int)) = some (Ud.rowOf a.m a.mc r.2.2)) (h6 : f' (4, (M.length : Int)) = some (Ud.rowOf a.f a.fc (Ud.full T r.1)))
    (ht : f' (0, 0) = f (0, 0)) (hc : f' (0, 1) = f (0, 1)) (hr : ∀ j : Int, f' (2, j) = f (2, j)) (h3' : ∀ j : Int, j ≠ M.length → f' (3, j) = f (3, j)) (h4' : ∀ j : Int, j ≠ M.length → f' (4, j) = f (4, j)) :
    Ud.Rows T X K (M ++ [r]) f' vT vc vp' ve' vi' vs' vm' ads (es ++ [a]) := by
  refine ⟨h.la, by simp [h.le], ht.trans h.t, hc.trans h.c, ?_, ?_, ?_, h4, ?_, fun j q b hj hb => (hr _).trans (h.rm j q b hj hb), fun j q b hj hb => ?_⟩
  · rw [h0, Ud.plG_app, Pg.fl_app, List.length_append, Nat.zero_add]; rfl
  · rw [h1, Ud.flE_app T X M es r a h.le, List.length_append]; rfl
  · rw [h2]
    unfold Ud.innM
    rw [List.flatMap_append]
    simp
  · rw [h3]
    unfold Ud.mpdM
    rw [List.map_append]; rfl
  · rcases Ud.get_app hj with ⟨hj', hl⟩ | ⟨rfl, rfl⟩
    · rcases Ud.get_app hb with ⟨hb', _⟩ | ⟨e, _⟩
      · rw [h3' _ (by omega), h4' _ (by omega)]
        exact h.em j q b hj' hb'
      · have := h.le; omega
    · rcases Ud.get_app hb with ⟨_, hl⟩ | ⟨_, rfl⟩
      · have := h.le; omega
      · exact ⟨h5, h6⟩
theorem Ud.BegI.keep {G : Value → Option Value} (h : Ud.BegI T M f G) (ho : ∀ c : Int, f' (1, c) = f (1, c)) : Ud.BegI T M f' G := by
  intro c
  rw [ho c]
  exact h c
theorem Ud.begM_app (r : Rw.Row) (c : Int) : Ud.begM T (M ++ [r]) c = if (Ud.full T r.1).headD 0 = c then Ud.begM T M c ++ [r.1] else Ud.begM T M c := by
  unfold Ud.begM
  rw [List.filter_append, List.map_append]
  by_cases hc : (Ud.full T r.1).headD 0 = c
  · rw [if_pos hc, List.filter_cons, if_pos (decide_eq_true hc)]; rfl
  · rw [if_neg hc, List.filter_cons, if_neg (by simpa using hc)]; simp
theorem Ud.BegI.add {G G' : Value → Option Value} (h : Ud.BegI T M f G) {r : Rw.Row} {v : Value} (hG : G' (.int .i32 ((Ud.full T r.1).headD 0)) = some v) (hG' : ∀ y, y ≠ .int .i32 ((Ud.full T r.1).headD 0) → G' y = G y)
    (hv : f' (1, (Ud.full T r.1).headD 0) = some (Ud.rowV v (Ud.begM T M ((Ud.full T r.1).headD 0) ++ [r.1]))) (ho : ∀ c : Int, c ≠ (Ud.full T r.1).headD 0 → f' (1, c) = f (1, c)) : Ud.BegI T (M ++ [r]) f' G' := by
  intro c
  rw [Ud.begM_app]
  by_cases hc : (Ud.full T r.1).headD 0 = c
  · subst hc
    rw [if_pos rfl]
    exact .inr ⟨v, hG, hv⟩
  · rw [if_neg hc, hG' _ (by intro e; cases e; exact hc rfl), ho c (Ne.symm hc)]
    exact h c
theorem Ud.prsM_app (r : Rw.Row) : Ud.prsM T X (M ++ [r]) = if Md.prim T X r.1 = true then Ud.prsM T X M ++ [r] else Ud.prsM T X M := by
  unfold Ud.prsM
  rw [List.filter_append, List.filter_cons]
  cases Md.prim T X r.1 <;> simp
theorem Ud.secM_app (r : Rw.Row) : Ud.secM T X (M ++ [r]) = if Md.prim T X r.1 = true then Ud.secM T X M ++ [r.2.2.getD 1 0] else Ud.secM T X M := by
  unfold Ud.secM
  rw [Ud.prsM_app]
  cases Md.prim T X r.1 <;> simp
theorem Ud.JoiI.no {J : Value → Option Value} (h : Ud.JoiI T X M J) {r : Rw.Row} (hp : Md.prim T X r.1 = false) : Ud.JoiI T X (M ++ [r]) J := by
  intro a c
  unfold Ud.joiM
  rw [Ud.prsM_app, if_neg (by rw [hp]; simp)]
  exact h a c
theorem Ud.JoiI.add {J J' : Value → Option Value} (h : Ud.JoiI T X M J) {r : Rw.Row} (hp : Md.prim T X r.1 = true) (hJ : J' (.agg #[.int .i32 (r.2.2.getD 0 0), .int .i32 (r.2.2.getD 1 0)]) = some (.int .i32 r.1))
    (hJ' : ∀ y, y ≠ .agg #[.int .i32 (r.2.2.getD 0 0), .int .i32 (r.2.2.getD 1 0)] → J' y = J y) : Ud.JoiI T X (M ++ [r]) J' := by
  intro a c
  unfold Ud.joiM
  rw [Ud.prsM_app, if_pos hp, List.foldl_append, List.foldl_cons, List.foldl_nil]
  by_cases hc : r.2.2.getD 0 0 = a ∧ r.2.2.getD 1 0 = c
  · rw [if_pos hc]
    obtain ⟨rfl, rfl⟩ := hc
    exact hJ
  · rw [if_neg hc, hJ' _ (by intro e; simp only [Value.agg.injEq, Array.mk.injEq, List.cons.injEq, Value.int.injEq, true_and, and_true] at e; exact hc ⟨e.1.symm, e.2.symm⟩)]
    exact h a c
end
theorem Ud.inn_len {T : List Rw.Row} (h : ∀ c, (Ud.full T c).length ≤ 32) : ∀ M : List Rw.Row, (Ud.innM T M).length ≤ 31 * M.length
  | [] => by simp [Ud.innM]
  | r :: M => by
    have h1 := Ud.inn_len h M
    have h2 := h r.1
    unfold Ud.innM at h1 ⊢
    rw [List.flatMap_cons, List.length_append, List.length_drop, List.length_cons]
    omega
theorem Ud.full_le {T : List Rw.Row} (c : Int) : (Ud.full T c).length ≤ 32 := by
  unfold Ud.full
  cases h : Md.full T c with
  | none => simp
  | some l => exact (Md.full_none h).2.2.1
end Go.Proofs.YtkmfegamblmpeaaGreatDoor
