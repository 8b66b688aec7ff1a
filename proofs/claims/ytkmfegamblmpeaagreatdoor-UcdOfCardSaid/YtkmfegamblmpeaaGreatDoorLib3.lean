/- A right table: each character has a full decomposition. -/
import Derived.Test.YtkmfegamblmpeaaGreatDoorMdTab
import Derived.Test.YtkmfegamblmpeaaGreatDoorHangul
import Derived.BigQuiet
import Derived.Deep.QuietTactic
import Derived.Deep.RegionHeld3
import Derived.Deep.AppendLies
namespace Go.Proofs.YtkmfegamblmpeaaGreatDoor
set_option linter.unusedVariables false
theorem Md.chk_none {T : List Rw.Row} {X : Int → Bool} (h : Md.chk T X = 0) : (∀ r ∈ T, Md.good r) ∧ Md.rises T ∧ (∀ r ∈ T, ∃ l, Md.full T r.1 = some l) ∧ Md.twice T X [] T = false := by
  unfold Md.chk at h
  by_cases h1 : Md.rowsBad (-1) T = 0
  · rw [if_neg (by simp [h1])] at h
    obtain ⟨g1, g2⟩ := Md.rowsBad_zero T (-1) h1
    cases h2 : Md.fullBad T with
    | true => rw [if_pos h2] at h; cases h
    | false =>
      rw [if_neg (by simp [h2])] at h
      refine ⟨fun r hr => (g1 r hr).1, g2, fun r hr => ?_, ?_⟩
      · unfold Md.fullBad at h2
        have := List.any_eq_false.1 h2 r hr
        cases hf : Md.full T r.1 with
        | none => simp [hf] at this
        | some l => exact ⟨l, rfl⟩
      · cases h3 : Md.twice T X [] T with
        | true => rw [if_pos h3] at h; cases h
        | false => rfl
  · rw [if_pos h1] at h
    exact absurd h h1
theorem Md.rmp_kind {T : List Rw.Row} (h : ∀ r ∈ T, Md.good r) {x : Int} (hx : Hg.ofK x ≠ 0) : Md.rmp T x = [] := by
  unfold Md.rmp
  rw [Md.find_none fun r hr he => hx (by rw [← he]; exact (h r hr).2.2.2.2.1)]
  rfl
theorem Md.mp_kind {T : List Rw.Row} (h : ∀ r ∈ T, Md.good r) {x : Int} (hx : Hg.ofK x = 1 ∨ Hg.ofK x = 2 ∨ Hg.ofK x = 3) : Md.mp T x = [] := by
  unfold Md.mp
  rw [Hg.pairK_none x (by omega) (by omega)]
  simp only [Bool.false_eq_true, if_false]
  exact Md.rmp_kind h (by omega)
theorem Md.lv_two (mp : Int → List Int) (k : Nat) {c x y : Int} (hc : mp c = [x, y]) (hx : mp x = []) (hy : mp y = []) : Md.lv mp (k + 1) c = some [x, y] := by
  unfold Md.lv
  rw [if_neg (by rw [hc]; simp), hc]
  simp [Md.lvL, Md.lv_plain mp k hx, Md.lv_plain mp k hy]
theorem Md.full_some {T : List Rw.Row} {X : Int → Bool} (h : Md.chk T X = 0) (a : Int) : ∃ l, Md.full T a = some l := by
  obtain ⟨hg, hr, hf, _⟩ := Md.chk_none h
  cases hfa : Md.find T a with
  | some r =>
    obtain ⟨h1, h2⟩ := Md.find_some hfa
    rw [← h2]
    exact hf r h1
  | none =>
    have hrm : Md.rmp T a = [] := by unfold Md.rmp; rw [hfa]; rfl
    unfold Md.full
    by_cases h4 : Hg.ofK a = 4
    · have hs := Hg.ofK_syl a (.inl h4)
      have hm : Md.mp T a = [4352 + (a - 44032) / 588, 4449 + (a - 44032) % 588 / 28] := by
        unfold Md.mp; rw [Hg.pairK_four a h4]; simp
      have hl : Hg.ofK (4352 + (a - 44032) / 588) = 1 := by unfold Hg.ofK; grind
      have hv : Hg.ofK (4449 + (a - 44032) % 588 / 28) = 2 := by unfold Hg.ofK; grind
      rw [Md.exp_lv _ _ _ _ (by simp), show T.length + 3 = (T.length + 2) + 1 from rfl, Md.lv_two _ _ hm (Md.mp_kind hg (by omega)) (Md.mp_kind hg (by omega))]
      exact ⟨_, rfl⟩
    · by_cases h5 : Hg.ofK a = 5
      · have hs := Hg.ofK_syl a (.inr h5)
        have hm : Md.mp T a = [a - (a - 44032) % 28, 4519 + (a - 44032) % 28] := by
          unfold Md.mp; rw [Hg.pairK_five a h5]; simp
        have hm2 : Md.mp T (a - (a - 44032) % 28) = [4352 + (a - 44032) / 588, 4449 + (a - 44032) % 588 / 28] := by
          unfold Md.mp; rw [Hg.two_of a hs.1 hs.2]; simp
        have h50 : (a - 44032) % 28 ≠ 0 := fun e => by rw [Hg.ofK_four a hs.1 hs.2 e] at h5; omega
        have hl : Hg.ofK (4352 + (a - 44032) / 588) = 1 := by unfold Hg.ofK; grind
        have hv : Hg.ofK (4449 + (a - 44032) % 588 / 28) = 2 := by unfold Hg.ofK; grind
        have ht : Hg.ofK (4519 + (a - 44032) % 28) = 3 := by unfold Hg.ofK; grind
        rw [Md.exp_lv _ _ _ _ (by simp), show T.length + 3 = (T.length + 2) + 1 from rfl]
        have e1 : Md.lv (Md.mp T) (T.length + 2 + 1) a = some [4352 + (a - 44032) / 588, 4449 + (a - 44032) % 588 / 28, 4519 + (a - 44032) % 28] := by
          unfold Md.lv
          rw [if_neg (by rw [hm]; simp), hm]
          simp [Md.lvL, Md.lv_plain _ (T.length + 2) (Md.mp_kind hg (.inr (.inr ht))), show T.length + 2 = (T.length + 1) + 1 from rfl, Md.lv_two _ (T.length + 1) hm2 (Md.mp_kind hg (.inl hl)) (Md.mp_kind hg (.inr (.inl hv)))]
        rw [e1]
        exact ⟨_, rfl⟩
      · have hm : Md.mp T a = [] := by
          unfold Md.mp
          rw [Hg.pairK_none a h4 h5]
          simpa using hrm
        exact ⟨_, Md.exp_plain _ hm⟩
/-- What a full decomposition is like. -/
theorem Md.full_none {T : List Rw.Row} {a : Int} {l : List Int} (h : Md.full T a = some l) : (∀ y ∈ l, Md.mp T y = [] ∧ Md.full T y = some [y]) ∧ 1 ≤ l.length ∧ l.length ≤ 32 ∧ (3 < Hg.ofK a → 2 ≤ l.length) := by
  obtain ⟨h1, h2, h3, h4⟩ := Md.exp_none h
  refine ⟨fun y hy => ⟨h1 y hy, Md.exp_plain _ (h1 y hy)⟩, h2, h4, fun hk => ?_⟩
  have hm : (Md.mp T a).length = 2 := by
    unfold Md.mp
    by_cases h4 : Hg.ofK a = 4
    · rw [Hg.pairK_four a h4]; simp
    · have h5 : Hg.ofK a = 5 := by unfold Hg.ofK at hk h4 ⊢; grind
      rw [Hg.pairK_five a h5]; simp
  omega
theorem Md.lvL_all {Q : Int → Prop} {f : Int → Option (List Int)} (hf : ∀ c l, f c = some l → Q c → ∀ d ∈ l, Q d) : ∀ (L l : List Int), Md.lvL f L = some l → (∀ c ∈ L, Q c) → ∀ d ∈ l, Q d
  | [], l, h, _, d, hd => by
    simp only [Md.lvL, Option.some.injEq] at h
    subst h
    cases hd
  | e :: r, l, h, hL, d, hd => by
    simp only [Md.lvL] at h
    cases he : f e with
    | none => rw [he] at h; cases h
    | some a =>
      rw [he, Option.bind_some] at h
      cases hr : Md.lvL f r with
      | none => rw [hr] at h; cases h
      | some b =>
        rw [hr, Option.map_some] at h
        cases h
        rcases List.mem_append.1 hd with h1 | h1
        · exact hf e a he (hL e List.mem_cons_self) d h1
        · exact Md.lvL_all hf r b hr (fun c hc => hL c (List.mem_cons_of_mem _ hc)) d h1
theorem Md.lv_all {Q : Int → Prop} {mp : Int → List Int} (hm : ∀ c, ∀ d ∈ mp c, Q d) : ∀ (k : Nat) (c : Int) (l : List Int), Md.lv mp k c = some l → Q c → ∀ d ∈ l, Q d
  | 0, c, l, h, hc, d, hd => by
    unfold Md.lv at h
    split at h
    · cases h
      rw [List.mem_singleton] at hd
      rw [hd]; exact hc
    · cases h
  | k + 1, c, l, h, hc, d, hd => by
    unfold Md.lv at h
    split at h
    · cases h
      rw [List.mem_singleton] at hd
      rw [hd]; exact hc
    · exact Md.lvL_all (Md.lv_all hm k) _ _ h (hm c) d hd
theorem Md.full_bd {T : List Rw.Row} (hT : Md.bd T) {a : Int} (ha : -2147483648 ≤ a ∧ a ≤ 2147483647) {l : List Int} (h : Md.full T a = some l) : ∀ y ∈ l, -2147483648 ≤ y ∧ y ≤ 2147483647 := by
  unfold Md.full at h
  rw [Md.exp_lv _ _ _ _ (by simp)] at h
  cases hl : Md.lv (Md.mp T) (T.length + 3) a with
  | none => rw [hl] at h; cases h
  | some b =>
    rw [hl, Option.bind_some] at h
    unfold Md.fit at h
    split at h
    · cases h
      rw [List.nil_append]
      exact Md.lv_all (Md.mp_bd hT) _ a b hl ha
    · cases h
end Go.Proofs.YtkmfegamblmpeaaGreatDoor

/- More small laws: an append of one inside a region that draws its order. -/
namespace Go.Proofs.YtkmfegamblmpeaaGreatDoor
open Go.RowKit
set_option linter.unusedSimpArgs false
set_option linter.unusedVariables false

theorem cell1 (w : World) (u : Value) (e : TypeId) (g : Nat) (hg : w.heap.size = g) : (w.alloc (.cells #[u] e)).drew.cell? ⟨g, 0, none⟩ = some u := by
  subst hg
  show (w.alloc (.cells #[u] e)).cell? ⟨w.heap.size, 0, none⟩ = some u
  have h : (w.alloc (.cells #[u] e)).heap[w.heap.size]? = some (.cells #[u] e (0, 0)) := heap_alloc_new _ _
  simp only [World.cell?, h]
  rfl
section
variable {P : Program}
theorem wp_push1 {o : Oper} {a : Act} {K : Act → World → Prop} {Q : Exit → Act → World → Prop} (w : World) (s x : Operand) (t : TypeId)
    (ho : o.op = .call { callee := .builtin .append, args := #[s, x], argTypes := #[t, t] })
    (base : Nat) (e : TypeId) (i : TypeInfo) (z : Value) (bytes : Nat) (ht : P.underlying t = some (.slice e)) (hi : P.info? e = some i) (hz : i.zero = some z)
    (hsize : i.size = 1) (hby : i.bytes = bytes) (hzs : z.cells.size = 1)
    (v : Value) (n : Nat) (xs : List Value) (hs : a.eval s = v) (hown : w.ownsRow base e 1 v n xs)
    (u : Value) (h1 : u.oneCell' = true) (g : Nat) (hx : a.eval x = .slice (some ⟨g, 0, none⟩) 1 1) (hcell : w.cell? ⟨g, 0, none⟩ = some u)
    (h63 : n + 1 ≤ maxLen) (hbytes : (n + 1) * bytes ≤ 140737488355328) (hbase : base ≤ w.heap.size)
    (h : ∀ v' w', w'.ownsRow base e 1 v' (n + 1) (xs ++ [u]) → Below base w w' → w.grownBy w' v.ownBlock → K (a.put o.dst v') w') :
    o.wp P a w K Q := by
  refine wp_append_own (P := P) w s x t ho base e i z 1 bytes ht hi hz hsize hby hzs (by omega) v n xs hs hown ⟨g, 0, none⟩ 1 1 [u] hx rfl ?_ ?_ h63 hbytes hbase ?_
  · intro j q hq
    rcases j with _ | j
    · simp only [List.getElem?_cons_zero, Option.some.injEq] at hq
      subst hq
      simpa [Addr.add] using hcell
    · simp at hq
  · intro q hq
    simp only [List.mem_singleton] at hq
    subst hq
    exact h1
  · intro v' w' h2 h3 _
    refine h v' w' h2 ?_ h3
    refine (Below.refl _ _).grown h3 hbase ?_
    intro k hk
    exact (hown.lt k hk).1

theorem step_push1 {ops : Array Oper} {o : Oper} {a : Act} {K : Act → World → Prop} {Q : Exit → Act → World → Prop} {E : Prop} (w : World) (hgd : o.guard = none) (s x : Operand) (t : TypeId)
    (ho : o.op = .call { callee := .builtin .append, args := #[s, x], argTypes := #[t, t] })
    (base : Nat) (e : TypeId) (i : TypeInfo) (z : Value) (bytes : Nat) (ht : P.underlying t = some (.slice e)) (hi : P.info? e = some i) (hz : i.zero = some z)
    (hsize : i.size = 1) (hby : i.bytes = bytes) (hzs : z.cells.size = 1)
    (v : Value) (n : Nat) (xs : List Value) (hs : a.eval s = v) (hown : w.ownsRow base e 1 v n xs)
    (u : Value) (h1 : u.oneCell' = true) (g : Nat) (hx : a.eval x = .slice (some ⟨g, 0, none⟩) 1 1) (hcell : w.cell? ⟨g, 0, none⟩ = some u)
    (h63 : n + 1 ≤ maxLen) (hbytes : (n + 1) * bytes ≤ 140737488355328) (hbase : base ≤ w.heap.size)
    (h : ∀ v' w', w'.ownsRow base e 1 v' (n + 1) (xs ++ [u]) → Below base w w' → w.grownBy w' v.ownBlock → K (a.put o.dst v') w') :
    if Region.wanted o (yielded ops a.tmps) = true then Oper.wp P o a w K Q else E := by
  have hw : Region.wanted o (yielded ops a.tmps) = true := by simp [Region.wanted, hgd]
  rw [if_pos hw]
  exact wp_push1 w s x t ho base e i z bytes ht hi hz hsize hby hzs v n xs hs hown u h1 g hx hcell h63 hbytes hbase h
end
end Go.Proofs.YtkmfegamblmpeaaGreatDoor

/- A slice of whole numbers that came in. -/
namespace Go.Proofs.YtkmfegamblmpeaaGreatDoor
open Go.RowKit
set_option linter.unusedSimpArgs false
set_option linter.unusedVariables false

/-- A slice of integers that came in: nil; or a row of cap cells, the numbers zs, the first len of them its elements. -/
def IsRow (k : IntKind) (w : World) (a : Option Addr) (len cap : Nat) (zs : List Int) : Prop :=
  (a = none ∧ len = 0 ∧ cap = 0 ∧ zs = []) ∨
  ∃ x, a = some x ∧ len ≤ cap ∧ cap ≤ maxLen ∧ zs.length = cap ∧ (∀ i, i < zs.length → w.cell? (x.add i) = some (.int k (zs.getD i 0))) ∧ ∀ n ∈ zs, (Lit.int k n).wf = true

theorem IsRow.len_le {k : IntKind} {w : World} {a : Option Addr} {len cap : Nat} {zs : List Int} (h : IsRow k w a len cap zs) : len ≤ cap ∧ cap ≤ maxLen ∧ zs.length = cap := by
  rcases h with ⟨rfl, rfl, rfl, rfl⟩ | ⟨x, rfl, h1, h2, h3, _⟩
  · exact ⟨Nat.le_refl _, by decide, rfl⟩
  · exact ⟨h1, h2, h3⟩
theorem IsRow.wf {k : IntKind} {w : World} {a : Option Addr} {len cap : Nat} {zs : List Int} (h : IsRow k w a len cap zs) : ∀ n ∈ zs, (Lit.int k n).wf = true := by
  rcases h with ⟨rfl, rfl, rfl, rfl⟩ | ⟨x, rfl, h1, h2, h3, h4, h5⟩
  · simp
  · exact h5
theorem IsRow.sl {k : IntKind} {w : World} {a : Option Addr} {len cap : Nat} {zs : List Int} (h : IsRow k w a len cap zs) (m : Nat) (hm : m ≤ len) : Sl w w.heap.size a ((zs.take m).map (Value.int k)) := by
  rcases h with ⟨rfl, rfl, rfl, rfl⟩ | ⟨x, rfl, h1, h2, h3, h4, h5⟩
  · simpa using Sl.nil w w.heap.size none
  · intro hx
    rw [List.length_map, List.length_take] at hx
    obtain ⟨b, off, spot⟩ := x
    have hc0 := h4 0 (by omega)
    have hspot : spot = none := by simpa [Addr.add] using World.cell?_spot hc0
    subst hspot
    have hadd : ∀ i, (⟨b, off, none⟩ : Addr).add i = ⟨b, off + i, none⟩ := by
      intro i; unfold Addr.add; split <;> simp_all
    refine ⟨b, off, rfl, ?_, ?_⟩
    · rw [hadd] at hc0
      exact World.block_lt_of_cell? w _ hc0
    · intro i hi
      rw [List.length_map, List.length_take] at hi
      rw [← hadd, h4 i (by omega), List.getElem?_map, List.getElem?_take, if_pos (by omega), List.getElem?_eq_getElem (by omega)]
      simp [List.getD, show i < zs.length by omega]
end Go.Proofs.YtkmfegamblmpeaaGreatDoor
