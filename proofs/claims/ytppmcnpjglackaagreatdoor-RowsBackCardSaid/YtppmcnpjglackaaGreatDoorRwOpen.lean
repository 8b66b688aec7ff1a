/- A slice of the document's rows that came in. -/
import Derived.Test.YtppmcnpjglackaaGreatDoorRwTab
import Derived.Test.YtppmcnpjglackaaGreatDoorLib3
import Derived.Deep.SlicePairs
import Derived.Deep.Strs
import Derived.ProofKit
import Derived.OpenShut
namespace Go.Proofs.YtppmcnpjglackaaGreatDoor
open Go.ChangeShapes Go.WideShapes Go.RowKit Go.Deep
set_option linter.unusedSimpArgs false
set_option linter.unusedVariables false

/-- The document's rows' cells. -/
def Rw.flI : List Rw.Row → List (Option Addr × Nat) → List Value
  | r :: rs, a :: ads => .int .i64 r.1 :: .int .i64 r.2.1 :: .slice a.1 r.2.2.length a.2 :: Rw.flI rs ads
  | _, _ => []
theorem Rw.flI_len : ∀ (rs : List Rw.Row) (ads : List (Option Addr × Nat)), ads.length = rs.length → (Rw.flI rs ads).length = rs.length * 3
  | [], _, _ => by simp [Rw.flI]
  | r :: rs, [], h => by simp at h
  | r :: rs, a :: ads, h => by simp [Rw.flI, Rw.flI_len rs ads (by simpa using h)]; omega
theorem Rw.flI_get : ∀ (rs : List Rw.Row) (ads : List (Option Addr × Nat)) (i : Nat) (r : Rw.Row) (a : Option Addr × Nat), rs[i]? = some r → ads[i]? = some a →
    (Rw.flI rs ads)[i * 3]? = some (.int .i64 r.1) ∧ (Rw.flI rs ads)[i * 3 + 1]? = some (.int .i64 r.2.1) ∧ (Rw.flI rs ads)[i * 3 + 2]? = some (.slice a.1 r.2.2.length a.2)
  | [], _, i, _, _, h, _ => by simp at h
  | _ :: _, [], i, _, _, _, h => by simp at h
  | q :: rs, b :: ads, 0, r, a, h, h' => by simp at h h'; subst h h'; exact ⟨rfl, rfl, rfl⟩
  | q :: rs, b :: ads, i + 1, r, a, h, h' => by
    have := Rw.flI_get rs ads i r a (by simpa using h) (by simpa using h')
    rw [show (i + 1) * 3 = i * 3 + 1 + 1 + 1 by omega]
    exact this
def Rw.bounds (r : Rw.Row) : Prop := (-9223372036854775808 ≤ r.1 ∧ r.1 ≤ 9223372036854775807) ∧ (-9223372036854775808 ≤ r.2.1 ∧ r.2.1 ≤ 9223372036854775807) ∧ r.2.2.length ≤ maxLen ∧ ∀ c ∈ r.2.2, -9223372036854775808 ≤ c ∧ c ≤ 9223372036854775807
/-- Rows that came in: nil; or a row of them. -/
def Rw.IsRows (w : World) (a : Option Addr) (len cap : Nat) (l : List Rw.Row) : Prop :=
  ∃ ads, ads.length = l.length ∧ l.length = len ∧ len ≤ cap ∧ cap ≤ maxLen ∧ Sl w w.heap.size a (Rw.flI l ads) ∧
    (∀ (i : Nat) (r : Rw.Row) (a : Option Addr × Nat), l[i]? = some r → ads[i]? = some a → Sl w w.heap.size a.1 (r.2.2.map (Value.int .i64))) ∧ ∀ r ∈ l, Rw.bounds r

theorem Rw.getD_get {α : Type} {n : Nat} {f : Nat → α} {i : Nat} {x : α} (h : ((List.range n).map f)[i]? = some x) : i < n ∧ f i = x := by
  have hlt := (List.getElem?_eq_some_iff.1 h).1
  simp at hlt
  rw [List.getElem?_map, List.getElem?_range hlt] at h
  simp at h
  exact ⟨hlt, h⟩
theorem Rw.flI_cell {w : World} {b o : Nat} : ∀ (l : List Rw.Row) (ads : List (Option Addr × Nat)) (k : Nat), ads.length = l.length →
    (∀ i r a, l[i]? = some r → ads[i]? = some a → w.cell? ⟨b, o + (k + i) * 3, none⟩ = some (.int .i64 r.1) ∧ w.cell? ⟨b, o + (k + i) * 3 + 1, none⟩ = some (.int .i64 r.2.1) ∧ w.cell? ⟨b, o + (k + i) * 3 + 2, none⟩ = some (.slice a.1 r.2.2.length a.2)) →
    ∀ j, j < (Rw.flI l ads).length → w.cell? ⟨b, o + k * 3 + j, none⟩ = (Rw.flI l ads)[j]?
  | [], _, k, _, _, j, hj => by simp [Rw.flI] at hj
  | _ :: _, [], k, h, _, j, hj => by simp at h
  | r :: t, a :: as', k, hl, h, j, hj => by
    obtain ⟨h0, h1, h2⟩ := h 0 r a rfl rfl
    rw [Nat.add_zero] at h0 h1 h2
    have ih := Rw.flI_cell t as' (k + 1) (by simpa using hl) (fun i r' a' hi hi' => by
      have := h (i + 1) r' a' (by simpa using hi) (by simpa using hi')
      rw [show k + (i + 1) = k + 1 + i by omega] at this
      exact this)
    rcases j with _ | _ | _ | j
    · exact h0
    · rw [show o + k * 3 + (0 + 1) = o + k * 3 + 1 by omega]; exact h1
    · rw [show o + k * 3 + (0 + 1 + 1) = o + k * 3 + 2 by omega]; exact h2
    · have := ih j (by simp only [Rw.flI, List.length_cons] at hj; omega)
      rw [show o + k * 3 + (j + 1 + 1 + 1) = o + (k + 1) * 3 + j by omega, this]
      rfl

theorem Rw.isRows_of {H : Type} {enc : TypeId × Value → H} {P : Program} {w : World} {t e q : TypeId} {f0 f1 f2 : Field} {fuel : Nat} {a : Option Addr} {len cap : Nat} {x : DataW H × List MemPlace} (ht : P.underlying t = some (.slice e)) (he : P.underlying e = some (.struct #[f0, f1, f2]))
    (ce : P.cellsOf e = 3) (o0 : f0.offset = 0) (o1 : f1.offset = 1) (o2 : f2.offset = 2) (c0 : P.cellsOf f0.type = 1) (c1 : P.cellsOf f1.type = 1) (c2 : P.cellsOf f2.type = 1) (k0 : P.underlying f0.type = some (.int .i64)) (k1 : P.underlying f1.type = some (.int .i64))
    (k2 : P.underlying f2.type = some (.slice q)) (k3 : P.underlying q = some (.int .i64)) (c3 : P.cellsOf q = 1)
    (h : DataW.trod enc P w 0 (fun _ => true) true fuel t [.slice a len cap] = some x) : ∃ l, Rw.IsRows w a len cap l := by
  rcases open_slice ht h with ⟨hcs, _⟩ | ⟨ad, l, c, m, n, D, Pl, hcs, hb, hl, hm, hmm, _, hx⟩
  · simp only [List.cons.injEq, Value.slice.injEq, and_true] at hcs
    obtain ⟨rfl, rfl, rfl⟩ := hcs
    exact ⟨[], [], rfl, rfl, Nat.le_refl _, by decide, Sl.nil _ _ _, by simp, by simp⟩
  · simp only [List.cons.injEq, Value.slice.injEq, and_true] at hcs
    obtain ⟨rfl, rfl, rfl⟩ := hcs
    have hlm : len ≤ m := by rw [hmm]; split <;> omega
    have each : ∀ i, i < len → ∃ q : Rw.Row × Option Addr × Nat, w.cell? (ad.add (i * 3)) = some (.int .i64 q.1.1) ∧ w.cell? (ad.add (i * 3 + 1)) = some (.int .i64 q.1.2.1) ∧ w.cell? (ad.add (i * 3 + 2)) = some (.slice q.2.1 q.1.2.2.length q.2.2) ∧
        Sl w w.heap.size q.2.1 (q.1.2.2.map (Value.int .i64)) ∧ Rw.bounds q.1 := by
      intro i hi
      obtain ⟨cs', h1, h2⟩ := hx i (by omega)
      rw [ce] at h1
      obtain ⟨_, hlen, hcell⟩ := World.cells?_some h1
      obtain ⟨y0, y1, y2, n', _, _, g0, g1, g2⟩ := trod_struct3 he h2
      match cs', hlen with
      | [v0, v1, v2], _ =>
        simp [o0, o1, o2, c0, c1, c2] at g0 g1 g2
        obtain ⟨z0, e0, _, w0⟩ := DataW.trod_int k0 g0
        obtain ⟨z1, e1, _, w1⟩ := DataW.trod_int k1 g1
        simp only [List.cons.injEq, and_true] at e0 e1
        have d0 := hcell 0 (by omega)
        have d1 := hcell 1 (by omega)
        have d2 := hcell 2 (by omega)
        rw [add_add] at d0 d1 d2
        obtain ⟨a2, l2, p2, zs, ev, hR⟩ : ∃ a2 l2 p2 zs, v2 = .slice a2 l2 p2 ∧ IsRow .i64 w a2 l2 p2 zs := by
          rcases open_ints k2 k3 c3 g2 with ⟨hcs, _⟩ | ⟨x, l, c, zs, hcs, _, hl, hm, hz, _, hcel2, hwz⟩
          · simp only [List.cons.injEq, and_true] at hcs
            subst hcs
            exact ⟨none, 0, 0, [], rfl, .inl ⟨rfl, rfl, rfl, rfl⟩⟩
          · simp only [List.cons.injEq, and_true] at hcs
            subst hcs
            exact ⟨some x, l, c, zs, rfl, .inr ⟨_, rfl, hl, hm, by simpa using hz, hcel2, hwz⟩⟩
        subst ev
        obtain ⟨q1, q2, q3⟩ := hR.len_le
        have hlz : (zs.take l2).length = l2 := by rw [List.length_take, q3]; omega
        refine ⟨((z0, z1, zs.take l2), a2, p2), ?_, ?_, ?_, hR.sl l2 (Nat.le_refl _), bounds_i64 w0, bounds_i64 w1, by show (zs.take l2).length ≤ maxLen; omega, fun c hc => bounds_i64 (hR.wf c (List.mem_of_mem_take hc))⟩
        · rw [← e0]; simpa using d0
        · rw [← e1]; simpa using d1
        · show w.cell? (ad.add (i * 3 + 2)) = some (.slice a2 (zs.take l2).length p2)
          rw [hlz]; simpa using d2
    obtain ⟨q, hq⟩ := choose_lt each
    refine ⟨(List.range len).map fun i => (q i).1, (List.range len).map fun i => (q i).2, by simp, by simp, hl, hm, ?_, ?_, ?_⟩
    · intro hne
      rw [Rw.flI_len _ _ (by simp), List.length_map, List.length_range] at hne
      obtain ⟨b, off, spot⟩ := ad
      have hc0 := (hq 0 (by omega)).1
      have hspot : spot = none := by simpa [Addr.add] using World.cell?_spot hc0
      subst hspot
      have hadd : ∀ i, (⟨b, off, none⟩ : Addr).add i = ⟨b, off + i, none⟩ := by
        intro i; unfold Addr.add; split <;> simp_all
      refine ⟨b, off, rfl, ?_, fun j hj => ?_⟩
      · rw [hadd] at hc0
        exact World.block_lt_of_cell? w _ hc0
      · have := Rw.flI_cell (w := w) (b := b) (o := off) ((List.range len).map fun i => (q i).1) ((List.range len).map fun i => (q i).2) 0 (by simp) (fun i r a hi hi' => by
          obtain ⟨hi1, he1⟩ := Rw.getD_get hi
          obtain ⟨_, he2⟩ := Rw.getD_get hi'
          obtain ⟨a0, a1, a2, _⟩ := hq i hi1
          rw [hadd] at a0 a1 a2
          rw [he1] at a0 a1 a2
          rw [he2] at a2
          rw [Nat.zero_add]
          exact ⟨a0, a1, a2⟩) j hj
        simpa using this
    · intro i r a hi hi'
      obtain ⟨hi1, he1⟩ := Rw.getD_get hi
      obtain ⟨_, he2⟩ := Rw.getD_get hi'
      have := (hq i hi1).2.2.2.1
      rw [he1, he2] at this
      exact this
    · intro r hr
      obtain ⟨i, hi, rfl⟩ := List.mem_map.1 hr
      exact (hq i (List.mem_range.1 hi)).2.2.2.2
end Go.Proofs.YtppmcnpjglackaaGreatDoor
