/- A slice of pairs of whole numbers that came in. -/
import Derived.Test.YtamcpdggpdaioaaCpArgs
import Derived.Deep.SlicePairs
import Derived.ProofKit
import Derived.OpenShut
namespace Go.Proofs.Ytamcpdggpdaioaa
open Go.ChangeShapes Go.WideShapes Go.RowKit Go.Deep
set_option linter.unusedSimpArgs false
set_option linter.unusedVariables false

/-- Pairs of int that came in: nil; or a row. -/
def IsPairs (w : World) (a : Option Addr) (len cap : Nat) (rs : List (Int × Int)) : Prop :=
  rs.length = len ∧ len ≤ cap ∧ cap ≤ maxLen ∧ Sl w w.heap.size a (C.fl .i64 rs) ∧ ∀ r ∈ rs, (Lit.int .i64 r.1).wf = true ∧ (Lit.int .i64 r.2).wf = true

theorem isPairs_of {H : Type} {enc : TypeId × Value → H} {P : Program} {w : World} {base : Nat} {spare : Nat → Bool} {held : Bool} {t e : TypeId} {f0 f1 : Field} {fuel : Nat} {a : Option Addr} {len cap : Nat} {x : DataW H × List MemPlace} (ht : P.underlying t = some (.slice e)) (he : P.underlying e = some (.struct #[f0, f1]))
    (ce : P.cellsOf e = 2) (o0 : f0.offset = 0) (o1 : f1.offset = 1) (c0 : P.cellsOf f0.type = 1) (c1 : P.cellsOf f1.type = 1) (k0 : P.underlying f0.type = some (.int .i64)) (k1 : P.underlying f1.type = some (.int .i64))
    (h : DataW.trod enc P w base spare held fuel t [.slice a len cap] = some x) : ∃ rs, IsPairs w a len cap rs := by
  rcases open_slice_pairs ht he ce o0 o1 c0 c1 h with ⟨hcs, _⟩ | ⟨ad, l, c, m, n, V0, V1, D0, D1, P0, P1, hcs, _, hl, hm, hmm, _, hx⟩
  · simp only [List.cons.injEq, Value.slice.injEq, and_true] at hcs
    obtain ⟨rfl, rfl, rfl⟩ := hcs
    exact ⟨[], rfl, Nat.le_refl _, by decide, Sl.nil _ _ _, by simp⟩
  · simp only [List.cons.injEq, Value.slice.injEq, and_true] at hcs
    obtain ⟨rfl, rfl, rfl⟩ := hcs
    have hlm : len ≤ m := by rw [hmm]; split <;> omega
    have each : ∀ i, i < len → ∃ q : Int × Int, w.cell? (ad.add (i * 2)) = some (.int .i64 q.1) ∧ w.cell? (ad.add (i * 2 + 1)) = some (.int .i64 q.2) ∧ (Lit.int .i64 q.1).wf = true ∧ (Lit.int .i64 q.2).wf = true := by
      intro i hi
      obtain ⟨h1, h2, h3, h4⟩ := hx i (by omega)
      obtain ⟨n0, e0, _, w0⟩ := DataW.trod_int k0 h3
      obtain ⟨n1, e1, _, w1⟩ := DataW.trod_int k1 h4
      simp only [List.cons.injEq, and_true] at e0 e1
      exact ⟨(n0, n1), by rw [h1, e0], by rw [h2, e1], w0, w1⟩
    have built : ∀ n, n ≤ len → ∃ rs : List (Int × Int), rs.length = n ∧ (∀ i r, rs[i]? = some r → w.cell? (ad.add (i * 2)) = some (.int .i64 r.1) ∧ w.cell? (ad.add (i * 2 + 1)) = some (.int .i64 r.2)) ∧ ∀ r ∈ rs, (Lit.int .i64 r.1).wf = true ∧ (Lit.int .i64 r.2).wf = true := by
      intro n
      induction n with
      | zero => intro _; exact ⟨[], rfl, by simp, by simp⟩
      | succ n ih =>
        intro hn
        obtain ⟨rs, r1, r2, r3⟩ := ih (by omega)
        obtain ⟨q, q1, q2, q3, q4⟩ := each n (by omega)
        refine ⟨rs ++ [q], by simp [r1], ?_, ?_⟩
        · intro i r hr
          rcases Nat.lt_or_ge i n with h' | h'
          · rw [List.getElem?_append_left (by omega)] at hr
            exact r2 i r hr
          · have hlt := (List.getElem?_eq_some_iff.1 hr).1
            rw [List.length_append, List.length_singleton, r1] at hlt
            obtain rfl : i = n := by omega
            rw [List.getElem?_append_right (by omega), r1, Nat.sub_self] at hr
            simp at hr
            subst hr
            exact ⟨q1, q2⟩
        · intro r hr
          rcases List.mem_append.1 hr with hr | hr
          · exact r3 r hr
          · simp at hr; subst hr; exact ⟨q3, q4⟩
    obtain ⟨rs, r1, r2, r3⟩ := built len (Nat.le_refl _)
    refine ⟨rs, r1, hl, hm, ?_, r3⟩
    intro hne
    rw [C.fl_len] at hne
    obtain ⟨b, off, spot⟩ := ad
    obtain ⟨q, hq⟩ : ∃ q, rs[0]? = some q := ⟨_, List.getElem?_eq_getElem (by omega)⟩
    have hc0 := (r2 0 q hq).1
    have hspot : spot = none := by simpa [Addr.add] using World.cell?_spot hc0
    subst hspot
    have hadd : ∀ i, (⟨b, off, none⟩ : Addr).add i = ⟨b, off + i, none⟩ := by
      intro i; unfold Addr.add; split <;> simp_all
    refine ⟨b, off, rfl, ?_, ?_⟩
    · rw [hadd] at hc0
      exact World.block_lt_of_cell? w _ hc0
    · intro j hj
      rw [C.fl_len] at hj
      obtain ⟨r, hr⟩ : ∃ r, rs[j / 2]? = some r := ⟨_, List.getElem?_eq_getElem (by omega)⟩
      obtain ⟨c1, c2⟩ := r2 _ _ hr
      obtain ⟨f1, f2⟩ := C.fl_get .i64 rs _ _ hr
      rw [hadd] at c1 c2
      rcases Nat.mod_two_eq_zero_or_one j with hm2 | hm2
      · have e : j / 2 * 2 = j := by omega
        have e' : 2 * (j / 2) = j := by omega
        rw [e] at c1
        rw [e'] at f1
        rw [c1, f1]
      · have e : j / 2 * 2 + 1 = j := by omega
        have e' : 2 * (j / 2) + 1 = j := by omega
        rw [e] at c2
        rw [e'] at f2
        rw [c2, f2]
end Go.Proofs.Ytamcpdggpdaioaa
