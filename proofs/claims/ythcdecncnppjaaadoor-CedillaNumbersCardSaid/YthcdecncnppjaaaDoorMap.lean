/- Maps of the call's own: what is found in one, and what a store makes of it. -/
import Derived.Test.YthcdecncnppjaaaDoorLib4
import Derived.Maps.Own
import Derived.WideKeyArr
namespace Go.Proofs.YthcdecncnppjaaaDoor
open Go.RowKit
open Go.ChangeMaps (setBlock modify_eq_set)
open Go.ChangeMaps
set_option linter.unusedSimpArgs false
set_option linter.unusedVariables false

/-- Block b is a map: what it has at each key. -/
def Mp.Is (P : Program) (k : TypeId) (w : World) (b : Nat) (F : Value → Option Value) : Prop :=
  ∃ es clock, w.heap[b]? = some (.map es clock) ∧ (∀ e ∈ es.toList, ∃ l, keyOf P k e.key = some l) ∧ (es.toList.Pairwise fun x y => x.key ≠ y.key) ∧ ∀ x v, F x = some v ↔ ∃ e ∈ es.toList, e.key = x ∧ e.val = v

section
variable {P : Program} {k : TypeId} {w : World} {b : Nat} {F : Value → Option Value}

theorem Mp.Is.made (w : World) (P : Program) (k : TypeId) : Mp.Is P k (w.alloc (.map #[] 0)) w.heap.size fun _ => none :=
  ⟨#[], 0, heap_alloc_new w _, fun e he => by simp at he, by simp, fun x v => by simp⟩
theorem Mp.Is.lt (h : Mp.Is P k w b F) : b < w.heap.size := by
  obtain ⟨es, c, hb, _⟩ := h
  exact heap_lt hb
theorem Mp.Is.below {w' : World} (h : Mp.Is P k w b F) (hb : Below w.heap.size w w') : Mp.Is P k w' b F := by
  have hlt := h.lt
  obtain ⟨es, c, hh, r⟩ := h
  exact ⟨es, c, (hb.block b hlt).trans hh, r⟩
theorem Mp.Is.grown {w' : World} {row : Option Nat} (h : Mp.Is P k w b F) (hg : w.grownBy w' row) (hne : some b ≠ row) : Mp.Is P k w' b F := by
  have hlt := h.lt
  obtain ⟨es, c, hh, r⟩ := h
  exact ⟨es, c, (hg.block b hlt hne).trans hh, r⟩

/-- What is found. -/
theorem Mp.Is.look {t e : TypeId} (h : Mp.Is P k w b F) (K : Go.Maps.Keyed P k) (ht : P.underlying t = some (.map k e)) {z : Value} (hz : (zeroValue e).run P w = .ok z w) {x : Value} {l : Lit} (hk : keyOf P k x = some l) (c : Bool) :
    (Instr.lookup t (.map (some b)) x c).run P w = .ok (if c = true then .tuple #[(F x).getD z, .bool (F x).isSome] else (F x).getD z) w := by
  obtain ⟨es, clock, hb, hks, hap, hF⟩ := h
  rcases K.find w hk es.toList hks with ⟨h1, h2⟩ | ⟨j, e0, h1, h2, h3⟩
  · have hn : F x = none := by
      cases hx : F x with
      | none => rfl
      | some v =>
        obtain ⟨e, he, hek, _⟩ := (hF x v).1 hx
        exact absurd hek (h2 e he)
    rw [hn]
    simp [Instr.lookup, run_underlying ht, MapKept.run_getObj_map hb, K.check w _ hk, h1, hz, Result.andThen]
  · have hn : F x = some e0.val := (hF x _).2 ⟨e0, List.mem_of_getElem? h2, h3, rfl⟩
    rw [hn]
    simp [Instr.lookup, run_underlying ht, MapKept.run_getObj_map hb, K.check w _ hk, h1, Result.andThen]

/-- A store. -/
theorem Mp.Is.put {t e : TypeId} (h : Mp.Is P k w b F) (K : Go.Maps.Keyed P k) (ht : P.underlying t = some (.map k e)) {x v : Value} {l : Lit} (hk : keyOf P k x = some l) (F' : Value → Option Value) (h1 : F' x = some v) (h2 : ∀ y, y ≠ x → F' y = F y) :
    ∃ w', (Instr.mapUpdate t (.map (some b)) x v).run P w = .ok () w' ∧ Mp.Is P k w' b F' ∧ w.grownBy w' (some b) := by
  obtain ⟨es, clock, hb, hks, hap, hF⟩ := h
  rcases K.find w hk es.toList hks with ⟨g1, g2⟩ | ⟨j, e0, g1, g2, g3⟩
  · refine ⟨setBlock w b (.map (es.push ⟨x, v, clock⟩) (clock + 1)), ?_, ⟨es.push ⟨x, v, clock⟩, clock + 1, Go.ChangeMaps.heap_setBlock_same hb _, ?_, ?_, ?_⟩, ⟨rfl, rfl, rfl, by simp [setBlock], fun i _ hi => Go.ChangeMaps.heap_setBlock_other hb _ (fun e => hi (by rw [e]))⟩⟩
    · simp [Instr.mapUpdate, run_underlying ht, MapKept.run_getObj_map hb, K.check w false hk, g1, MapKept.run_setObj_map _ hb, Result.andThen, setBlock]
    · intro e he
      rw [Array.toList_push] at he
      rcases List.mem_append.1 he with he | he
      · exact hks e he
      · rw [List.mem_singleton] at he
        subst he
        exact ⟨l, hk⟩
    · rw [Array.toList_push, List.pairwise_append]
      refine ⟨hap, by simp, fun a ha c hc => ?_⟩
      rw [List.mem_singleton] at hc
      subst hc
      exact g2 a ha
    · intro y u
      rw [Array.toList_push]
      by_cases hy : y = x
      · subst hy
        rw [h1]
        constructor
        · intro hu
          cases hu
          exact ⟨_, List.mem_append_right _ (List.mem_singleton.2 rfl), rfl, rfl⟩
        · rintro ⟨a, ha, hk', hv⟩
          rcases List.mem_append.1 ha with ha | ha
          · exact absurd hk' (g2 a ha)
          · rw [List.mem_singleton] at ha
            subst ha
            exact congrArg some hv
      · rw [h2 y hy, hF y u]
        constructor
        · rintro ⟨a, ha, r⟩
          exact ⟨a, List.mem_append_left _ ha, r⟩
        · rintro ⟨a, ha, hk', hv⟩
          rcases List.mem_append.1 ha with ha | ha
          · exact ⟨a, ha, hk', hv⟩
          · rw [List.mem_singleton] at ha
            subst ha
            exact absurd hk'.symm hy
  · have hj : es[j]? = some e0 := by simpa using g2
    have hjl : j < es.toList.length := (List.getElem?_eq_some_iff.1 g2).1
    have hlist : (es.modify j (fun e' => { e' with key := x, val := v })).toList = es.toList.set j { e0 with key := x, val := v } := by rw [Array.toList_modify, modify_eq_set _ _ _ _ g2]
    have who : ∀ a ∈ es.toList.set j { e0 with key := x, val := v }, a = { e0 with key := x, val := v } ∨ (a ∈ es.toList ∧ a.key ≠ x) := by
      intro a ha
      obtain ⟨i, hi, ex⟩ := List.getElem_of_mem ha
      rw [List.getElem_set] at ex
      split at ex
      · exact .inl ex.symm
      · rename_i hne
        have hi' : i < es.toList.length := by simpa using hi
        refine .inr ⟨ex ▸ List.getElem_mem hi', ?_⟩
        have h0 : es.toList[j] = e0 := (List.getElem?_eq_some_iff.1 g2).2
        rcases Nat.lt_or_ge i j with hl | hl
        · have := List.pairwise_iff_getElem.1 hap i j hi' hjl hl
          rw [ex, h0, g3] at this
          exact this
        · have := List.pairwise_iff_getElem.1 hap j i hjl hi' (by omega)
          rw [ex, h0, g3] at this
          exact this.symm
    have old : ∀ a ∈ es.toList, a.key ≠ x → a ∈ es.toList.set j { e0 with key := x, val := v } := by
      intro a ha hne
      obtain ⟨i, hi, ex⟩ := List.getElem_of_mem ha
      refine List.mem_iff_getElem.2 ⟨i, by simpa using hi, ?_⟩
      rw [List.getElem_set, if_neg, ex]
      intro e
      subst e
      have h0 : es.toList[j] = e0 := (List.getElem?_eq_some_iff.1 g2).2
      rw [h0] at ex
      exact hne (by rw [← ex, g3])
    have new : { e0 with key := x, val := v } ∈ es.toList.set j { e0 with key := x, val := v } := List.mem_iff_getElem.2 ⟨j, by simpa using hjl, by simp⟩
    refine ⟨setBlock w b (.map (es.modify j (fun e' => { e' with key := x, val := v })) clock), ?_, ⟨es.modify j (fun e' => { e' with key := x, val := v }), clock, Go.ChangeMaps.heap_setBlock_same hb _, ?_, ?_, ?_⟩, ⟨rfl, rfl, rfl, by simp [setBlock], fun i _ hi => Go.ChangeMaps.heap_setBlock_other hb _ (fun e => hi (by rw [e]))⟩⟩
    · simp [Instr.mapUpdate, run_underlying ht, MapKept.run_getObj_map hb, K.check w false hk, g1, hj, g3, K.stays w hk, MapKept.run_setObj_map _ hb, Result.andThen, setBlock]
    · intro a ha
      rw [hlist] at ha
      rcases who a ha with rfl | ⟨ha, _⟩
      · exact ⟨l, hk⟩
      · exact hks a ha
    · rw [hlist]
      refine List.pairwise_iff_getElem.2 fun i i' hi hi' hlt => ?_
      rw [List.length_set] at hi hi'
      rw [List.getElem_set, List.getElem_set]
      have h0 : es.toList[j] = e0 := (List.getElem?_eq_some_iff.1 g2).2
      have hp := List.pairwise_iff_getElem.1 hap i i' hi hi' hlt
      by_cases hji : j = i
      · subst hji
        rw [if_pos rfl, if_neg (by omega)]
        rw [h0, g3] at hp
        exact hp
      · rw [if_neg hji]
        by_cases hji' : j = i'
        · subst hji'
          rw [if_pos rfl]
          rw [h0, g3] at hp
          exact hp
        · rw [if_neg hji']
          exact hp
    · intro y u
      rw [hlist]
      by_cases hy : y = x
      · subst hy
        rw [h1]
        constructor
        · intro hu
          cases hu
          exact ⟨_, new, rfl, rfl⟩
        · rintro ⟨a, ha, hk', hv⟩
          rcases who a ha with rfl | ⟨_, hne⟩
          · exact congrArg some hv
          · exact absurd hk' hne
      · rw [h2 y hy, hF y u]
        constructor
        · rintro ⟨a, ha, hk', hv⟩
          exact ⟨a, old a ha (by rw [hk']; exact hy), hk', hv⟩
        · rintro ⟨a, ha, hk', hv⟩
          rcases who a ha with rfl | ⟨ha, _⟩
          · exact absurd hk'.symm hy
          · exact ⟨a, ha, hk', hv⟩

theorem Mp.mapM_some {α β : Type} {f : α → Option β} : ∀ {l : List α}, (∀ x ∈ l, ∃ y, f x = some y) → ∃ ys, l.mapM f = some ys
  | [], _ => ⟨[], rfl⟩
  | x :: l, h => by
    obtain ⟨y, hy⟩ := h x List.mem_cons_self
    obtain ⟨ys, hys⟩ := Mp.mapM_some fun z hz => h z (List.mem_cons_of_mem _ hz)
    exact ⟨y :: ys, by simp [List.mapM_cons, hy, hys]⟩

/-- An array of whole numbers is a key. -/
theorem Mp.keyArr {e : TypeId} {n : Nat} {q : IntKind} (A : Go.WideMaps.ArrKey P k e n) (he : P.underlying e = some (.int q)) (hsz : ∃ m, P.types.size = m + 1) (xs : List Int) (hn : xs.length = n) (hw : ∀ x ∈ xs, (Lit.int q x).wf = true) :
    ∃ l, keyOf P k (.agg (xs.map (Value.int q)).toArray) = some l := by
  obtain ⟨m, hm⟩ := hsz
  have hform : (Value.agg (xs.map (Value.int q)).toArray).formed P k = true := by
    unfold Value.formed
    rw [A.hu]
    simp [A.size, hn]
  have hlits : ∃ ls, P.keyLits (P.types.size + 1) k (xs.map (Value.int q)) = some ls := by
    have hmap : ∃ ys, ((List.range n).mapM fun i => P.keyLits P.types.size e (((xs.map (Value.int q)).drop (i * P.cellsOf e)).take (P.cellsOf e))) = some ys := by
      refine Mp.mapM_some fun i hi => ?_
      rw [List.mem_range] at hi
      have hi' : i < xs.length := by omega
      have hx : (((xs.map (Value.int q)).drop (i * P.cellsOf e)).take (P.cellsOf e)) = [.int q xs[i]] := by
        rw [A.one, Nat.mul_one, List.drop_eq_getElem_cons (by simpa using hi')]
        simp
      rw [hx, hm]
      unfold Program.keyLits
      rw [he]
      simp [hw xs[i] (List.getElem_mem hi')]
    obtain ⟨ys, hys⟩ := hmap
    unfold Program.keyLits
    rw [A.hu]
    simp only [List.length_map, hn, A.size, if_true]
    rw [hys]
    exact ⟨_, rfl⟩
  obtain ⟨ls, hls⟩ := hlits
  unfold keyOf
  rw [A.hu]
  simp only [A.keyType ⟨m, hm⟩, hform, Bool.and_self, if_true, Value.cells]
  rw [hls]
  exact ⟨_, rfl⟩

/-- A lookup and a store, in the walk. -/
theorem wpList_look {ops : Array Oper} {rest : List Oper} {o : Oper} {a : Act} {Q : Exit → Act → World → Prop} (w : World) (hg : o.guard = none) (m x : Operand) (t : TypeId) (c : Bool) (hop : o.op = Op.lookup t m x c) (mv xv r : Value) (hm : a.eval m = mv) (hx : a.eval x = xv)
    (hrun : (Instr.lookup t mv xv c).run P w = .ok r w) (hK : wpList P ops Q rest (a.put o.dst r) w) : wpList P ops Q (o :: rest) a w := by
  refine wpList_plain hg fun K' hK' => ?_
  unfold Oper.wp
  simp [execOp, hop, hm, hx, hrun, Result.andThen]
  exact hK' _ _ hK
theorem wpList_put {ops : Array Oper} {rest : List Oper} {o : Oper} {a : Act} {Q : Exit → Act → World → Prop} (w w' : World) (hg : o.guard = none) (m x v : Operand) (t : TypeId) (hop : o.op = Op.mapUpdate t m x v) (mv xv vv : Value) (hm : a.eval m = mv) (hx : a.eval x = xv) (hv : a.eval v = vv)
    (hrun : (Instr.mapUpdate t mv xv vv).run P w = .ok () w') (hK : wpList P ops Q rest (a.put o.dst undef) w') : wpList P ops Q (o :: rest) a w := by
  refine wpList_plain hg fun K' hK' => ?_
  unfold Oper.wp
  simp [execOp, hop, hm, hx, hv, hrun, Result.andThen]
  exact hK' _ _ hK
end
end Go.Proofs.YthcdecncnppjaaaDoor
