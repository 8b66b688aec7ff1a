/- Maps of the call's own: what is found in one, and what a store makes of it. -/
import Derived.Test.YtkmfegamblmpeaaGreatDoorUdPlain
import Derived.Maps.Own
import Derived.WideKeyArr
import Derived.Test.YtkmfegamblmpeaaGreatDoorClone
import Derived.Deep.RegionHeld3
import Derived.Deep.AppendLies
import Derived.Test.YtkmfegamblmpeaaGreatDoorMdTab
namespace Go.Proofs.YtkmfegamblmpeaaGreatDoor
open Go.RowKit
open Go.ChangeMaps (setBlock modify_eq_set)
open Go.ChangeMaps
set_option linter.unusedSimpArgs false
set_option linter.unusedVariables false

/-- Block b is a map: what it has at each key. -/
def Mp.Is (P : Program) (k : TypeId) (w : World) (b : Nat) (F : Value → Option Value) : Prop :=
  ∃ es clock, w.heap[b]? = some (.map es clock) ∧ (∀ e ∈ es.toList, ∃ l, keyOf P k e.key = some l) ∧ (es.toList.Pairwise fun x y => x.key ≠ y.key) ∧ ∀ x v, F x = some v ↔ ∃ e ∈ es.toList, e.key = x ∧ e.val = v

section
variable {P : Program} {k : TypeId} {w : World} {b : Nat} {F : Value → Option Value}

theorem Mp.Is.made (w : World) (P : Program) (k : TypeId) : Mp.Is P k (w.alloc (.map #[] 0)) w.heap.size fun _ => none :=
  ⟨#[], 0, heap_alloc_new w _, fun e he => by simp at he, by simp, fun x v => by simp⟩
theorem Mp.Is.lt (h : Mp.Is P k w b F) : b < w.heap.size := by
  obtain ⟨es, c, hb, _⟩ := h
  exact heap_lt hb
theorem Mp.Is.below {w' : World} (h : Mp.Is P k w b F) (hb : Below w.heap.size w w') : Mp.Is P k w' b F := by
  have hlt := h.lt
  obtain ⟨es, c, hh, r⟩ := h
  exact ⟨es, c, (hb.block b hlt).trans hh, r⟩
theorem Mp.Is.grown {w' : World} {row : Option Nat} (h : Mp.Is P k w b F) (hg : w.grownBy w' row) (hne : some b ≠ row) : Mp.Is P k w' b F := by
  have hlt := h.lt
  obtain ⟨es, c, hh, r⟩ := h
  exact ⟨es, c, (hg.block b hlt hne).trans hh, r⟩

/-- What is found. -/
theorem Mp.Is.look {t e : TypeId} (h : Mp.Is P k w b F) (K : Go.Maps.Keyed P k) (ht : P.underlying t = some (.map k e)) {z : Value} (hz : (zeroValue e).run P w = .ok z w) {x : Value} {l : Lit} (hk : keyOf P k x = some l) (c : Bool) :
    (Instr.lookup t (.map (some b)) x c).run P w = .ok (if c = true then .tuple #[(F x).getD z, .bool (F x).isSome] else (F x).getD z) w := by
  obtain ⟨es, clock, hb, hks, hap, hF⟩ := h
  rcases K.find w hk es.toList hks with ⟨h1, h2⟩ | ⟨j, e0, h1, h2, h3⟩
  · have hn : F x = none := by
      cases hx : F x with
      | none => rfl
      | some v =>
        obtain ⟨e, he, hek, _⟩ := (hF x v).1 hx
        exact absurd hek (h2 e he)
    rw [hn]
    simp [Instr.lookup, run_underlying ht, MapKept.run_getObj_map hb, K.check w _ hk, h1, hz, Result.andThen]
  · have hn : F x = some e0.val := (hF x _).2 ⟨e0, List.mem_of_getElem? h2, h3, rfl⟩
    rw [hn]
    simp [Instr.lookup, run_underlying ht, MapKept.run_getObj_map hb, K.check w _ hk, h1, Result.andThen]

/-- A store. -/
theorem Mp.Is.put {t e : TypeId} (h : Mp.Is P k w b F) (K : Go.Maps.Keyed P k) (ht : P.underlying t = some (.map k e)) {x v : Value} {l : Lit} (hk : keyOf P k x = some l) (F' : Value → Option Value) (h1 : F' x = some v) (h2 : ∀ y, y ≠ x → F' y = F y) :
    ∃ w', (Instr.mapUpdate t (.map (some b)) x v).run P w = .ok () w' ∧ Mp.Is P k w' b F' ∧ w.grownBy w' (some b) := by
  obtain ⟨es, clock, hb, hks, hap, hF⟩ := h
  rcases K.find w hk es.toList hks with ⟨g1, g2⟩ | ⟨j, e0, g1, g2, g3⟩
  · refine ⟨setBlock w b (.map (es.push ⟨x, v, clock⟩) (clock + 1)), ?_, ⟨es.push ⟨x, v, clock⟩, clock + 1, Go.ChangeMaps.heap_setBlock_same hb _, ?_, ?_, ?_⟩, ⟨rfl, rfl, rfl, by simp [setBlock], fun i _ hi => Go.ChangeMaps.heap_setBlock_other hb _ (fun e => hi (by rw [e]))⟩⟩
    · simp [Instr.mapUpdate, run_underlying ht, MapKept.run_getObj_map hb, K.check w false hk, g1, MapKept.run_setObj_map _ hb, Result.andThen, setBlock]
    · intro e he
      rw [Array.toList_push] at he
      rcases List.mem_append.1 he with he | he
      · exact hks e he
      · rw [List.mem_singleton] at he
        subst he
        exact ⟨l, hk⟩
    · rw [Array.toList_push, List.pairwise_append]
      refine ⟨hap, by simp, fun a ha c hc => ?_⟩
      rw [List.mem_singleton] at hc
      subst hc
      exact g2 a ha
    · intro y u
      rw [Array.toList_push]
      by_cases hy : y = x
      · subst hy
        rw [h1]
        constructor
        · intro hu
          cases hu
          exact ⟨_, List.mem_append_right _ (List.mem_singleton.2 rfl), rfl, rfl⟩
        · rintro ⟨a, ha, hk', hv⟩
          rcases List.mem_append.1 ha with ha | ha
          · exact absurd hk' (g2 a ha)
          · rw [List.mem_singleton] at ha
            subst ha
            exact congrArg some hv
      · rw [h2 y hy, hF y u]
        constructor
        · rintro ⟨a, ha, r⟩
          exact ⟨a, List.mem_append_left _ ha, r⟩
        · rintro ⟨a, ha, hk', hv⟩
          rcases List.mem_append.1 ha with ha | ha
          · exact ⟨a, ha, hk', hv⟩
          · rw [List.mem_singleton] at ha
            subst ha
            exact absurd hk'.symm hy
  · have hj : es[j]? = some e0 := by simpa using g2
    have hjl : j < es.toList.length := (List.getElem?_eq_some_iff.1 g2).1
    have hlist : (es.modify j (fun e' => { e' with key := x, val := v })).toList = es.toList.set j { e0 with key := x, val := v } := by rw [Array.toList_modify, modify_eq_set _ _ _ _ g2]
    have who : ∀ a ∈ es.toList.set j { e0 with key := x, val := v }, a = { e0 with key := x, val := v } ∨ (a ∈ es.toList ∧ a.key ≠ x) := by
      intro a ha
      obtain ⟨i, hi, ex⟩ := List.getElem_of_mem ha
      rw [List.getElem_set] at ex
      split at ex
      · exact .inl ex.symm
      · rename_i hne
        have hi' : i < es.toList.length := by simpa using hi
        refine .inr ⟨ex ▸ List.getElem_mem hi', ?_⟩
        have h0 : es.toList[j] = e0 := (List.getElem?_eq_some_iff.1 g2).2
        rcases Nat.lt_or_ge i j with hl | hl
        · have := List.pairwise_iff_getElem.1 hap i j hi' hjl hl
          rw [ex, h0, g3] at this
          exact this
        · have := List.pairwise_iff_getElem.1 hap j i hjl hi' (by omega)
          rw [ex, h0, g3] at this
          exact this.symm
    have old : ∀ a ∈ es.toList, a.key ≠ x → a ∈ es.toList.set j { e0 with key := x, val := v } := by
      intro a ha hne
      obtain ⟨i, hi, ex⟩ := List.getElem_of_mem ha
      refine List.mem_iff_getElem.2 ⟨i, by simpa using hi, ?_⟩
      rw [List.getElem_set, if_neg, ex]
      intro e
      subst e
      have h0 : es.toList[j] = e0 := (List.getElem?_eq_some_iff.1 g2).2
      rw [h0] at ex
      exact hne (by rw [← ex, g3])
    have new : { e0 with key := x, val := v } ∈ es.toList.set j { e0 with key := x, val := v } := List.mem_iff_getElem.2 ⟨j, by simpa using hjl, by simp⟩
    refine ⟨setBlock w b (.map (es.modify j (fun e' => { e' with key := x, val := v })) clock), ?_, ⟨es.modify j (fun e' => { e' with key := x, val := v }), clock, Go.ChangeMaps.heap_setBlock_same hb _, ?_, ?_, ?_⟩, ⟨rfl, rfl, rfl, by simp [setBlock], fun i _ hi => Go.ChangeMaps.heap_setBlock_other hb _ (fun e => hi (by rw [e]))⟩⟩
    · simp [Instr.mapUpdate, run_underlying ht, MapKept.run_getObj_map hb, K.check w false hk, g1, hj, g3, K.stays w hk, MapKept.run_setObj_map _ hb, Result.andThen, setBlock]
    · intro a ha
      rw [hlist] at ha
      rcases who a ha with rfl | ⟨ha, _⟩
      · exact ⟨l, hk⟩
      · exact hks a ha
    · rw [hlist]
      refine List.pairwise_iff_getElem.2 fun i i' hi hi' hlt => ?_
      rw [List.length_set] at hi hi'
      rw [List.getElem_set, List.getElem_set]
      have h0 : es.toList[j] = e0 := (List.getElem?_eq_some_iff.1 g2).2
      have hp := List.pairwise_iff_getElem.1 hap i i' hi hi' hlt
      by_cases hji : j = i
      · subst hji
        rw [if_pos rfl, if_neg (by omega)]
        rw [h0, g3] at hp
        exact hp
      · rw [if_neg hji]
        by_cases hji' : j = i'
        · subst hji'
          rw [if_pos rfl]
          rw [h0, g3] at hp
          exact hp
        · rw [if_neg hji']
          exact hp
    · intro y u
      rw [hlist]
      by_cases hy : y = x
      · subst hy
        rw [h1]
        constructor
        · intro hu
          cases hu
          exact ⟨_, new, rfl, rfl⟩
        · rintro ⟨a, ha, hk', hv⟩
          rcases who a ha with rfl | ⟨_, hne⟩
          · exact congrArg some hv
          · exact absurd hk' hne
      · rw [h2 y hy, hF y u]
        constructor
        · rintro ⟨a, ha, hk', hv⟩
          exact ⟨a, old a ha (by rw [hk']; exact hy), hk', hv⟩
        · rintro ⟨a, ha, hk', hv⟩
          rcases who a ha with rfl | ⟨ha, _⟩
          · exact absurd hk'.symm hy
          · exact ⟨a, ha, hk', hv⟩

theorem Mp.mapM_some {α β : Type} {f : α → Option β} : ∀ {l : List α}, (∀ x ∈ l, ∃ y, f x = some y) → ∃ ys, l.mapM f = some ys
  | [], _ => ⟨[], rfl⟩
  | x :: l, h => by
    obtain ⟨y, hy⟩ := h x List.mem_cons_self
    obtain ⟨ys, hys⟩ := Mp.mapM_some fun z hz => h z (List.mem_cons_of_mem _ hz)
    exact ⟨y :: ys, by simp [List.mapM_cons, hy, hys]⟩

/-- An array of whole numbers is a key. -/
theorem Mp.keyArr {e : TypeId} {n : Nat} {q : IntKind} (A : Go.WideMaps.ArrKey P k e n) (he : P.underlying e = some (.int q)) (hsz : ∃ m, P.types.size = m + 1) (xs : List Int) (hn : xs.length = n) (hw : ∀ x ∈ xs, (Lit.int q x).wf = true) :
    ∃ l, keyOf P k (.agg (xs.map (Value.int q)).toArray) = some l := by
  obtain ⟨m, hm⟩ := hsz
  have hform : (Value.agg (xs.map (Value.int q)).toArray).formed P k = true := by
    unfold Value.formed
    rw [A.hu]
    simp [A.size, hn]
  have hlits : ∃ ls, P.keyLits (P.types.size + 1) k (xs.map (Value.int q)) = some ls := by
    have hmap : ∃ ys, ((List.range n).mapM fun i => P.keyLits P.types.size e (((xs.map (Value.int q)).drop (i * P.cellsOf e)).take (P.cellsOf e))) = some ys := by
      refine Mp.mapM_some fun i hi => ?_
      rw [List.mem_range] at hi
      have hi' : i < xs.length := by omega
      have hx : (((xs.map (Value.int q)).drop (i * P.cellsOf e)).take (P.cellsOf e)) = [.int q xs[i]] := by
        rw [A.one, Nat.mul_one, List.drop_eq_getElem_cons (by simpa using hi')]
        simp
      rw [hx, hm]
      unfold Program.keyLits
      rw [he]
      simp [hw xs[i] (List.getElem_mem hi')]
    obtain ⟨ys, hys⟩ := hmap
    unfold Program.keyLits
    rw [A.hu]
    simp only [List.length_map, hn, A.size, if_true]
    rw [hys]
    exact ⟨_, rfl⟩
  obtain ⟨ls, hls⟩ := hlits
  unfold keyOf
  rw [A.hu]
  simp only [A.keyType ⟨m, hm⟩, hform, Bool.and_self, if_true, Value.cells]
  rw [hls]
  exact ⟨_, rfl⟩

end
end Go.Proofs.YtkmfegamblmpeaaGreatDoor

/- The layer cpset: merge, by walking its text. -/
namespace Go.Proofs.YtkmfegamblmpeaaGreatDoor
open Go.RowKit
set_option linter.unusedSimpArgs false
set_option linter.unusedVariables false

end Go.Proofs.YtkmfegamblmpeaaGreatDoor

/- The layer cpset: Or, And, Less, by walking their texts. -/
namespace Go.Proofs.YtkmfegamblmpeaaGreatDoor
open Go.RowKit
set_option linter.unusedSimpArgs false
set_option linter.unusedVariables false


def C.orF : Bool → Bool → Bool := fun x y => x || y
def C.andF : Bool → Bool → Bool := fun x y => x && y
end Go.Proofs.YtkmfegamblmpeaaGreatDoor

/- The layer cpset: Same, Within, All, Not, by walking their texts. -/
namespace Go.Proofs.YtkmfegamblmpeaaGreatDoor
open Go.RowKit
set_option linter.unusedSimpArgs false
set_option linter.unusedVariables false

end Go.Proofs.YtkmfegamblmpeaaGreatDoor

/- The layer cpset: Ranges, by walking its text. -/
namespace Go.Proofs.YtkmfegamblmpeaaGreatDoor
open Go.RowKit
set_option linter.unusedSimpArgs false
set_option linter.unusedVariables false

theorem own_ne {w : World} {base : Nat} {e : TypeId} {size n : Nat} {v : Value} {xs : List Value} (h : w.ownsRow base e size v n xs) (g : Nat) (hg : g < base) : v.ownBlock ≠ some g := fun hk => by have := (h.lt _ hk).1; omega

end Go.Proofs.YtkmfegamblmpeaaGreatDoor

/- The layer cpset in plain Lean, more: range by range. -/
namespace Go.Proofs.YtkmfegamblmpeaaGreatDoor
set_option linter.unusedSimpArgs false
set_option linter.unusedVariables false

/-- The one of a number. -/
def C.at (l : List Int) (q : Int) : Int × Bool := if q < 0 then (0, false) else C.atK l q
end Go.Proofs.YtkmfegamblmpeaaGreatDoor

/- The layer cpset: Count, Index, At, by walking their texts. -/
namespace Go.Proofs.YtkmfegamblmpeaaGreatDoor
open Go.RowKit
set_option linter.unusedSimpArgs false
set_option linter.unusedVariables false

end Go.Proofs.YtkmfegamblmpeaaGreatDoor

/- The layer cpset: All, Not, Of, by walking their texts. -/
namespace Go.Proofs.YtkmfegamblmpeaaGreatDoor
open Go.RowKit
set_option linter.unusedSimpArgs false
set_option linter.unusedVariables false

theorem results_cell_row2 {P : Program} {fn : Func} {p u : Tmp} {ty : TypeId} (h : fn.results = #[.cell p ty, .tmp u]) (tmps : Array Value) (w : World) (g : Nat) (t : TypeId) (cs : Array Value) (fr : Nat × Nat) (d : TypeDesc)
    (hp : tmps.getD p undef = .pointer (some ⟨g, 0, none⟩)) (hg : w.heap[g]? = some (.cells cs t fr))
    (hu : P.underlying ty = some d) (hd : (match d with | .struct _ | .array _ _ => true | _ => false) = true) (hi : (P.info? ty).map (·.size) = some cs.size) :
    (results fn tmps).run P w = .ok (.tuple #[.agg cs, tmps.getD u undef]) w := by
  have hp' : tmps[p]?.getD undef = .pointer (some ⟨g, 0, none⟩) := by simpa using hp
  simp [results, h, hp', asAddr, run_loadVar_row w g t ty cs fr d hg hu hd hi]

/-- May ranges be? -/
def C.good (rs : List (Int × Int)) : Bool := rs.all fun r => decide (0 ≤ r.1) && decide (r.2 ≤ 1114111) && decide (r.1 ≤ r.2)
/-- Of ranges, one behind the other. -/
def C.ofL (rs : List (Int × Int)) : List Int := rs.foldl (fun acc r => C.mrg C.orF acc [r.1, r.2 + 1]) []
def C.ofS (rs : List (Int × Int)) : List Int := C.mrg C.andF (C.ofL rs) C.all
def RetOf (rs : List (Int × Int)) (w : World) (e : Ending) (w' : World) : Prop :=
  (C.good rs = true → ∃ A c, e = .returned (.tuple #[.agg #[.slice A (C.ofS rs).length c], .int .i64 0]) ∧ w'.ownsRow w.heap.size 21 1 (.slice A (C.ofS rs).length c) (C.ofS rs).length ((C.ofS rs).map (Value.int .i32)) ∧ Below w.heap.size w w') ∧
  (C.good rs = false → e = .returned (.tuple #[.agg #[.slice none 0 0], .int .i64 1]) ∧ Below w.heap.size w w')

end Go.Proofs.YtkmfegamblmpeaaGreatDoor

/- The law's ranges: Few, Right, Own, Set, by walking their texts. -/
namespace Go.Proofs.YtkmfegamblmpeaaGreatDoor
open Go.RowKit
set_option linter.unusedSimpArgs false
set_option linter.unusedVariables false

theorem Sl.take {w : World} {B : Nat} {A : Option Addr} {xs : List Value} (h : Sl w B A xs) (m : Nat) : Sl w B A (xs.take m) := by
  intro hx
  rw [List.length_take] at hx
  obtain ⟨b, o, hA, hb, hc⟩ := h (by omega)
  refine ⟨b, o, hA, hb, fun i hi => ?_⟩
  rw [List.length_take] at hi
  rw [hc i (by omega), List.getElem?_take, if_pos (by omega)]
end Go.Proofs.YtkmfegamblmpeaaGreatDoor

/- The layer cpset in plain Lean: what a set of ranges has. -/
namespace Go.Proofs.YtkmfegamblmpeaaGreatDoor
set_option linter.unusedSimpArgs false
set_option linter.unusedVariables false
set_option linter.unusedSectionVars false

section
variable {S : List Int} (hS : C.ok S) (hC : ∀ c, C.mem S c = true → C.isC c = true) {d : Int} (h0 : 0 ≤ d) (h1 : d ≤ 1114111)
include hS hC h0 h1
end
end Go.Proofs.YtkmfegamblmpeaaGreatDoor

/- The document's Good and Has, by walking their texts. -/
namespace Go.Proofs.YtkmfegamblmpeaaGreatDoor
open Go.RowKit
set_option linter.unusedSimpArgs false
set_option linter.unusedVariables false

end Go.Proofs.YtkmfegamblmpeaaGreatDoor

/- The document's Marks, by walking its text. -/
namespace Go.Proofs.YtkmfegamblmpeaaGreatDoor
open Go.RowKit
set_option linter.unusedSimpArgs false
set_option linter.unusedVariables false

/-- A number put in where it belongs. -/
def C.ins (x : Int) : List Int → List Int
  | [] => [x]
  | y :: t => if x < y then x :: y :: t else if x = y then y :: t else y :: C.ins x t
end Go.Proofs.YtkmfegamblmpeaaGreatDoor

/- The law's Is in plain Lean: ranges made of marks, where a test changes at marks alone. -/
namespace Go.Proofs.YtkmfegamblmpeaaGreatDoor
set_option linter.unusedSimpArgs false
set_option linter.unusedVariables false

theorem C.mem_snoc : ∀ (l : List Int) (x c : Int), C.srt (l ++ [x]) → C.mem (l ++ [x]) c = (C.mem l c ^^ decide (x ≤ c))
  | [], x, c, _ => by simp [C.mem]
  | y :: t, x, c, h => by
    have ih := C.mem_snoc t x c (C.srt_tail h)
    have hyx := C.srt_head h x (by simp)
    rw [List.cons_append, C.mem_cons, ih, C.mem_cons]
    by_cases hy : y ≤ c
    · rw [decide_eq_true hy]
      cases C.mem t c <;> cases decide (x ≤ c) <;> rfl
    · rw [decide_eq_false hy, decide_eq_false (by omega)]; rfl
theorem C.srt_snoc {l : List Int} {x : Int} (h : C.srt l) (hx : ∀ y ∈ l, y < x) : C.srt (l ++ [x]) := by
  unfold C.srt
  rw [List.pairwise_append]
  exact ⟨h, List.pairwise_singleton _ _, fun a ha b hb => by simp at hb; subst hb; exact hx a ha⟩

/-- From a mark to the next one. -/
def C.step (p : Int → Bool) (acc : List Int) (a b : Int) : List Int :=
  if p a = true then (if acc.getLast? = some a then acc.dropLast ++ [b] else acc ++ [a, b]) else acc
/-- What is known ahead of mark a. -/
def C.upto (p : Int → Bool) (acc : List Int) (a : Int) : Prop :=
  C.srt acc ∧ acc.length % 2 = 0 ∧ (∀ x ∈ acc, x ≤ a) ∧ ∀ c, C.mem acc c = (p c && decide (c < a))
theorem C.upto_step {p : Int → Bool} {acc : List Int} {a b : Int} (h : C.upto p acc a) (hab : a < b) (hp : ∀ c, a ≤ c → c < b → p c = p a) : C.upto p (C.step p acc a b) b := by
  obtain ⟨h1, h2, h3, h4⟩ := h
  unfold C.step
  have key : ∀ c, p a = true → ((p c && decide (c < a)) ^^ decide (a ≤ c) ^^ decide (b ≤ c)) = (p c && decide (c < b)) := by
    intro c hpa
    by_cases ha : a ≤ c
    · by_cases hb : b ≤ c
      · rw [decide_eq_true ha, decide_eq_true hb, decide_eq_false (show ¬ c < a by omega), decide_eq_false (show ¬ c < b by omega)]; simp
      · rw [decide_eq_true ha, decide_eq_false hb, decide_eq_false (show ¬ c < a by omega), decide_eq_true (show c < b by omega), hp c ha (by omega), hpa]; rfl
    · rw [decide_eq_false ha, decide_eq_false (show ¬ b ≤ c by omega), decide_eq_true (show c < a by omega), decide_eq_true (show c < b by omega)]; simp
  split
  · rename_i hpa
    split
    · rename_i hl
      obtain ⟨l, rfl⟩ : ∃ l, acc = l ++ [a] := by
        obtain ⟨l, hl'⟩ := List.getLast?_eq_some_iff.1 hl
        exact ⟨l, hl'⟩
      rw [List.dropLast_concat]
      have hsl : C.srt l := (List.pairwise_append.1 h1).1
      have hla : ∀ y ∈ l, y < a := fun y hy => (List.pairwise_append.1 h1).2.2 y hy a (by simp)
      have hs2 := C.srt_snoc hsl (x := b) (fun y hy => by have := hla y hy; omega)
      refine ⟨hs2, by simpa using h2, ?_, ?_⟩
      · intro x hx
        rcases List.mem_append.1 hx with hx | hx
        · have := hla x hx; omega
        · simp at hx; omega
      · intro c
        rw [C.mem_snoc _ _ _ hs2, ← key c hpa, ← h4 c, C.mem_snoc _ _ _ h1]
        cases C.mem l c <;> cases decide (a ≤ c) <;> cases decide (b ≤ c) <;> rfl
    · rename_i hl
      have hla : ∀ y ∈ acc, y < a := by
        intro y hy
        rcases Int.lt_or_le y a with h' | h'
        · exact h'
        · exfalso
          have hya : y = a := by have := h3 y hy; omega
          subst hya
          rcases List.eq_nil_or_concat acc with rfl | ⟨l, z, rfl⟩
          · cases hy
          · rw [List.concat_eq_append] at *
            have hz := h3 z (by simp)
            rcases List.mem_append.1 hy with hy | hy
            · have := (List.pairwise_append.1 h1).2.2 y hy z (by simp); omega
            · simp at hy
              subst hy
              exact hl (by simp)
      have hs1 := C.srt_snoc h1 hla
      have hs2 := C.srt_snoc hs1 (x := b) (fun y hy => by
        rcases List.mem_append.1 hy with hy | hy
        · have := hla y hy; omega
        · simp at hy; omega)
      have e : acc ++ [a, b] = (acc ++ [a]) ++ [b] := by simp
      rw [e]
      refine ⟨hs2, by simp; omega, ?_, ?_⟩
      · intro x hx
        simp at hx
        rcases hx with hx | hx | hx
        · have := hla x hx; omega
        · omega
        · omega
      · intro c
        rw [C.mem_snoc _ _ _ hs2, C.mem_snoc _ _ _ hs1, h4 c, key c hpa]
  · rename_i hpa
    refine ⟨h1, h2, fun x hx => by have := h3 x hx; omega, fun c => ?_⟩
    rw [h4 c]
    by_cases ha : c < a
    · rw [decide_eq_true ha, decide_eq_true (by omega)]
    · by_cases hb : c < b
      · have hf : p a = false := by cases h : p a <;> simp_all
        rw [hp c (by omega) hb, hf]; rfl
      · rw [decide_eq_false ha, decide_eq_false hb]

end Go.Proofs.YtkmfegamblmpeaaGreatDoor
