/- The layer cpset: merge, by walking its text. -/
import Derived.Test.YtamcpdggpdaioaaDoorMdLook
import Derived.Deep.RegionHeld3
import Derived.Deep.AppendLies
import Derived.Test.YtamcpdggpdaioaaDoorCpPlainD
namespace Go.Proofs.YtamcpdggpdaioaaDoor
open Go.RowKit
set_option linter.unusedSimpArgs false
set_option linter.unusedVariables false

end Go.Proofs.YtamcpdggpdaioaaDoor

/- The layer cpset: Or, And, Less, by walking their texts. -/
namespace Go.Proofs.YtamcpdggpdaioaaDoor
open Go.RowKit
set_option linter.unusedSimpArgs false
set_option linter.unusedVariables false


theorem C.enter' {P : Program} {f : FuncId} {fn : Func} (hf : P.funcs[f]? = some fn) (hname : (fn.name == "runtime.NumGoroutine") = false) (hb : fn.body.isNone = false) (args : Array Value) (w : World) :
    (callFunc f args).run P w = .ok (.enter f args) w := by
  rcases h : fn.body with _ | c
  · rw [h] at hb; cases hb
  · exact C.enter hf hname h args w

def C.orF : Bool → Bool → Bool := fun x y => x || y
def C.andF : Bool → Bool → Bool := fun x y => x && y
def C.lessF : Bool → Bool → Bool := fun x y => x && !y
end Go.Proofs.YtamcpdggpdaioaaDoor

/- The layer cpset: Same, Within, All, Not, by walking their texts. -/
namespace Go.Proofs.YtamcpdggpdaioaaDoor
open Go.RowKit
set_option linter.unusedSimpArgs false
set_option linter.unusedVariables false

theorem C.fld (v : Value) (w : World) : (Instr.field 32 (.agg #[v]) 0).run Tryd.prog w = .ok v w := by
  have h1 := Tryd.underlying32
  have h2 := Tryd.underlying30
  simp [Instr.field, run_underlying h1, asAgg, Go.part, isAgg, run_underlying h2]

end Go.Proofs.YtamcpdggpdaioaaDoor

/- The layer cpset: Ranges, by walking its text. -/
namespace Go.Proofs.YtamcpdggpdaioaaDoor
open Go.RowKit
set_option linter.unusedSimpArgs false
set_option linter.unusedVariables false

/-- Pairs, cell by cell. -/
def C.fl (k : IntKind) : List (Int × Int) → List Value
  | [] => []
  | (x, y) :: t => .int k x :: .int k y :: C.fl k t
theorem C.fl_len (k : IntKind) : ∀ rs, (C.fl k rs).length = 2 * rs.length
  | [] => rfl
  | (x, y) :: t => by show (C.fl k t).length + 1 + 1 = 2 * (t.length + 1); rw [C.fl_len k t]; omega
theorem C.fl_app (k : IntKind) : ∀ a b, C.fl k (a ++ b) = C.fl k a ++ C.fl k b
  | [], b => rfl
  | (x, y) :: t, b => by show _ :: _ :: C.fl k (t ++ b) = _; rw [C.fl_app k t b]; rfl
theorem C.fl_get (k : IntKind) : ∀ (rs : List (Int × Int)) (i : Nat) (r : Int × Int), rs[i]? = some r → (C.fl k rs)[2 * i]? = some (.int k r.1) ∧ (C.fl k rs)[2 * i + 1]? = some (.int k r.2)
  | [], i, r, h => by simp at h
  | (x, y) :: t, 0, r, h => by simp at h; subst h; exact ⟨rfl, rfl⟩
  | (x, y) :: t, i + 1, r, h => by
    have := C.fl_get k t i r (by simpa using h)
    rw [show 2 * (i + 1) = 2 * i + 1 + 1 by omega]
    exact this

theorem own_ne {w : World} {base : Nat} {e : TypeId} {size n : Nat} {v : Value} {xs : List Value} (h : w.ownsRow base e size v n xs) (g : Nat) (hg : g < base) : v.ownBlock ≠ some g := fun hk => by have := (h.lt _ hk).1; omega

end Go.Proofs.YtamcpdggpdaioaaDoor

/- The layer cpset: Count, Index, At, by walking their texts. -/
namespace Go.Proofs.YtamcpdggpdaioaaDoor
open Go.RowKit
set_option linter.unusedSimpArgs false
set_option linter.unusedVariables false

/-- Element i of a row of pairs. -/
theorem Sl.pair {w : World} {B : Nat} {A : Option Addr} {k : IntKind} {rs : List (Int × Int)} (h : Sl w B A (C.fl k rs)) {i : Nat} {r : Int × Int} (hr : rs[i]? = some r) :
    ∃ b o, A = some ⟨b, o, none⟩ ∧ b < B ∧ w.cell? ⟨b, o + i * 2, none⟩ = some (.int k r.1) ∧ w.cell? ⟨b, o + i * 2 + 1, none⟩ = some (.int k r.2) := by
  have hi : i < rs.length := (List.getElem?_eq_some_iff.1 hr).1
  obtain ⟨b, o, hA, hb, hc⟩ := h (by rw [C.fl_len]; omega)
  obtain ⟨h0, h1⟩ := C.fl_get k rs i r hr
  refine ⟨b, o, hA, hb, ?_, ?_⟩
  · rw [Nat.mul_comm, hc _ (by rw [C.fl_len]; omega), h0]
  · rw [Nat.mul_comm, Nat.add_assoc, hc _ (by rw [C.fl_len]; omega), h1]

end Go.Proofs.YtamcpdggpdaioaaDoor

/- The layer cpset: All, Not, Of, by walking their texts. -/
namespace Go.Proofs.YtamcpdggpdaioaaDoor
open Go.RowKit
set_option linter.unusedSimpArgs false
set_option linter.unusedVariables false

theorem results_cell_row2 {P : Program} {fn : Func} {p u : Tmp} {ty : TypeId} (h : fn.results = #[.cell p ty, .tmp u]) (tmps : Array Value) (w : World) (g : Nat) (t : TypeId) (cs : Array Value) (fr : Nat × Nat) (d : TypeDesc)
    (hp : tmps.getD p undef = .pointer (some ⟨g, 0, none⟩)) (hg : w.heap[g]? = some (.cells cs t fr))
    (hu : P.underlying ty = some d) (hd : (match d with | .struct _ | .array _ _ => true | _ => false) = true) (hi : (P.info? ty).map (·.size) = some cs.size) :
    (results fn tmps).run P w = .ok (.tuple #[.agg cs, tmps.getD u undef]) w := by
  have hp' : tmps[p]?.getD undef = .pointer (some ⟨g, 0, none⟩) := by simpa using hp
  simp [results, h, hp', asAddr, run_loadVar_row w g t ty cs fr d hg hu hd hi]

/-- May ranges be? -/
def C.good (rs : List (Int × Int)) : Bool := rs.all fun r => decide (0 ≤ r.1) && decide (r.2 ≤ 1114111) && decide (r.1 ≤ r.2)
/-- Of ranges, one behind the other. -/
def C.ofL (rs : List (Int × Int)) : List Int := rs.foldl (fun acc r => C.mrg C.orF acc [r.1, r.2 + 1]) []
def C.ofS (rs : List (Int × Int)) : List Int := C.mrg C.andF (C.ofL rs) C.all
theorem C.ofL_succ {rs : List (Int × Int)} {i : Nat} {r : Int × Int} (h : rs[i]? = some r) : C.ofL (rs.take (i + 1)) = C.mrg C.orF (C.ofL (rs.take i)) [r.1, r.2 + 1] := by
  unfold C.ofL
  rw [List.take_add_one, h]
  simp [List.foldl_append]
theorem C.ofL_ok : ∀ (rs : List (Int × Int)), C.good rs = true → C.ok (C.ofL rs) ∧ (C.ofL rs).length ≤ 2 * rs.length := by
  intro rs h
  unfold C.ofL
  have : ∀ (rs : List (Int × Int)) (acc : List Int), C.good rs = true → C.ok acc → C.ok (rs.foldl (fun acc r => C.mrg C.orF acc [r.1, r.2 + 1]) acc) ∧ (rs.foldl (fun acc r => C.mrg C.orF acc [r.1, r.2 + 1]) acc).length ≤ acc.length + 2 * rs.length := by
    intro rs
    induction rs with
    | nil => intro acc _ h; exact ⟨h, by simp⟩
    | cons r t ih =>
      intro acc hg ha
      simp only [C.good, List.all_cons, Bool.and_eq_true, decide_eq_true_eq] at hg
      obtain ⟨⟨⟨h1, h2⟩, h3⟩, h4⟩ := hg
      have hm := C.mrg_ok C.orF rfl ha (C.one_ok r.1 r.2 h1 h3 h2)
      have hl := C.mrg_len C.orF acc [r.1, r.2 + 1]
      obtain ⟨i1, i2⟩ := ih _ h4 hm
      refine ⟨i1, Nat.le_trans i2 ?_⟩
      simp at hl ⊢
      omega
  obtain ⟨h1, h2⟩ := this rs [] h C.nil_ok
  exact ⟨h1, by simpa using h2⟩

def RetOf (rs : List (Int × Int)) (w : World) (e : Ending) (w' : World) : Prop :=
  (C.good rs = true → ∃ A c, e = .returned (.tuple #[.agg #[.slice A (C.ofS rs).length c], .int .i64 0]) ∧ w'.ownsRow w.heap.size 21 1 (.slice A (C.ofS rs).length c) (C.ofS rs).length ((C.ofS rs).map (Value.int .i32)) ∧ Below w.heap.size w w') ∧
  (C.good rs = false → e = .returned (.tuple #[.agg #[.slice none 0 0], .int .i64 1]) ∧ Below w.heap.size w w')

theorem C.good_get {rs : List (Int × Int)} {i : Nat} {r : Int × Int} (h : rs[i]? = some r) (hb : r.1 < 0 ∨ 1114111 < r.2 ∨ r.2 < r.1) : C.good rs = false := by
  refine Bool.eq_false_iff.2 fun hg => ?_
  have := List.all_eq_true.1 hg r (List.mem_of_getElem? h)
  simp at this
  omega
theorem C.good_take {rs : List (Int × Int)} {i : Nat} {r : Int × Int} (h : rs[i]? = some r) (hg : C.good (rs.take i) = true) (h1 : 0 ≤ r.1) (h2 : r.2 ≤ 1114111) (h3 : r.1 ≤ r.2) : C.good (rs.take (i + 1)) = true := by
  unfold C.good at *
  rw [List.take_add_one, h, List.all_append, hg]
  simp [h1, h2, h3]

end Go.Proofs.YtamcpdggpdaioaaDoor

/- The law's ranges: Few, Right, Own, Set, by walking their texts. -/
namespace Go.Proofs.YtamcpdggpdaioaaDoor
open Go.RowKit
set_option linter.unusedSimpArgs false
set_option linter.unusedVariables false

def RetPairs (k : IntKind) (t : TypeId) (rs : List (Int × Int)) (w : World) (e : Ending) (w' : World) : Prop :=
  ∃ A c, e = .returned (.slice A rs.length c) ∧ w'.ownsRow w.heap.size t 2 (.slice A rs.length c) rs.length (C.fl k rs) ∧ Below w.heap.size w w'

theorem C.fl_take (k : IntKind) : ∀ (rs : List (Int × Int)) (m : Nat), (C.fl k rs).take (2 * m) = C.fl k (rs.take m)
  | [], m => by simp [C.fl]
  | (x, y) :: t, 0 => rfl
  | (x, y) :: t, m + 1 => by
    rw [show 2 * (m + 1) = 2 * m + 1 + 1 by omega]
    show _ :: _ :: (C.fl k t).take (2 * m) = _
    rw [C.fl_take k t m]; rfl
theorem Sl.take {w : World} {B : Nat} {A : Option Addr} {xs : List Value} (h : Sl w B A xs) (m : Nat) : Sl w B A (xs.take m) := by
  intro hx
  rw [List.length_take] at hx
  obtain ⟨b, o, hA, hb, hc⟩ := h (by omega)
  refine ⟨b, o, hA, hb, fun i hi => ?_⟩
  rw [List.length_take] at hi
  rw [hc i (by omega), List.getElem?_take, if_pos (by omega)]
theorem C.fl_one (k : IntKind) : ∀ rs, ∀ u ∈ C.fl k rs, u.oneCell' = true
  | [], u, h => by cases h
  | (x, y) :: t, u, h => by
    rcases List.mem_cons.1 h with rfl | h
    · rfl
    · rcases List.mem_cons.1 h with rfl | h
      · rfl
      · exact C.fl_one k t u h

end Go.Proofs.YtamcpdggpdaioaaDoor
