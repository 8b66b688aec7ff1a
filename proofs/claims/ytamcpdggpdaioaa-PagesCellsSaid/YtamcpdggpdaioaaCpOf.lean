/- The layer cpset: All, Not, Of, by walking their texts. -/
import Derived.Test.YtamcpdggpdaioaaCpSame
import Derived.Test.YtamcpdggpdaioaaCpCount
import Derived.Deep.RegionHeld3
namespace Go.Proofs.Ytamcpdggpdaioaa
open Go.RowKit
set_option linter.unusedSimpArgs false
set_option linter.unusedVariables false

theorem results_cell_row2 {P : Program} {fn : Func} {p u : Tmp} {ty : TypeId} (h : fn.results = #[.cell p ty, .tmp u]) (tmps : Array Value) (w : World) (g : Nat) (t : TypeId) (cs : Array Value) (fr : Nat × Nat) (d : TypeDesc)
    (hp : tmps.getD p undef = .pointer (some ⟨g, 0, none⟩)) (hg : w.heap[g]? = some (.cells cs t fr))
    (hu : P.underlying ty = some d) (hd : (match d with | .struct _ | .array _ _ => true | _ => false) = true) (hi : (P.info? ty).map (·.size) = some cs.size) :
    (results fn tmps).run P w = .ok (.tuple #[.agg cs, tmps.getD u undef]) w := by
  have hp' : tmps[p]?.getD undef = .pointer (some ⟨g, 0, none⟩) := by simpa using hp
  simp [results, h, hp', asAddr, run_loadVar_row w g t ty cs fr d hg hu hd hi]

/-- May ranges be? -/
def C.good (rs : List (Int × Int)) : Bool := rs.all fun r => decide (0 ≤ r.1) && decide (r.2 ≤ 1114111) && decide (r.1 ≤ r.2)
/-- Of ranges, one behind the other. -/
def C.ofL (rs : List (Int × Int)) : List Int := rs.foldl (fun acc r => C.mrg C.orF acc [r.1, r.2 + 1]) []
def C.ofS (rs : List (Int × Int)) : List Int := C.mrg C.andF (C.ofL rs) C.all
theorem C.ofL_succ {rs : List (Int × Int)} {i : Nat} {r : Int × Int} (h : rs[i]? = some r) : C.ofL (rs.take (i + 1)) = C.mrg C.orF (C.ofL (rs.take i)) [r.1, r.2 + 1] := by
  unfold C.ofL
  rw [List.take_add_one, h]
  simp [List.foldl_append]
theorem C.ofL_ok : ∀ (rs : List (Int × Int)), C.good rs = true → C.ok (C.ofL rs) ∧ (C.ofL rs).length ≤ 2 * rs.length := by
  intro rs h
  unfold C.ofL
  have : ∀ (rs : List (Int × Int)) (acc : List Int), C.good rs = true → C.ok acc → C.ok (rs.foldl (fun acc r => C.mrg C.orF acc [r.1, r.2 + 1]) acc) ∧ (rs.foldl (fun acc r => C.mrg C.orF acc [r.1, r.2 + 1]) acc).length ≤ acc.length + 2 * rs.length := by
    intro rs
    induction rs with
    | nil => intro acc _ h; exact ⟨h, by simp⟩
    | cons r t ih =>
      intro acc hg ha
      simp only [C.good, List.all_cons, Bool.and_eq_true, decide_eq_true_eq] at hg
      obtain ⟨⟨⟨h1, h2⟩, h3⟩, h4⟩ := hg
      have hm := C.mrg_ok C.orF rfl ha (C.one_ok r.1 r.2 h1 h3 h2)
      have hl := C.mrg_len C.orF acc [r.1, r.2 + 1]
      obtain ⟨i1, i2⟩ := ih _ h4 hm
      refine ⟨i1, Nat.le_trans i2 ?_⟩
      simp at hl ⊢
      omega
  obtain ⟨h1, h2⟩ := this rs [] h C.nil_ok
  exact ⟨h1, by simpa using h2⟩

def RetOf (rs : List (Int × Int)) (w : World) (e : Ending) (w' : World) : Prop :=
  (C.good rs = true → ∃ A c, e = .returned (.tuple #[.agg #[.slice A (C.ofS rs).length c], .int .i64 0]) ∧ w'.ownsRow w.heap.size 21 1 (.slice A (C.ofS rs).length c) (C.ofS rs).length ((C.ofS rs).map (Value.int .i32)) ∧ Below w.heap.size w w') ∧
  (C.good rs = false → e = .returned (.tuple #[.agg #[.slice none 0 0], .int .i64 1]) ∧ Below w.heap.size w w')

theorem C.good_get {rs : List (Int × Int)} {i : Nat} {r : Int × Int} (h : rs[i]? = some r) (hb : r.1 < 0 ∨ 1114111 < r.2 ∨ r.2 < r.1) : C.good rs = false := by
  refine Bool.eq_false_iff.2 fun hg => ?_
  have := List.all_eq_true.1 hg r (List.mem_of_getElem? h)
  simp at this
  omega
theorem C.good_take {rs : List (Int × Int)} {i : Nat} {r : Int × Int} (h : rs[i]? = some r) (hg : C.good (rs.take i) = true) (h1 : 0 ≤ r.1) (h2 : r.2 ≤ 1114111) (h3 : r.1 ≤ r.2) : C.good (rs.take (i + 1)) = true := by
  unfold C.good at *
  rw [List.take_add_one, h, List.all_append, hg]
  simp [h1, h2, h3]

end Go.Proofs.Ytamcpdggpdaioaa
