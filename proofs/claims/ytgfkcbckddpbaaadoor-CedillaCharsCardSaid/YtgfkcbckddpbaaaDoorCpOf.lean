/- The layer cpset: All, Not, Of, by walking their texts. -/
import Derived.Test.YtgfkcbckddpbaaaDoorCpSame
import Derived.Test.YtgfkcbckddpbaaaDoorCpCount
import Derived.Deep.RegionHeld3
namespace Go.Proofs.YtgfkcbckddpbaaaDoor
open Go.RowKit
set_option linter.unusedSimpArgs false
set_option linter.unusedVariables false

set_option maxRecDepth 100000 in
set_option maxHeartbeats 1000000 in
theorem C.all_any (w : World) : Calls Tryd.prog 61 #[] w (RetSet C.all w) := by
  go_enter Tryd.func61, Tryd.ntmps61
  go_wp2
  have hb2 : ((w.alloc (.cells #[.slice (some ⟨w.heap.size + 1, 0, none⟩) 4 4] 54)).alloc (.cells #[.int .i32 0, .int .i32 55296, .int .i32 57344, .int .i32 1114112] 21)).heap[w.heap.size]? = some (.cells #[.slice (some ⟨w.heap.size + 1, 0, none⟩) 4 4] 54 (0, 0)) := by
    have h := Below.refl (w.heap.size + 1) (w.alloc (.cells #[.slice (some ⟨w.heap.size + 1, 0, none⟩) 4 4] 54))
    exact (ret_blk (h.alloc (by simp) _)).1
  refine bodyPost_ret (results_cell_row rfl _ _ w.heap.size _ _ _ _ rfl hb2 Tryd.underlying54 rfl (by kernel_rfl)) rfl ?_
  refine ⟨some ⟨w.heap.size + 1, 0, none⟩, 4, rfl, ?_, ((Below.refl _ _).alloc (Nat.le_refl _) _).alloc (by simp) _⟩
  have h := heap_alloc_new (w.alloc (.cells #[.slice (some ⟨w.heap.size + 1, 0, none⟩) 4 4] 54)) (.cells #[.int .i32 0, .int .i32 55296, .int .i32 57344, .int .i32 1114112] 21)
  rw [show (w.alloc (.cells #[.slice (some ⟨w.heap.size + 1, 0, none⟩) 4 4] 54)).heap.size = w.heap.size + 1 by simp] at h
  exact ⟨rfl, .inr ⟨w.heap.size + 1, 4, _, rfl, by omega, h, Nat.le_refl _, by decide, rfl, rfl⟩⟩

set_option maxRecDepth 100000 in
set_option maxHeartbeats 1000000 in
theorem C.not_any (A : Option Addr) (c n B : Nat) (a : List Int) (w : World) (hn : a.length = n) (hn' : n ≤ 1000000) (ha : C.srt a) (hB : B ≤ w.heap.size) (hA : Sl w B A (a.map (Value.int .i32))) :
    Calls Tryd.prog 32 #[.agg #[.slice A n c]] w (RetSet (C.mrg C.lessF C.all a) w) := by
  have HN := Lib.hid hn
  have HSA := Lib.hid ha
  clear hn ha
  go_enter Tryd.func32, Tryd.ntmps32
  go_wp2_with fail
  have hal : Below w.heap.size w ((w.alloc (.cells #[.slice A n c] 54)).alloc (.cells #[.slice none 0 0] 54)).drew := (((Below.refl _ _).alloc (Nat.le_refl _) _).alloc (by simp) _).drew
  have hA2 := Lib.hid (hA.belowN hal hB (Nat.le_refl _))
  have hblk0 : ((w.alloc (.cells #[.slice A n c] 54)).alloc (.cells #[.slice none 0 0] 54)).heap[w.heap.size + 1]? = some (.cells #[.slice none 0 0] 54 (0, 0)) := by
    have h := heap_alloc_new (w.alloc (.cells #[.slice A n c] 54)) (.cells #[.slice none 0 0] 54)
    rwa [show (w.alloc (.cells #[.slice A n c] 54)).heap.size = w.heap.size + 1 by simp] at h
  have hc0 := (blk_cell hblk0 0)
  have HBLK := Lib.hid hblk0
  clear hblk0
  obtain ⟨hc1, hc2⟩ := hc0
  simp only [List.getElem?_toArray, List.getElem?_cons_zero] at hc1
  go_region_held3 (fun w' => w'.cell? ⟨w.heap.size, 0, none⟩ = some (.slice A n c)) (first
      | go_keep
      | (rw [(bcell hb1).1 _ _ (by simp <;> omega)]; assumption)
      | (rw [(bcell hb2).1 _ _ (by have := hb1.size; simp at this; omega)]; assumption))
    (first | (go_at_call 61; refine (C.all_any _).mono ?_; rintro e w1 ⟨A1, c1, rfl, hown1, hb1⟩) | (go_at_call 34; refine (C.less_any A1 A c1 c C.all.length n w1.heap.size C.all a _ rfl HN.out (by decide) hn' C.all_ok.1 HSA.out (Nat.le_refl _) (Sl.of_own hown1) (hA2.out.belowN hb1 (by simp <;> omega) (by have := hb1.size; simp at this; omega))).mono ?_; rintro e w2 ⟨A2, c2, rfl, hown2, hb2⟩; have q1 := ((bcell (hb1.trans (hb2.mono hb1.size))).1 (w.heap.size + 1) 0 (by simp <;> omega)).trans hc1; have q2 := ((bcell (hb1.trans (hb2.mono hb1.size))).2 (w.heap.size + 1) 0 (by simp <;> omega)).trans hc2))
  have hs1 : w.heap.size + 2 ≤ w1.heap.size := by have := hb1.size; simp at this; omega
  have hb12 := hb1.trans (hb2.mono hb1.size)
  have hblk2 : w2.heap[w.heap.size + 1]? = some (.cells #[.slice none 0 0] 54 (0, 0)) := (hb12.block (w.heap.size + 1) (by simp <;> omega)).trans HBLK.out
  have HB2 := Lib.hid hblk2
  clear hblk2 q1 q2 hc1 hc2
  go_wp2
  have hb3 := set_cell (v := .slice A2 (C.mrg C.lessF C.all a).length c2) HB2.out
  refine bodyPost_ret (results_cell_row rfl _ _ (w.heap.size + 1) _ _ _ _ rfl hb3 Tryd.underlying54 rfl (by kernel_rfl)) rfl ?_
  refine ⟨A2, c2, rfl, ?_, (hal.trans (hb12.mono (by simp <;> omega))).setCell (by simp) _⟩
  exact own_base (ownsRow_setCell_below hown2 (by show w.heap.size + 1 < _; omega) _) (by omega)

theorem results_cell_row2 {P : Program} {fn : Func} {p u : Tmp} {ty : TypeId} (h : fn.results = #[.cell p ty, .tmp u]) (tmps : Array Value) (w : World) (g : Nat) (t : TypeId) (cs : Array Value) (fr : Nat × Nat) (d : TypeDesc)
    (hp : tmps.getD p undef = .pointer (some ⟨g, 0, none⟩)) (hg : w.heap[g]? = some (.cells cs t fr))
    (hu : P.underlying ty = some d) (hd : (match d with | .struct _ | .array _ _ => true | _ => false) = true) (hi : (P.info? ty).map (·.size) = some cs.size) :
    (results fn tmps).run P w = .ok (.tuple #[.agg cs, tmps.getD u undef]) w := by
  have hp' : tmps[p]?.getD undef = .pointer (some ⟨g, 0, none⟩) := by simpa using hp
  simp [results, h, hp', asAddr, run_loadVar_row w g t ty cs fr d hg hu hd hi]

/-- May ranges be? -/
def C.good (rs : List (Int × Int)) : Bool := rs.all fun r => decide (0 ≤ r.1) && decide (r.2 ≤ 1114111) && decide (r.1 ≤ r.2)
/-- Of ranges, one behind the other. -/
def C.ofL (rs : List (Int × Int)) : List Int := rs.foldl (fun acc r => C.mrg C.orF acc [r.1, r.2 + 1]) []
def C.ofS (rs : List (Int × Int)) : List Int := C.mrg C.andF (C.ofL rs) C.all
theorem C.ofL_succ {rs : List (Int × Int)} {i : Nat} {r : Int × Int} (h : rs[i]? = some r) : C.ofL (rs.take (i + 1)) = C.mrg C.orF (C.ofL (rs.take i)) [r.1, r.2 + 1] := by
  unfold C.ofL
  rw [List.take_add_one, h]
  simp [List.foldl_append]
theorem C.ofL_ok : ∀ (rs : List (Int × Int)), C.good rs = true → C.ok (C.ofL rs) ∧ (C.ofL rs).length ≤ 2 * rs.length := by
  intro rs h
  unfold C.ofL
  have : ∀ (rs : List (Int × Int)) (acc : List Int), C.good rs = true → C.ok acc → C.ok (rs.foldl (fun acc r => C.mrg C.orF acc [r.1, r.2 + 1]) acc) ∧ (rs.foldl (fun acc r => C.mrg C.orF acc [r.1, r.2 + 1]) acc).length ≤ acc.length + 2 * rs.length := by
    intro rs
    induction rs with
    | nil => intro acc _ h; exact ⟨h, by simp⟩
    | cons r t ih =>
      intro acc hg ha
      simp only [C.good, List.all_cons, Bool.and_eq_true, decide_eq_true_eq] at hg
      obtain ⟨⟨⟨h1, h2⟩, h3⟩, h4⟩ := hg
      have hm := C.mrg_ok C.orF rfl ha (C.one_ok r.1 r.2 h1 h3 h2)
      have hl := C.mrg_len C.orF acc [r.1, r.2 + 1]
      obtain ⟨i1, i2⟩ := ih _ h4 hm
      refine ⟨i1, Nat.le_trans i2 ?_⟩
      simp at hl ⊢
      omega
  obtain ⟨h1, h2⟩ := this rs [] h C.nil_ok
  exact ⟨h1, by simpa using h2⟩

def RetOf (rs : List (Int × Int)) (w : World) (e : Ending) (w' : World) : Prop :=
  (C.good rs = true → ∃ A c, e = .returned (.tuple #[.agg #[.slice A (C.ofS rs).length c], .int .i64 0]) ∧ w'.ownsRow w.heap.size 21 1 (.slice A (C.ofS rs).length c) (C.ofS rs).length ((C.ofS rs).map (Value.int .i32)) ∧ Below w.heap.size w w') ∧
  (C.good rs = false → e = .returned (.tuple #[.agg #[.slice none 0 0], .int .i64 1]) ∧ Below w.heap.size w w')

theorem C.good_get {rs : List (Int × Int)} {i : Nat} {r : Int × Int} (h : rs[i]? = some r) (hb : r.1 < 0 ∨ 1114111 < r.2 ∨ r.2 < r.1) : C.good rs = false := by
  refine Bool.eq_false_iff.2 fun hg => ?_
  have := List.all_eq_true.1 hg r (List.mem_of_getElem? h)
  simp at this
  omega
theorem C.good_take {rs : List (Int × Int)} {i : Nat} {r : Int × Int} (h : rs[i]? = some r) (hg : C.good (rs.take i) = true) (h1 : 0 ≤ r.1) (h2 : r.2 ≤ 1114111) (h3 : r.1 ≤ r.2) : C.good (rs.take (i + 1)) = true := by
  unfold C.good at *
  rw [List.take_add_one, h, List.all_append, hg]
  simp [h1, h2, h3]

end Go.Proofs.YtgfkcbckddpbaaaDoor
