/- The law's fixed fact of the layer model, by walking its text. -/
import Derived.Test.YtamcpdggpdaioaaMdCheck
import Derived.BigRegion
import Derived.Test.YtamcpdggpdaioaaMdLook
import Derived.Deep.RegionHeld3
import Derived.Deep.AppendLies
import Derived.Test.YtamcpdggpdaioaaExt
namespace Go.Proofs.Ytamcpdggpdaioaa
open Go.RowKit
set_option linter.unusedSimpArgs false
set_option linter.unusedVariables false

def Md.T0 : List Rw.Row := [(197, 0, [65, 778]), (8491, 0, [197])]
theorem Md.T0_ok : Md.Ok Md.T0 ∧ Md.bd Md.T0 ∧ ∀ r ∈ Md.T0, r.2.2.length ≤ 1000000 := by
  have hb : Md.bd Md.T0 := by
    intro r hr
    simp only [Md.T0, List.mem_cons, List.not_mem_nil, or_false] at hr
    rcases hr with rfl | rfl
    · refine ⟨by decide, fun c hc => ?_⟩
      simp only [List.mem_cons, List.not_mem_nil, or_false] at hc
      rcases hc with rfl | rfl <;> decide
    · refine ⟨by decide, fun c hc => ?_⟩
      simp only [List.mem_cons, List.not_mem_nil, or_false] at hc
      subst hc
      decide
  have hl : ∀ r ∈ Md.T0, r.2.2.length ≤ 1000000 := by
    intro r hr
    simp only [Md.T0, List.mem_cons, List.not_mem_nil, or_false] at hr
    rcases hr with rfl | rfl <;> decide
  refine ⟨⟨by decide, ?_, hb, hl⟩, hb, hl⟩
  simp [Md.rises, Md.T0]

set_option maxRecDepth 100000 in
set_option maxHeartbeats 2000000 in
theorem Md.awake_any (w : World) : Calls Try.prog 15 #[] w fun e w' => e = .returned (.bool true) ∧ Below w.heap.size w w' := by
  obtain ⟨ok, hbd, hml⟩ := Md.T0_ok
  obtain ⟨wa, hwa⟩ : ∃ wa, (((w.alloc (.cells #[.int .i32 65, .int .i32 778] 21)).alloc (.cells #[.int .i32 197] 21)).alloc (.cells #[.int .i32 197, .int .i64 0, .slice (some ⟨w.heap.size, 0, none⟩) 2 2, .int .i32 8491, .int .i64 0, .slice (some ⟨w.heap.size + 1, 0, none⟩) 1 1] 84)).alloc (.cells #[.slice (some ⟨w.heap.size + 2, 0, none⟩) 2 2, .slice none 0 0] 51) = wa := ⟨_, rfl⟩
  have hbA : Below w.heap.size w wa := by rw [← hwa]; exact ((((Below.refl _ _).alloc (Nat.le_refl _) _).alloc (by simp) _).alloc (by simp; omega) _).alloc (by simp; omega) _
  have hat0 : Rw.At wa w.heap.size 21 [.int .i32 65, .int .i32 778] := by
    rw [← hwa]; exact (((Rw.At.new w 21 [.int .i32 65, .int .i32 778]).alloc _).alloc _).alloc _
  have hat1 : Rw.At wa (w.heap.size + 1) 21 [.int .i32 197] := by
    have h := Rw.At.new (w.alloc (.cells #[.int .i32 65, .int .i32 778] 21)) 21 [.int .i32 197]
    rw [World.size_alloc] at h
    rw [← hwa]; exact (h.alloc _).alloc _
  have hat2 : Rw.At wa (w.heap.size + 2) 84 [.int .i32 197, .int .i64 0, .slice (some ⟨w.heap.size, 0, none⟩) 2 2, .int .i32 8491, .int .i64 0, .slice (some ⟨w.heap.size + 1, 0, none⟩) 1 1] := by
    have h := Rw.At.new ((w.alloc (.cells #[.int .i32 65, .int .i32 778] 21)).alloc (.cells #[.int .i32 197] 21)) 84 [.int .i32 197, .int .i64 0, .slice (some ⟨w.heap.size, 0, none⟩) 2 2, .int .i32 8491, .int .i64 0, .slice (some ⟨w.heap.size + 1, 0, none⟩) 1 1]
    rw [World.size_alloc, World.size_alloc] at h
    rw [← hwa]; exact h.alloc _
  have hat3 : Rw.At wa (w.heap.size + 3) 51 [.slice (some ⟨w.heap.size + 2, 0, none⟩) 2 2, .slice none 0 0] := by
    have h := Rw.At.new (((w.alloc (.cells #[.int .i32 65, .int .i32 778] 21)).alloc (.cells #[.int .i32 197] 21)).alloc (.cells #[.int .i32 197, .int .i64 0, .slice (some ⟨w.heap.size, 0, none⟩) 2 2, .int .i32 8491, .int .i64 0, .slice (some ⟨w.heap.size + 1, 0, none⟩) 1 1] 84)) 51 [.slice (some ⟨w.heap.size + 2, 0, none⟩) 2 2, .slice none 0 0]
    rw [World.size_alloc, World.size_alloc, World.size_alloc] at h
    rw [← hwa]; exact h
  have hIs : Md.Is wa (.agg #[.slice (some ⟨w.heap.size + 2, 0, none⟩) 2 2, .slice none 0 0]) Md.T0 [] := by
    refine ⟨some ⟨w.heap.size + 2, 0, none⟩, 2, none, 0, rfl, ⟨[(some ⟨w.heap.size, 0, none⟩, 2), (some ⟨w.heap.size + 1, 0, none⟩, 1)], rfl, ?_, ?_⟩, Sl.nil _ _ _⟩
    · exact Sl.lit rfl 84 (0, 0) hat2
    · intro i r a hr ha
      rcases i with _ | _ | i
      · simp [Md.T0] at hr ha; subst hr ha
        exact Sl.lit rfl 21 (0, 0) hat0
      · simp [Md.T0] at hr ha; subst hr ha
        exact Sl.lit rfl 21 (0, 0) hat1
      · simp [Md.T0] at hr
  have z0 := hat3.cell 0 rfl
  have z1 := hat3.cell 1 rfl
  have hz := hat3.lt
  have HWA := Lib.hid hwa
  have HBA := Lib.hid hbA
  have HIS := Lib.hid hIs
  have HAT3 := Lib.hid hat3
  have HOK := Lib.hid ok
  have HBD := Lib.hid hbd
  have HML := Lib.hid hml
  have HSRT : Hid (C.srt []) := Lib.hid List.Pairwise.nil
  have hF := Md.full_any _ Md.T0 [] 8491 wa ok hIs (by decide) (by decide)
  have e1 : (Md.full Md.T0 8491).getD [] = [65, 778] := by decide +kernel
  rw [e1] at hF
  clear hwa hbA hat0 hat1 hat2 hat3 hIs ok hbd hml e1
  go_enter Try.func15, Try.ntmps15
  go_upto_region 2 with (fail)
  rw [HWA.out]
  go_wp2_with fail
  refine hF.mono ?_
  rintro e w1 ⟨A1, c1, rfl, hown1, hb1⟩
  have hat := HAT3.out.below hb1
  have hIs1 := HIS.out.below hb1
  have k0 := hat.cell 0 rfl
  have k1 := hat.cell 1 rfl
  have HB1 := Lib.hid (HBA.out.trans (hb1.mono HBA.out.size))
  obtain ⟨ab, ao, hA, hab, hac⟩ := Sl.of_own hown1 (by simp)
  have d1 : w1.cell? ⟨ab, ao + 1, none⟩ = some (.int .i32 778) := by simpa using hac 1 (by simp)
  have hC := Md.check_any _ Md.T0 [] w1 (by decide) HBD.out HML.out hIs1 HSRT.out (by decide)
  have e2 : Md.chk Md.T0 (C.mem []) = 0 := by decide +kernel
  rw [e2] at hC
  have HIS1 := Lib.hid hIs1
  have HAT := Lib.hid hat
  subst hA
  clear hb1 hown1 hac hat hIs1 hF z0 z1 e2
  go_wp2_with fail
  refine hC.mono ?_
  rintro e w2 ⟨q, v, rfl, hq, hqv, hb2⟩
  obtain rfl : q = [] := by
    cases q with
    | nil => rfl
    | cons x l => simp [F.lk, Md.err] at hq
  obtain rfl : v = .nilIface := hqv
  have hat2 := HAT.out.below hb2
  have hIs2 := HIS1.out.below hb2
  have l0 := hat2.cell 0 rfl
  have l1 := hat2.cell 1 rfl
  have d2 := ((bcell hb2).1 ab (ao + 1) hab).trans d1
  have hP := Md.prim_any _ Md.T0 [] 8491 w2 HOK.out hIs2 HSRT.out (by decide) (by decide) (by decide)
  have e3 : Md.prim Md.T0 (C.mem []) 8491 = false := by decide +kernel
  rw [e3] at hP
  have HB2 := Lib.hid (HB1.out.trans (hb2.mono HB1.out.size))
  have HIS2 := Lib.hid hIs2
  have HAT2 := Lib.hid hat2
  clear hb2 hq hC k0 k1 d1 hat2 hIs2 e3
  go_wp2_with fail
  refine hP.mono ?_
  rintro e w3 ⟨rfl, hb3⟩
  have hat3 := HAT2.out.below hb3
  have m0 := hat3.cell 0 rfl
  have m1 := hat3.cell 1 rfl
  have hP2 := Md.prim_any _ Md.T0 [] 197 w3 HOK.out (HIS2.out.below hb3) HSRT.out (by decide) (by decide) (by decide)
  have e4 : Md.prim Md.T0 (C.mem []) 197 = true := by decide +kernel
  rw [e4] at hP2
  have HB3 := Lib.hid (HB2.out.trans (hb3.mono HB2.out.size))
  clear hb3 hat3 hP l0 l1 d2 e4
  go_wp2_with fail
  refine hP2.mono ?_
  rintro e w4 ⟨rfl, hb4⟩
  have HB4 := Lib.hid (HB3.out.trans (hb4.mono HB3.out.size))
  clear hb4 hP2
  go_wp2_with fail
  go_ret
  exact ⟨rfl, HB4.out⟩
end Go.Proofs.Ytamcpdggpdaioaa

/- The layer cpset: merge, by walking its text. -/
namespace Go.Proofs.Ytamcpdggpdaioaa
open Go.RowKit
set_option linter.unusedSimpArgs false
set_option linter.unusedVariables false

end Go.Proofs.Ytamcpdggpdaioaa

/- The layer cpset: Or, And, Less, by walking their texts. -/
namespace Go.Proofs.Ytamcpdggpdaioaa
open Go.RowKit
set_option linter.unusedSimpArgs false
set_option linter.unusedVariables false


theorem C.enter' {P : Program} {f : FuncId} {fn : Func} (hf : P.funcs[f]? = some fn) (hname : (fn.name == "runtime.NumGoroutine") = false) (hb : fn.body.isNone = false) (args : Array Value) (w : World) :
    (callFunc f args).run P w = .ok (.enter f args) w := by
  rcases h : fn.body with _ | c
  · rw [h] at hb; cases hb
  · exact C.enter hf hname h args w

def C.orF : Bool → Bool → Bool := fun x y => x || y
def C.andF : Bool → Bool → Bool := fun x y => x && y
def C.lessF : Bool → Bool → Bool := fun x y => x && !y
end Go.Proofs.Ytamcpdggpdaioaa

/- The layer cpset: Same, Within, All, Not, by walking their texts. -/
namespace Go.Proofs.Ytamcpdggpdaioaa
open Go.RowKit
set_option linter.unusedSimpArgs false
set_option linter.unusedVariables false

theorem C.fld (v : Value) (w : World) : (Instr.field 49 (.agg #[v]) 0).run Try.prog w = .ok v w := by
  have h1 := Try.underlying49
  have h2 := Try.underlying47
  simp [Instr.field, run_underlying h1, asAgg, Go.part, isAgg, run_underlying h2]

end Go.Proofs.Ytamcpdggpdaioaa

/- The layer cpset: Ranges, by walking its text. -/
namespace Go.Proofs.Ytamcpdggpdaioaa
open Go.RowKit
set_option linter.unusedSimpArgs false
set_option linter.unusedVariables false

/-- Pairs, cell by cell. -/
def C.fl (k : IntKind) : List (Int × Int) → List Value
  | [] => []
  | (x, y) :: t => .int k x :: .int k y :: C.fl k t
theorem C.fl_len (k : IntKind) : ∀ rs, (C.fl k rs).length = 2 * rs.length
  | [] => rfl
  | (x, y) :: t => by show (C.fl k t).length + 1 + 1 = 2 * (t.length + 1); rw [C.fl_len k t]; omega
theorem C.fl_app (k : IntKind) : ∀ a b, C.fl k (a ++ b) = C.fl k a ++ C.fl k b
  | [], b => rfl
  | (x, y) :: t, b => by show _ :: _ :: C.fl k (t ++ b) = _; rw [C.fl_app k t b]; rfl
theorem C.fl_get (k : IntKind) : ∀ (rs : List (Int × Int)) (i : Nat) (r : Int × Int), rs[i]? = some r → (C.fl k rs)[2 * i]? = some (.int k r.1) ∧ (C.fl k rs)[2 * i + 1]? = some (.int k r.2)
  | [], i, r, h => by simp at h
  | (x, y) :: t, 0, r, h => by simp at h; subst h; exact ⟨rfl, rfl⟩
  | (x, y) :: t, i + 1, r, h => by
    have := C.fl_get k t i r (by simpa using h)
    rw [show 2 * (i + 1) = 2 * i + 1 + 1 by omega]
    exact this

theorem own_ne {w : World} {base : Nat} {e : TypeId} {size n : Nat} {v : Value} {xs : List Value} (h : w.ownsRow base e size v n xs) (g : Nat) (hg : g < base) : v.ownBlock ≠ some g := fun hk => by have := (h.lt _ hk).1; omega

end Go.Proofs.Ytamcpdggpdaioaa

/- The layer cpset: Count, Index, At, by walking their texts. -/
namespace Go.Proofs.Ytamcpdggpdaioaa
open Go.RowKit
set_option linter.unusedSimpArgs false
set_option linter.unusedVariables false

/-- Element i of a row of pairs. -/
theorem Sl.pair {w : World} {B : Nat} {A : Option Addr} {k : IntKind} {rs : List (Int × Int)} (h : Sl w B A (C.fl k rs)) {i : Nat} {r : Int × Int} (hr : rs[i]? = some r) :
    ∃ b o, A = some ⟨b, o, none⟩ ∧ b < B ∧ w.cell? ⟨b, o + i * 2, none⟩ = some (.int k r.1) ∧ w.cell? ⟨b, o + i * 2 + 1, none⟩ = some (.int k r.2) := by
  have hi : i < rs.length := (List.getElem?_eq_some_iff.1 hr).1
  obtain ⟨b, o, hA, hb, hc⟩ := h (by rw [C.fl_len]; omega)
  obtain ⟨h0, h1⟩ := C.fl_get k rs i r hr
  refine ⟨b, o, hA, hb, ?_, ?_⟩
  · rw [Nat.mul_comm, hc _ (by rw [C.fl_len]; omega), h0]
  · rw [Nat.mul_comm, Nat.add_assoc, hc _ (by rw [C.fl_len]; omega), h1]

end Go.Proofs.Ytamcpdggpdaioaa

/- The layer cpset: All, Not, Of, by walking their texts. -/
namespace Go.Proofs.Ytamcpdggpdaioaa
open Go.RowKit
set_option linter.unusedSimpArgs false
set_option linter.unusedVariables false

theorem results_cell_row2 {P : Program} {fn : Func} {p u : Tmp} {ty : TypeId} (h : fn.results = #[.cell p ty, .tmp u]) (tmps : Array Value) (w : World) (g : Nat) (t : TypeId) (cs : Array Value) (fr : Nat × Nat) (d : TypeDesc)
    (hp : tmps.getD p undef = .pointer (some ⟨g, 0, none⟩)) (hg : w.heap[g]? = some (.cells cs t fr))
    (hu : P.underlying ty = some d) (hd : (match d with | .struct _ | .array _ _ => true | _ => false) = true) (hi : (P.info? ty).map (·.size) = some cs.size) :
    (results fn tmps).run P w = .ok (.tuple #[.agg cs, tmps.getD u undef]) w := by
  have hp' : tmps[p]?.getD undef = .pointer (some ⟨g, 0, none⟩) := by simpa using hp
  simp [results, h, hp', asAddr, run_loadVar_row w g t ty cs fr d hg hu hd hi]

/-- May ranges be? -/
def C.good (rs : List (Int × Int)) : Bool := rs.all fun r => decide (0 ≤ r.1) && decide (r.2 ≤ 1114111) && decide (r.1 ≤ r.2)
/-- Of ranges, one behind the other. -/
def C.ofL (rs : List (Int × Int)) : List Int := rs.foldl (fun acc r => C.mrg C.orF acc [r.1, r.2 + 1]) []
def C.ofS (rs : List (Int × Int)) : List Int := C.mrg C.andF (C.ofL rs) C.all
theorem C.ofL_succ {rs : List (Int × Int)} {i : Nat} {r : Int × Int} (h : rs[i]? = some r) : C.ofL (rs.take (i + 1)) = C.mrg C.orF (C.ofL (rs.take i)) [r.1, r.2 + 1] := by
  unfold C.ofL
  rw [List.take_add_one, h]
  simp [List.foldl_append]
theorem C.ofL_ok : ∀ (rs : List (Int × Int)), C.good rs = true → C.ok (C.ofL rs) ∧ (C.ofL rs).length ≤ 2 * rs.length := by
  intro rs h
  unfold C.ofL
  have : ∀ (rs : List (Int × Int)) (acc : List Int), C.good rs = true → C.ok acc → C.ok (rs.foldl (fun acc r => C.mrg C.orF acc [r.1, r.2 + 1]) acc) ∧ (rs.foldl (fun acc r => C.mrg C.orF acc [r.1, r.2 + 1]) acc).length ≤ acc.length + 2 * rs.length := by
    intro rs
    induction rs with
    | nil => intro acc _ h; exact ⟨h, by simp⟩
    | cons r t ih =>
      intro acc hg ha
      simp only [C.good, List.all_cons, Bool.and_eq_true, decide_eq_true_eq] at hg
      obtain ⟨⟨⟨h1, h2⟩, h3⟩, h4⟩ := hg
      have hm := C.mrg_ok C.orF rfl ha (C.one_ok r.1 r.2 h1 h3 h2)
      have hl := C.mrg_len C.orF acc [r.1, r.2 + 1]
      obtain ⟨i1, i2⟩ := ih _ h4 hm
      refine ⟨i1, Nat.le_trans i2 ?_⟩
      simp at hl ⊢
      omega
  obtain ⟨h1, h2⟩ := this rs [] h C.nil_ok
  exact ⟨h1, by simpa using h2⟩

def RetOf (rs : List (Int × Int)) (w : World) (e : Ending) (w' : World) : Prop :=
  (C.good rs = true → ∃ A c, e = .returned (.tuple #[.agg #[.slice A (C.ofS rs).length c], .int .i64 0]) ∧ w'.ownsRow w.heap.size 21 1 (.slice A (C.ofS rs).length c) (C.ofS rs).length ((C.ofS rs).map (Value.int .i32)) ∧ Below w.heap.size w w') ∧
  (C.good rs = false → e = .returned (.tuple #[.agg #[.slice none 0 0], .int .i64 1]) ∧ Below w.heap.size w w')

theorem C.good_get {rs : List (Int × Int)} {i : Nat} {r : Int × Int} (h : rs[i]? = some r) (hb : r.1 < 0 ∨ 1114111 < r.2 ∨ r.2 < r.1) : C.good rs = false := by
  refine Bool.eq_false_iff.2 fun hg => ?_
  have := List.all_eq_true.1 hg r (List.mem_of_getElem? h)
  simp at this
  omega
theorem C.good_take {rs : List (Int × Int)} {i : Nat} {r : Int × Int} (h : rs[i]? = some r) (hg : C.good (rs.take i) = true) (h1 : 0 ≤ r.1) (h2 : r.2 ≤ 1114111) (h3 : r.1 ≤ r.2) : C.good (rs.take (i + 1)) = true := by
  unfold C.good at *
  rw [List.take_add_one, h, List.all_append, hg]
  simp [h1, h2, h3]

end Go.Proofs.Ytamcpdggpdaioaa

/- The law's ranges: Few, Right, Own, Set, by walking their texts. -/
namespace Go.Proofs.Ytamcpdggpdaioaa
open Go.RowKit
set_option linter.unusedSimpArgs false
set_option linter.unusedVariables false

def RetPairs (k : IntKind) (t : TypeId) (rs : List (Int × Int)) (w : World) (e : Ending) (w' : World) : Prop :=
  ∃ A c, e = .returned (.slice A rs.length c) ∧ w'.ownsRow w.heap.size t 2 (.slice A rs.length c) rs.length (C.fl k rs) ∧ Below w.heap.size w w'

theorem C.fl_take (k : IntKind) : ∀ (rs : List (Int × Int)) (m : Nat), (C.fl k rs).take (2 * m) = C.fl k (rs.take m)
  | [], m => by simp [C.fl]
  | (x, y) :: t, 0 => rfl
  | (x, y) :: t, m + 1 => by
    rw [show 2 * (m + 1) = 2 * m + 1 + 1 by omega]
    show _ :: _ :: (C.fl k t).take (2 * m) = _
    rw [C.fl_take k t m]; rfl
theorem Sl.take {w : World} {B : Nat} {A : Option Addr} {xs : List Value} (h : Sl w B A xs) (m : Nat) : Sl w B A (xs.take m) := by
  intro hx
  rw [List.length_take] at hx
  obtain ⟨b, o, hA, hb, hc⟩ := h (by omega)
  refine ⟨b, o, hA, hb, fun i hi => ?_⟩
  rw [List.length_take] at hi
  rw [hc i (by omega), List.getElem?_take, if_pos (by omega)]
theorem C.fl_one (k : IntKind) : ∀ rs, ∀ u ∈ C.fl k rs, u.oneCell' = true
  | [], u, h => by cases h
  | (x, y) :: t, u, h => by
    rcases List.mem_cons.1 h with rfl | h
    · rfl
    · rcases List.mem_cons.1 h with rfl | h
      · rfl
      · exact C.fl_one k t u h

end Go.Proofs.Ytamcpdggpdaioaa
