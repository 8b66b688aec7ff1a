/- The layer cpset: Or, And, Less, by walking their texts. -/
import Derived.Test.YtkmfegamblmpeaaGreatDoorCpMerge
import Derived.Test.YtkmfegamblmpeaaGreatDoorMap
import Derived.Deep.RegionHeld3
import Derived.Deep.AppendLies
import Derived.Test.YtkmfegamblmpeaaGreatDoorLib3
namespace Go.Proofs.YtkmfegamblmpeaaGreatDoor
open Go.RowKit
set_option linter.unusedSimpArgs false
set_option linter.unusedVariables false


theorem C.enter' {P : Program} {f : FuncId} {fn : Func} (hf : P.funcs[f]? = some fn) (hname : (fn.name == "runtime.NumGoroutine") = false) (hb : fn.body.isNone = false) (args : Array Value) (w : World) :
    (callFunc f args).run P w = .ok (.enter f args) w := by
  rcases h : fn.body with _ | c
  · rw [h] at hb; cases hb
  · exact C.enter hf hname h args w

def C.orF : Bool → Bool → Bool := fun x y => x || y
set_option maxRecDepth 100000 in
theorem C.or_fn (x y : Bool) (w : World) : Calls Tryz.prog 74 #[.bool x, .bool y] w fun e w' => e = .returned (.bool (C.orF x y)) ∧ w = w' := by
  go_enter Tryz.func74, Tryz.ntmps74
  cases x <;> cases y <;> (go_wp2; go_ret; exact ⟨rfl, rfl⟩)

set_option maxRecDepth 100000 in
set_option maxHeartbeats 1000000 in
theorem C.or_any (A A' : Option Addr) (c c' n m B : Nat) (a b : List Int) (w : World) (hn : a.length = n) (hm : b.length = m) (hn' : n ≤ 1000000) (hm' : m ≤ 1000000) (ha : C.srt a) (hb : C.srt b) (hB : B ≤ w.heap.size)
    (hA : Sl w B A (a.map (Value.int .i32))) (hA' : Sl w B A' (b.map (Value.int .i32))) :
    Calls Tryz.prog 45 #[.agg #[.slice A n c], .agg #[.slice A' m c']] w (RetSet (C.mrg C.orF a b) w) := by
  have HM := Lib.hid (C.merge_any 74 C.orF (fun args w => C.enter' Tryz.func74 (by kernel_rfl) (by kernel_rfl) args w) C.or_fn A A' c c' n m B a b)
  have HN := Lib.hid hn
  have HMM := Lib.hid hm
  have HSA := Lib.hid ha
  have HSB := Lib.hid hb
  clear hn hm ha hb
  go_enter Tryz.func45, Tryz.ntmps45
  go_wp2_with fail
  have hal : Below w.heap.size w (((w.alloc (.cells #[.slice A n c] 41)).alloc (.cells #[.slice A' m c'] 41)).alloc (.cells #[.slice none 0 0] 41)) := (((Below.refl _ _).alloc (Nat.le_refl _) _).alloc (by simp <;> omega) _).alloc (by simp <;> omega) _
  refine (HM.out _ HN.out HMM.out hn' hm' HSA.out HSB.out (by simp; omega) (hA.belowN hal hB (Nat.le_refl _)) (hA'.belowN hal hB (Nat.le_refl _))).mono ?_
  rintro e w1 ⟨A5, c5, rfl, hown, hbel⟩
  have hblk : w1.heap[w.heap.size + 2]? = some (.cells #[.slice none 0 0] 41 (0, 0)) := by
    rw [hbel.block (w.heap.size + 2) (by simp <;> omega)]
    have h := heap_alloc_new ((w.alloc (.cells #[.slice A n c] 41)).alloc (.cells #[.slice A' m c'] 41)) (.cells #[.slice none 0 0] 41)
    rw [show ((w.alloc (.cells #[.slice A n c] 41)).alloc (.cells #[.slice A' m c'] 41)).heap.size = w.heap.size + 2 by simp] at h
    exact h
  obtain ⟨hrc, hrf⟩ := blk_cell hblk 0
  have HBLK := Lib.hid hblk
  clear hblk
  simp only [List.getElem?_toArray, List.getElem?_cons_zero] at hrc
  go_wp2
  have hb2 := set_cell (v := .slice A5 (C.mrg C.orF a b).length c5) HBLK.out
  refine bodyPost_ret (results_cell_row rfl _ _ (w.heap.size + 2) _ _ _ _ rfl hb2 Tryz.underlying41 rfl (by kernel_rfl)) rfl ?_
  refine ⟨A5, c5, rfl, ?_, (hal.trans (hbel.mono (by simp <;> omega))).setCell (by simp <;> omega) _⟩
  exact own_base (ownsRow_setCell_below hown (by simp <;> omega) _) (by simp <;> omega)

def C.andF : Bool → Bool → Bool := fun x y => x && y
set_option maxRecDepth 100000 in
theorem C.and_fn (x y : Bool) (w : World) : Calls Tryz.prog 97 #[.bool x, .bool y] w fun e w' => e = .returned (.bool (C.andF x y)) ∧ w = w' := by
  go_enter Tryz.func97, Tryz.ntmps97
  cases x <;> cases y <;> (go_wp2; go_ret; exact ⟨rfl, rfl⟩)

set_option maxRecDepth 100000 in
set_option maxHeartbeats 1000000 in
theorem C.and_any (A A' : Option Addr) (c c' n m B : Nat) (a b : List Int) (w : World) (hn : a.length = n) (hm : b.length = m) (hn' : n ≤ 1000000) (hm' : m ≤ 1000000) (ha : C.srt a) (hb : C.srt b) (hB : B ≤ w.heap.size)
    (hA : Sl w B A (a.map (Value.int .i32))) (hA' : Sl w B A' (b.map (Value.int .i32))) :
    Calls Tryz.prog 71 #[.agg #[.slice A n c], .agg #[.slice A' m c']] w (RetSet (C.mrg C.andF a b) w) := by
  have HM := Lib.hid (C.merge_any 97 C.andF (fun args w => C.enter' Tryz.func97 (by kernel_rfl) (by kernel_rfl) args w) C.and_fn A A' c c' n m B a b)
  have HN := Lib.hid hn
  have HMM := Lib.hid hm
  have HSA := Lib.hid ha
  have HSB := Lib.hid hb
  clear hn hm ha hb
  go_enter Tryz.func71, Tryz.ntmps71
  go_wp2_with fail
  have hal : Below w.heap.size w (((w.alloc (.cells #[.slice A n c] 41)).alloc (.cells #[.slice A' m c'] 41)).alloc (.cells #[.slice none 0 0] 41)) := (((Below.refl _ _).alloc (Nat.le_refl _) _).alloc (by simp <;> omega) _).alloc (by simp <;> omega) _
  refine (HM.out _ HN.out HMM.out hn' hm' HSA.out HSB.out (by simp; omega) (hA.belowN hal hB (Nat.le_refl _)) (hA'.belowN hal hB (Nat.le_refl _))).mono ?_
  rintro e w1 ⟨A5, c5, rfl, hown, hbel⟩
  have hblk : w1.heap[w.heap.size + 2]? = some (.cells #[.slice none 0 0] 41 (0, 0)) := by
    rw [hbel.block (w.heap.size + 2) (by simp <;> omega)]
    have h := heap_alloc_new ((w.alloc (.cells #[.slice A n c] 41)).alloc (.cells #[.slice A' m c'] 41)) (.cells #[.slice none 0 0] 41)
    rw [show ((w.alloc (.cells #[.slice A n c] 41)).alloc (.cells #[.slice A' m c'] 41)).heap.size = w.heap.size + 2 by simp] at h
    exact h
  obtain ⟨hrc, hrf⟩ := blk_cell hblk 0
  have HBLK := Lib.hid hblk
  clear hblk
  simp only [List.getElem?_toArray, List.getElem?_cons_zero] at hrc
  go_wp2
  have hb2 := set_cell (v := .slice A5 (C.mrg C.andF a b).length c5) HBLK.out
  refine bodyPost_ret (results_cell_row rfl _ _ (w.heap.size + 2) _ _ _ _ rfl hb2 Tryz.underlying41 rfl (by kernel_rfl)) rfl ?_
  refine ⟨A5, c5, rfl, ?_, (hal.trans (hbel.mono (by simp <;> omega))).setCell (by simp <;> omega) _⟩
  exact own_base (ownsRow_setCell_below hown (by simp <;> omega) _) (by simp <;> omega)

end Go.Proofs.YtkmfegamblmpeaaGreatDoor

/- The layer cpset: Same, Within, All, Not, by walking their texts. -/
namespace Go.Proofs.YtkmfegamblmpeaaGreatDoor
open Go.RowKit
set_option linter.unusedSimpArgs false
set_option linter.unusedVariables false

end Go.Proofs.YtkmfegamblmpeaaGreatDoor

/- The layer cpset: Ranges, by walking its text. -/
namespace Go.Proofs.YtkmfegamblmpeaaGreatDoor
open Go.RowKit
set_option linter.unusedSimpArgs false
set_option linter.unusedVariables false

/-- Pairs, cell by cell. -/
def C.fl (k : IntKind) : List (Int × Int) → List Value
  | [] => []
  | (x, y) :: t => .int k x :: .int k y :: C.fl k t
theorem C.fl_len (k : IntKind) : ∀ rs, (C.fl k rs).length = 2 * rs.length
  | [] => rfl
  | (x, y) :: t => by show (C.fl k t).length + 1 + 1 = 2 * (t.length + 1); rw [C.fl_len k t]; omega
theorem C.fl_get (k : IntKind) : ∀ (rs : List (Int × Int)) (i : Nat) (r : Int × Int), rs[i]? = some r → (C.fl k rs)[2 * i]? = some (.int k r.1) ∧ (C.fl k rs)[2 * i + 1]? = some (.int k r.2)
  | [], i, r, h => by simp at h
  | (x, y) :: t, 0, r, h => by simp at h; subst h; exact ⟨rfl, rfl⟩
  | (x, y) :: t, i + 1, r, h => by
    have := C.fl_get k t i r (by simpa using h)
    rw [show 2 * (i + 1) = 2 * i + 1 + 1 by omega]
    exact this

theorem own_ne {w : World} {base : Nat} {e : TypeId} {size n : Nat} {v : Value} {xs : List Value} (h : w.ownsRow base e size v n xs) (g : Nat) (hg : g < base) : v.ownBlock ≠ some g := fun hk => by have := (h.lt _ hk).1; omega

end Go.Proofs.YtkmfegamblmpeaaGreatDoor

/- The layer cpset in plain Lean, more: range by range. -/
namespace Go.Proofs.YtkmfegamblmpeaaGreatDoor
set_option linter.unusedSimpArgs false
set_option linter.unusedVariables false

/-- The one of a number. -/
def C.at (l : List Int) (q : Int) : Int × Bool := if q < 0 then (0, false) else C.atK l q
end Go.Proofs.YtkmfegamblmpeaaGreatDoor

/- The layer cpset: Count, Index, At, by walking their texts. -/
namespace Go.Proofs.YtkmfegamblmpeaaGreatDoor
open Go.RowKit
set_option linter.unusedSimpArgs false
set_option linter.unusedVariables false

/-- Element i of a row of pairs. -/
theorem Sl.pair {w : World} {B : Nat} {A : Option Addr} {k : IntKind} {rs : List (Int × Int)} (h : Sl w B A (C.fl k rs)) {i : Nat} {r : Int × Int} (hr : rs[i]? = some r) :
    ∃ b o, A = some ⟨b, o, none⟩ ∧ b < B ∧ w.cell? ⟨b, o + i * 2, none⟩ = some (.int k r.1) ∧ w.cell? ⟨b, o + i * 2 + 1, none⟩ = some (.int k r.2) := by
  have hi : i < rs.length := (List.getElem?_eq_some_iff.1 hr).1
  obtain ⟨b, o, hA, hb, hc⟩ := h (by rw [C.fl_len]; omega)
  obtain ⟨h0, h1⟩ := C.fl_get k rs i r hr
  refine ⟨b, o, hA, hb, ?_, ?_⟩
  · rw [Nat.mul_comm, hc _ (by rw [C.fl_len]; omega), h0]
  · rw [Nat.mul_comm, Nat.add_assoc, hc _ (by rw [C.fl_len]; omega), h1]

end Go.Proofs.YtkmfegamblmpeaaGreatDoor

/- The layer cpset: All, Not, Of, by walking their texts. -/
namespace Go.Proofs.YtkmfegamblmpeaaGreatDoor
open Go.RowKit
set_option linter.unusedSimpArgs false
set_option linter.unusedVariables false

set_option maxRecDepth 100000 in
set_option maxHeartbeats 1000000 in
theorem C.all_any (w : World) : Calls Tryz.prog 72 #[] w (RetSet C.all w) := by
  go_enter Tryz.func72, Tryz.ntmps72
  go_wp2
  have hb2 : ((w.alloc (.cells #[.slice (some ⟨w.heap.size + 1, 0, none⟩) 4 4] 41)).alloc (.cells #[.int .i32 0, .int .i32 55296, .int .i32 57344, .int .i32 1114112] 21)).heap[w.heap.size]? = some (.cells #[.slice (some ⟨w.heap.size + 1, 0, none⟩) 4 4] 41 (0, 0)) := by
    have h := Below.refl (w.heap.size + 1) (w.alloc (.cells #[.slice (some ⟨w.heap.size + 1, 0, none⟩) 4 4] 41))
    exact (ret_blk (h.alloc (by simp) _)).1
  refine bodyPost_ret (results_cell_row rfl _ _ w.heap.size _ _ _ _ rfl hb2 Tryz.underlying41 rfl (by kernel_rfl)) rfl ?_
  refine ⟨some ⟨w.heap.size + 1, 0, none⟩, 4, rfl, ?_, ((Below.refl _ _).alloc (Nat.le_refl _) _).alloc (by simp) _⟩
  have h := heap_alloc_new (w.alloc (.cells #[.slice (some ⟨w.heap.size + 1, 0, none⟩) 4 4] 41)) (.cells #[.int .i32 0, .int .i32 55296, .int .i32 57344, .int .i32 1114112] 21)
  rw [show (w.alloc (.cells #[.slice (some ⟨w.heap.size + 1, 0, none⟩) 4 4] 41)).heap.size = w.heap.size + 1 by simp] at h
  exact ⟨rfl, .inr ⟨w.heap.size + 1, 4, _, rfl, by omega, h, Nat.le_refl _, by decide, rfl, rfl⟩⟩

theorem results_cell_row2 {P : Program} {fn : Func} {p u : Tmp} {ty : TypeId} (h : fn.results = #[.cell p ty, .tmp u]) (tmps : Array Value) (w : World) (g : Nat) (t : TypeId) (cs : Array Value) (fr : Nat × Nat) (d : TypeDesc)
    (hp : tmps.getD p undef = .pointer (some ⟨g, 0, none⟩)) (hg : w.heap[g]? = some (.cells cs t fr))
    (hu : P.underlying ty = some d) (hd : (match d with | .struct _ | .array _ _ => true | _ => false) = true) (hi : (P.info? ty).map (·.size) = some cs.size) :
    (results fn tmps).run P w = .ok (.tuple #[.agg cs, tmps.getD u undef]) w := by
  have hp' : tmps[p]?.getD undef = .pointer (some ⟨g, 0, none⟩) := by simpa using hp
  simp [results, h, hp', asAddr, run_loadVar_row w g t ty cs fr d hg hu hd hi]

/-- May ranges be? -/
def C.good (rs : List (Int × Int)) : Bool := rs.all fun r => decide (0 ≤ r.1) && decide (r.2 ≤ 1114111) && decide (r.1 ≤ r.2)
/-- Of ranges, one behind the other. -/
def C.ofL (rs : List (Int × Int)) : List Int := rs.foldl (fun acc r => C.mrg C.orF acc [r.1, r.2 + 1]) []
def C.ofS (rs : List (Int × Int)) : List Int := C.mrg C.andF (C.ofL rs) C.all
theorem C.ofL_succ {rs : List (Int × Int)} {i : Nat} {r : Int × Int} (h : rs[i]? = some r) : C.ofL (rs.take (i + 1)) = C.mrg C.orF (C.ofL (rs.take i)) [r.1, r.2 + 1] := by
  unfold C.ofL
  rw [List.take_add_one, h]
  simp [List.foldl_append]
theorem C.ofL_ok : ∀ (rs : List (Int × Int)), C.good rs = true → C.ok (C.ofL rs) ∧ (C.ofL rs).length ≤ 2 * rs.length := by
  intro rs h
  unfold C.ofL
  have : ∀ (rs : List (Int × Int)) (acc : List Int), C.good rs = true → C.ok acc → C.ok (rs.foldl (fun acc r => C.mrg C.orF acc [r.1, r.2 + 1]) acc) ∧ (rs.foldl (fun acc r => C.mrg C.orF acc [r.1, r.2 + 1]) acc).length ≤ acc.length + 2 * rs.length := by
    intro rs
    induction rs with
    | nil => intro acc _ h; exact ⟨h, by simp⟩
    | cons r t ih =>
      intro acc hg ha
      simp only [C.good, List.all_cons, Bool.and_eq_true, decide_eq_true_eq] at hg
      obtain ⟨⟨⟨h1, h2⟩, h3⟩, h4⟩ := hg
      have hm := C.mrg_ok C.orF rfl ha (C.one_ok r.1 r.2 h1 h3 h2)
      have hl := C.mrg_len C.orF acc [r.1, r.2 + 1]
      obtain ⟨i1, i2⟩ := ih _ h4 hm
      refine ⟨i1, Nat.le_trans i2 ?_⟩
      simp at hl ⊢
      omega
  obtain ⟨h1, h2⟩ := this rs [] h C.nil_ok
  exact ⟨h1, by simpa using h2⟩

def RetOf (rs : List (Int × Int)) (w : World) (e : Ending) (w' : World) : Prop :=
  (C.good rs = true → ∃ A c, e = .returned (.tuple #[.agg #[.slice A (C.ofS rs).length c], .int .i64 0]) ∧ w'.ownsRow w.heap.size 21 1 (.slice A (C.ofS rs).length c) (C.ofS rs).length ((C.ofS rs).map (Value.int .i32)) ∧ Below w.heap.size w w') ∧
  (C.good rs = false → e = .returned (.tuple #[.agg #[.slice none 0 0], .int .i64 1]) ∧ Below w.heap.size w w')

theorem C.good_get {rs : List (Int × Int)} {i : Nat} {r : Int × Int} (h : rs[i]? = some r) (hb : r.1 < 0 ∨ 1114111 < r.2 ∨ r.2 < r.1) : C.good rs = false := by
  refine Bool.eq_false_iff.2 fun hg => ?_
  have := List.all_eq_true.1 hg r (List.mem_of_getElem? h)
  simp at this
  omega
theorem C.good_take {rs : List (Int × Int)} {i : Nat} {r : Int × Int} (h : rs[i]? = some r) (hg : C.good (rs.take i) = true) (h1 : 0 ≤ r.1) (h2 : r.2 ≤ 1114111) (h3 : r.1 ≤ r.2) : C.good (rs.take (i + 1)) = true := by
  unfold C.good at *
  rw [List.take_add_one, h, List.all_append, hg]
  simp [h1, h2, h3]

set_option maxRecDepth 100000 in
set_option maxHeartbeats 2000000 in
theorem C.of_any (A : Option Addr) (c m B : Nat) (rs : List (Int × Int)) (w : World) (hm : rs.length = m) (hm' : m ≤ 400000) (hbd : ∀ r ∈ rs, (-2147483648 ≤ r.1 ∧ r.1 ≤ 2147483647) ∧ -2147483648 ≤ r.2 ∧ r.2 ≤ 2147483647) (hB : B ≤ w.heap.size) (hA : Sl w B A (C.fl .i32 rs)) :
    Calls Tryz.prog 44 #[.slice A m c] w (RetOf rs w) := by
  have HM := Lib.hid hm
  have HBD := Lib.hid hbd
  clear hm hbd
  go_enter Tryz.func44, Tryz.ntmps44
  go_wp2
  go_loopw [9] (fun vi wr => ∃ (i : Nat) (A5 : Option Addr) (c5 : Nat) (acc : List Int), i ≤ m ∧ vi = .int .i64 i ∧ acc = C.ofL (rs.take i) ∧ C.good (rs.take i) = true ∧
      wr.heap[w.heap.size]? = some (.cells #[.slice none 0 0] 41 (0, 0)) ∧ wr.heap[w.heap.size + 1]? = some (.cells #[.slice A5 acc.length c5] 41 (0, 0)) ∧
      wr.ownsRow (w.heap.size + 2) 21 1 (.slice A5 acc.length c5) acc.length (acc.map (Value.int .i32)) ∧ w.heap.size + 2 ≤ wr.heap.size ∧ Below w.heap.size w wr) (fun vi _ => m - (intOf vi).toNat)
  case atStart =>
    refine ⟨0, none, 0, [], by omega, rfl, rfl, rfl, ?_, ?_, World.ownsRow_nil _ _ _ _, by simp, ((Below.refl _ _).alloc (Nat.le_refl _) _).alloc (by simp) _⟩
    · have h := Below.refl (w.heap.size + 1) (w.alloc (.cells #[.slice none 0 0] 41))
      exact (ret_blk (h.alloc (by simp) _)).1
    · have h := heap_alloc_new (w.alloc (.cells #[.slice none 0 0] 41)) (.cells #[.slice none 0 0] 41)
      rwa [show (w.alloc (.cells #[.slice none 0 0] 41)).heap.size = w.heap.size + 1 by simp] at h
  case round =>
    obtain ⟨i, A5, c5, acc, hi, rfl, hacc, hgood, hk0, hk1, hown, hsz, hbel⟩ := hrel
    have HACC := Lib.hid hacc
    have HGOOD := Lib.hid hgood
    have HK0 := Lib.hid hk0
    have HK1 := Lib.hid hk1
    clear hacc hgood
    obtain ⟨d1, d2⟩ := blk_cell hk0 0
    obtain ⟨d3, d4⟩ := blk_cell hk1 0
    simp only [List.getElem?_toArray, List.getElem?_cons_zero] at d1 d3
    clear hk0 hk1
    have ne1 : wr.heap.size ≠ w.heap.size := by omega
    have ne2 : wr.heap.size ≠ w.heap.size + 1 := by omega
    have ne3 : w.heap.size ≠ wr.heap.size := by omega
    have ne4 : w.heap.size + 1 ≠ wr.heap.size := by omega
    by_cases hlt : (i : Int) < m
    · obtain ⟨r, hr⟩ : ∃ r, rs[i]? = some r := ⟨_, List.getElem?_eq_getElem (by rw [HM.out]; omega)⟩
      obtain ⟨b, o, rfl, hlb, hc0, hc1⟩ := hA.pair hr
      rw [← (bcell hbel).1 _ _ (by omega)] at hc0 hc1
      obtain ⟨⟨r1, r2⟩, r3, r4⟩ := HBD.out r (List.mem_of_getElem? hr)
      have HR := Lib.hid hr
      have hn0 : (0 : Int) ≤ (i : Int) := by omega
      clear hr
      have hba : Below wr.heap.size wr (wr.alloc (.cells #[.int .i32 r.1, .int .i32 r.2] 91)) := (Below.refl _ _).alloc (Nat.le_refl _) _
      have f1 := ((bcell hba).1 w.heap.size 0 (by omega)).trans d1
      have f2 := ((bcell hba).2 w.heap.size 0 (by omega)).trans d2
      have hsz2 : w.heap.size + 2 ≤ wr.heap.size := hsz
      by_cases t1 : r.1 < 0
      · have hbad := Lib.hid (C.good_get HR.out (.inl t1))
        have t1d : decide (r.1 < 0) = true := decide_eq_true t1
        go_wp2
        have hb2 := set_cell (v := .slice none 0 0) ((hba.block w.heap.size (by omega)).trans HK0.out)
        refine bodyPost_ret (results_cell_row2 rfl _ _ w.heap.size _ _ _ _ rfl hb2 Tryz.underlying41 rfl (by kernel_rfl)) rfl ⟨fun h => ?_, fun _ => ⟨rfl, ?_⟩⟩
        · rw [hbad.out] at h; cases h
        · exact (hbel.trans (hba.mono (by omega))).setCell (by simp) _
      · have t1d : decide (r.1 < 0) = false := decide_eq_false t1
        by_cases t2 : 1114111 < r.2
        · have hbad := Lib.hid (C.good_get HR.out (.inr (.inl t2)))
          have t2d : decide (1114111 < r.2) = true := decide_eq_true t2
          go_wp2
          have hb2 := set_cell (v := .slice none 0 0) ((hba.block w.heap.size (by omega)).trans HK0.out)
          refine bodyPost_ret (results_cell_row2 rfl _ _ w.heap.size _ _ _ _ rfl hb2 Tryz.underlying41 rfl (by kernel_rfl)) rfl ⟨fun h => ?_, fun _ => ⟨rfl, ?_⟩⟩
          · rw [hbad.out] at h; cases h
          · exact (hbel.trans (hba.mono (by omega))).setCell (by simp) _
        · have t2d : decide (1114111 < r.2) = false := decide_eq_false t2
          by_cases t3 : r.2 < r.1
          · have hbad := Lib.hid (C.good_get HR.out (.inr (.inr t3)))
            have t3d : decide (r.2 < r.1) = true := decide_eq_true t3
            go_wp2
            have hb2 := set_cell (v := .slice none 0 0) ((hba.block w.heap.size (by omega)).trans HK0.out)
            refine bodyPost_ret (results_cell_row2 rfl _ _ w.heap.size _ _ _ _ rfl hb2 Tryz.underlying41 rfl (by kernel_rfl)) rfl ⟨fun h => ?_, fun _ => ⟨rfl, ?_⟩⟩
            · rw [hbad.out] at h; cases h
            · exact (hbel.trans (hba.mono (by omega))).setCell (by simp) _
          · have t3d : decide (r.2 < r.1) = false := decide_eq_false t3
            have f3 := ((bcell hba).1 (w.heap.size + 1) 0 (by omega)).trans d3
            have f4 := ((bcell hba).2 (w.heap.size + 1) 0 (by omega)).trans d4
            have hsl := HACC.out
            have hok := C.ofL_ok _ HGOOD.out
            rw [← hsl] at hok
            obtain ⟨hok1, hok2⟩ := hok
            have hlen : acc.length ≤ 1000000 := by rw [List.length_take, HM.out] at hok2; omega
            have hone := C.one_ok r.1 r.2 (by omega) (by omega) (by omega)
            have hg2 := Lib.hid (C.good_take HR.out HGOOD.out (by omega) (by omega) (by omega))
            have hof := Lib.hid (C.ofL_succ HR.out)
            have hbb : Below wr.heap.size wr ((wr.alloc (.cells #[.int .i32 r.1, .int .i32 r.2] 91)).alloc (.cells #[.int .i32 r.1, .int .i32 (r.2 + 1)] 21)) := hba.alloc (by simp) _
            have hSa := Lib.hid ((Sl.of_own hown).belowN hbb (Nat.le_refl _) hbb.size)
            have hSb := Lib.hid (Sl.lit (w := (wr.alloc (.cells #[.int .i32 r.1, .int .i32 r.2] 91)).alloc (.cells #[.int .i32 r.1, .int .i32 (r.2 + 1)] 21)) (A := some ⟨wr.heap.size + 1, 0, none⟩) (xs := [r.1, r.2 + 1].map (Value.int .i32)) rfl 21 (0, 0) (by
              have h := heap_alloc_new (wr.alloc (.cells #[.int .i32 r.1, .int .i32 r.2] 91)) (.cells #[.int .i32 r.1, .int .i32 (r.2 + 1)] 21)
              rwa [show (wr.alloc (.cells #[.int .i32 r.1, .int .i32 r.2] 91)).heap.size = wr.heap.size + 1 by simp] at h))
            have HOK := Lib.hid hok1
            have HONE := Lib.hid hone
            clear hsl hok1 hok2 hone
            go_wp2_with fail
            refine (C.or_any A5 (some ⟨wr.heap.size + 1, 0, none⟩) c5 2 acc.length 2 _ acc [r.1, r.2 + 1] _ rfl rfl hlen (by decide) HOK.out.1 HONE.out.1 (Nat.le_refl _) hSa.out hSb.out).mono ?_
            rintro e w3 ⟨A6, c6, rfl, hown6, hb6⟩
            have hb3 := hbb.trans (hb6.mono hbb.size)
            have g0 := (hb3.block w.heap.size (by omega)).trans HK0.out
            have g1 := (hb3.block (w.heap.size + 1) (by omega)).trans HK1.out
            obtain ⟨d5, d6⟩ := blk_cell g1 0
            simp only [List.getElem?_toArray, List.getElem?_cons_zero] at d5
            have G0 := Lib.hid g0
            have G1 := Lib.hid g1
            have hs3 : wr.heap.size ≤ w3.heap.size := hb3.size
            clear g0 g1
            go_wp2
            refine ⟨⟨i + 1, A6, c6, C.mrg C.orF acc [r.1, r.2 + 1], by omega, by go_num, ?_, hg2.out, ?_, set_cell G1.out, ?_, ?_, ?_⟩, by simp [intOf]; omega⟩
            · rw [hof.out, ← HACC.out]
            · rw [← G0.out]
              exact Below.heap_setCell _ _ _ _ (by show w.heap.size ≠ w.heap.size + 1; omega)
            · exact own_base (ownsRow_setCell_below hown6 (by show w.heap.size + 1 < _; simp; omega) _) (by simp; omega)
            · simpa [World.setCell] using by omega
            · exact (hbel.trans (hb3.mono (by omega))).setCell (by show w.heap.size ≤ w.heap.size + 1; omega) _
    · obtain rfl : i = m := by omega
      have hfull : rs.take i = rs := List.take_of_length_le (by rw [HM.out]; omega)
      have hgd : C.good rs = true := by rw [← hfull]; exact HGOOD.out
      have hac : acc = C.ofL rs := by rw [← hfull]; exact HACC.out
      obtain ⟨hok1, hok2⟩ := C.ofL_ok _ hgd
      rw [← hac] at hok1 hok2
      have hlen : acc.length ≤ 1000000 := by rw [HM.out] at hok2; omega
      have HAC := Lib.hid hac
      have HGD := Lib.hid hgd
      have HOK := Lib.hid hok1
      have hS := Lib.hid (Sl.of_own hown)
      clear hfull hgd hac hok1 hok2
      go_wp2_with fail
      go_region_held3 (fun w' => w'.cell? ⟨w.heap.size + 1, 0, none⟩ = some (.slice A5 acc.length c5)) (first
          | go_keep
          | (rw [(bcell hb1).1 _ _ (by simp <;> omega)]; assumption)
          | (rw [(bcell hb2).1 _ _ (by have := hb1.size; simp at this; omega)]; assumption))
        (first | (go_at_call 72; refine (C.all_any _).mono ?_; rintro e w1 ⟨A1, c1, rfl, hown1, hb1⟩) | (go_at_call 71; refine (C.and_any A5 A1 c5 c1 acc.length C.all.length w1.heap.size acc C.all _ rfl rfl hlen (by decide) HOK.out.1 C.all_ok.1 (Nat.le_refl _) ((show Sl wr.drew wr.heap.size A5 (acc.map (Value.int .i32)) from hS.out).belowN hb1 (by simp) (by have := hb1.size; simpa using this)) (Sl.of_own hown1)).mono ?_; rintro e w2 ⟨A2, c2, rfl, hown2, hb2⟩; have q1 := ((bcell (hb1.trans (hb2.mono hb1.size))).1 w.heap.size 0 (by simp <;> omega)).trans d1; have q2 := ((bcell (hb1.trans (hb2.mono hb1.size))).2 w.heap.size 0 (by simp <;> omega)).trans d2))
      have hs1 : wr.heap.size ≤ w1.heap.size := by have := hb1.size; simpa using this
      have hb12 := hb1.trans (hb2.mono hb1.size)
      have hblk2 : w2.heap[w.heap.size]? = some (.cells #[.slice none 0 0] 41 (0, 0)) := (hb12.block w.heap.size (by simp <;> omega)).trans HK0.out
      have HB2 := Lib.hid hblk2
      clear hblk2 q1 q2
      go_wp2
      have hb3 := set_cell (v := .slice A2 (C.mrg C.andF acc C.all).length c2) HB2.out
      refine bodyPost_ret (results_cell_row2 rfl _ _ w.heap.size _ _ _ _ rfl hb3 Tryz.underlying41 rfl (by kernel_rfl)) rfl ⟨fun _ => ?_, fun h => by rw [HGD.out] at h; cases h⟩
      have he : C.ofS rs = C.mrg C.andF acc C.all := by unfold C.ofS; rw [← HAC.out]
      rw [he]
      refine ⟨A2, c2, rfl, ?_, (hbel.drew.trans (hb12.mono (by simp <;> omega))).setCell (by simp) _⟩
      exact own_base (ownsRow_setCell_below hown2 (by show w.heap.size < _; omega) _) (by omega)
end Go.Proofs.YtkmfegamblmpeaaGreatDoor

/- The law's ranges: Few, Right, Own, Set, by walking their texts. -/
namespace Go.Proofs.YtkmfegamblmpeaaGreatDoor
open Go.RowKit
set_option linter.unusedSimpArgs false
set_option linter.unusedVariables false

theorem Sl.take {w : World} {B : Nat} {A : Option Addr} {xs : List Value} (h : Sl w B A xs) (m : Nat) : Sl w B A (xs.take m) := by
  intro hx
  rw [List.length_take] at hx
  obtain ⟨b, o, hA, hb, hc⟩ := h (by omega)
  refine ⟨b, o, hA, hb, fun i hi => ?_⟩
  rw [List.length_take] at hi
  rw [hc i (by omega), List.getElem?_take, if_pos (by omega)]
end Go.Proofs.YtkmfegamblmpeaaGreatDoor

/- The layer cpset in plain Lean: what a set of ranges has. -/
namespace Go.Proofs.YtkmfegamblmpeaaGreatDoor
set_option linter.unusedSimpArgs false
set_option linter.unusedVariables false
set_option linter.unusedSectionVars false

section
variable {S : List Int} (hS : C.ok S) (hC : ∀ c, C.mem S c = true → C.isC c = true) {d : Int} (h0 : 0 ≤ d) (h1 : d ≤ 1114111)
include hS hC h0 h1
end
end Go.Proofs.YtkmfegamblmpeaaGreatDoor

/- The document's Good and Has, by walking their texts. -/
namespace Go.Proofs.YtkmfegamblmpeaaGreatDoor
open Go.RowKit
set_option linter.unusedSimpArgs false
set_option linter.unusedVariables false

end Go.Proofs.YtkmfegamblmpeaaGreatDoor

/- The document's Marks, by walking its text. -/
namespace Go.Proofs.YtkmfegamblmpeaaGreatDoor
open Go.RowKit
set_option linter.unusedSimpArgs false
set_option linter.unusedVariables false

/-- A number put in where it belongs. -/
def C.ins (x : Int) : List Int → List Int
  | [] => [x]
  | y :: t => if x < y then x :: y :: t else if x = y then y :: t else y :: C.ins x t
end Go.Proofs.YtkmfegamblmpeaaGreatDoor

/- The law's Is in plain Lean: ranges made of marks, where a test changes at marks alone. -/
namespace Go.Proofs.YtkmfegamblmpeaaGreatDoor
set_option linter.unusedSimpArgs false
set_option linter.unusedVariables false

theorem C.mem_snoc : ∀ (l : List Int) (x c : Int), C.srt (l ++ [x]) → C.mem (l ++ [x]) c = (C.mem l c ^^ decide (x ≤ c))
  | [], x, c, _ => by simp [C.mem]
  | y :: t, x, c, h => by
    have ih := C.mem_snoc t x c (C.srt_tail h)
    have hyx := C.srt_head h x (by simp)
    rw [List.cons_append, C.mem_cons, ih, C.mem_cons]
    by_cases hy : y ≤ c
    · rw [decide_eq_true hy]
      cases C.mem t c <;> cases decide (x ≤ c) <;> rfl
    · rw [decide_eq_false hy, decide_eq_false (by omega)]; rfl
theorem C.srt_snoc {l : List Int} {x : Int} (h : C.srt l) (hx : ∀ y ∈ l, y < x) : C.srt (l ++ [x]) := by
  unfold C.srt
  rw [List.pairwise_append]
  exact ⟨h, List.pairwise_singleton _ _, fun a ha b hb => by simp at hb; subst hb; exact hx a ha⟩

/-- From a mark to the next one. -/
def C.step (p : Int → Bool) (acc : List Int) (a b : Int) : List Int :=
  if p a = true then (if acc.getLast? = some a then acc.dropLast ++ [b] else acc ++ [a, b]) else acc
/-- What is known ahead of mark a. -/
def C.upto (p : Int → Bool) (acc : List Int) (a : Int) : Prop :=
  C.srt acc ∧ acc.length % 2 = 0 ∧ (∀ x ∈ acc, x ≤ a) ∧ ∀ c, C.mem acc c = (p c && decide (c < a))
theorem C.upto_step {p : Int → Bool} {acc : List Int} {a b : Int} (h : C.upto p acc a) (hab : a < b) (hp : ∀ c, a ≤ c → c < b → p c = p a) : C.upto p (C.step p acc a b) b := by
  obtain ⟨h1, h2, h3, h4⟩ := h
  unfold C.step
  have key : ∀ c, p a = true → ((p c && decide (c < a)) ^^ decide (a ≤ c) ^^ decide (b ≤ c)) = (p c && decide (c < b)) := by
    intro c hpa
    by_cases ha : a ≤ c
    · by_cases hb : b ≤ c
      · rw [decide_eq_true ha, decide_eq_true hb, decide_eq_false (show ¬ c < a by omega), decide_eq_false (show ¬ c < b by omega)]; simp
      · rw [decide_eq_true ha, decide_eq_false hb, decide_eq_false (show ¬ c < a by omega), decide_eq_true (show c < b by omega), hp c ha (by omega), hpa]; rfl
    · rw [decide_eq_false ha, decide_eq_false (show ¬ b ≤ c by omega), decide_eq_true (show c < a by omega), decide_eq_true (show c < b by omega)]; simp
  split
  · rename_i hpa
    split
    · rename_i hl
      obtain ⟨l, rfl⟩ : ∃ l, acc = l ++ [a] := by
        obtain ⟨l, hl'⟩ := List.getLast?_eq_some_iff.1 hl
        exact ⟨l, hl'⟩
      rw [List.dropLast_concat]
      have hsl : C.srt l := (List.pairwise_append.1 h1).1
      have hla : ∀ y ∈ l, y < a := fun y hy => (List.pairwise_append.1 h1).2.2 y hy a (by simp)
      have hs2 := C.srt_snoc hsl (x := b) (fun y hy => by have := hla y hy; omega)
      refine ⟨hs2, by simpa using h2, ?_, ?_⟩
      · intro x hx
        rcases List.mem_append.1 hx with hx | hx
        · have := hla x hx; omega
        · simp at hx; omega
      · intro c
        rw [C.mem_snoc _ _ _ hs2, ← key c hpa, ← h4 c, C.mem_snoc _ _ _ h1]
        cases C.mem l c <;> cases decide (a ≤ c) <;> cases decide (b ≤ c) <;> rfl
    · rename_i hl
      have hla : ∀ y ∈ acc, y < a := by
        intro y hy
        rcases Int.lt_or_le y a with h' | h'
        · exact h'
        · exfalso
          have hya : y = a := by have := h3 y hy; omega
          subst hya
          rcases List.eq_nil_or_concat acc with rfl | ⟨l, z, rfl⟩
          · cases hy
          · rw [List.concat_eq_append] at *
            have hz := h3 z (by simp)
            rcases List.mem_append.1 hy with hy | hy
            · have := (List.pairwise_append.1 h1).2.2 y hy z (by simp); omega
            · simp at hy
              subst hy
              exact hl (by simp)
      have hs1 := C.srt_snoc h1 hla
      have hs2 := C.srt_snoc hs1 (x := b) (fun y hy => by
        rcases List.mem_append.1 hy with hy | hy
        · have := hla y hy; omega
        · simp at hy; omega)
      have e : acc ++ [a, b] = (acc ++ [a]) ++ [b] := by simp
      rw [e]
      refine ⟨hs2, by simp; omega, ?_, ?_⟩
      · intro x hx
        simp at hx
        rcases hx with hx | hx | hx
        · have := hla x hx; omega
        · omega
        · omega
      · intro c
        rw [C.mem_snoc _ _ _ hs2, C.mem_snoc _ _ _ hs1, h4 c, key c hpa]
  · rename_i hpa
    refine ⟨h1, h2, fun x hx => by have := h3 x hx; omega, fun c => ?_⟩
    rw [h4 c]
    by_cases ha : c < a
    · rw [decide_eq_true ha, decide_eq_true (by omega)]
    · by_cases hb : c < b
      · have hf : p a = false := by cases h : p a <;> simp_all
        rw [hp c (by omega) hb, hf]; rfl
      · rw [decide_eq_false ha, decide_eq_false hb]

end Go.Proofs.YtkmfegamblmpeaaGreatDoor
