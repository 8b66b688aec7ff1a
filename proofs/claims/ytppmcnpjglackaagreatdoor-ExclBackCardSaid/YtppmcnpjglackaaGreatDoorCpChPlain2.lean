/- The layer cpset: All, Not, Of, by walking their texts. -/
import Derived.Test.YtppmcnpjglackaaGreatDoorCpSame
import Derived.Test.YtppmcnpjglackaaGreatDoorCpCount
import Derived.Deep.RegionHeld3
import Derived.Lib.SlicesCompact
namespace Go.Proofs.YtppmcnpjglackaaGreatDoor
open Go.RowKit
set_option linter.unusedSimpArgs false
set_option linter.unusedVariables false

theorem results_cell_row2 {P : Program} {fn : Func} {p u : Tmp} {ty : TypeId} (h : fn.results = #[.cell p ty, .tmp u]) (tmps : Array Value) (w : World) (g : Nat) (t : TypeId) (cs : Array Value) (fr : Nat × Nat) (d : TypeDesc)
    (hp : tmps.getD p undef = .pointer (some ⟨g, 0, none⟩)) (hg : w.heap[g]? = some (.cells cs t fr))
    (hu : P.underlying ty = some d) (hd : (match d with | .struct _ | .array _ _ => true | _ => false) = true) (hi : (P.info? ty).map (·.size) = some cs.size) :
    (results fn tmps).run P w = .ok (.tuple #[.agg cs, tmps.getD u undef]) w := by
  have hp' : tmps[p]?.getD undef = .pointer (some ⟨g, 0, none⟩) := by simpa using hp
  simp [results, h, hp', asAddr, run_loadVar_row w g t ty cs fr d hg hu hd hi]

/-- May ranges be? -/
def C.good (rs : List (Int × Int)) : Bool := rs.all fun r => decide (0 ≤ r.1) && decide (r.2 ≤ 1114111) && decide (r.1 ≤ r.2)
/-- Of ranges, one behind the other. -/
def C.ofL (rs : List (Int × Int)) : List Int := rs.foldl (fun acc r => C.mrg C.orF acc [r.1, r.2 + 1]) []
def C.ofS (rs : List (Int × Int)) : List Int := C.mrg C.andF (C.ofL rs) C.all
theorem C.ofL_succ {rs : List (Int × Int)} {i : Nat} {r : Int × Int} (h : rs[i]? = some r) : C.ofL (rs.take (i + 1)) = C.mrg C.orF (C.ofL (rs.take i)) [r.1, r.2 + 1] := by
  unfold C.ofL
  rw [List.take_add_one, h]
  simp [List.foldl_append]
theorem C.ofL_ok : ∀ (rs : List (Int × Int)), C.good rs = true → C.ok (C.ofL rs) ∧ (C.ofL rs).length ≤ 2 * rs.length := by
  intro rs h
  unfold C.ofL
  have : ∀ (rs : List (Int × Int)) (acc : List Int), C.good rs = true → C.ok acc → C.ok (rs.foldl (fun acc r => C.mrg C.orF acc [r.1, r.2 + 1]) acc) ∧ (rs.foldl (fun acc r => C.mrg C.orF acc [r.1, r.2 + 1]) acc).length ≤ acc.length + 2 * rs.length := by
    intro rs
    induction rs with
    | nil => intro acc _ h; exact ⟨h, by simp⟩
    | cons r t ih =>
      intro acc hg ha
      simp only [C.good, List.all_cons, Bool.and_eq_true, decide_eq_true_eq] at hg
      obtain ⟨⟨⟨h1, h2⟩, h3⟩, h4⟩ := hg
      have hm := C.mrg_ok C.orF rfl ha (C.one_ok r.1 r.2 h1 h3 h2)
      have hl := C.mrg_len C.orF acc [r.1, r.2 + 1]
      obtain ⟨i1, i2⟩ := ih _ h4 hm
      refine ⟨i1, Nat.le_trans i2 ?_⟩
      simp at hl ⊢
      omega
  obtain ⟨h1, h2⟩ := this rs [] h C.nil_ok
  exact ⟨h1, by simpa using h2⟩

def RetOf (rs : List (Int × Int)) (w : World) (e : Ending) (w' : World) : Prop :=
  (C.good rs = true → ∃ A c, e = .returned (.tuple #[.agg #[.slice A (C.ofS rs).length c], .int .i64 0]) ∧ w'.ownsRow w.heap.size 21 1 (.slice A (C.ofS rs).length c) (C.ofS rs).length ((C.ofS rs).map (Value.int .i32)) ∧ Below w.heap.size w w') ∧
  (C.good rs = false → e = .returned (.tuple #[.agg #[.slice none 0 0], .int .i64 1]) ∧ Below w.heap.size w w')

theorem C.good_get {rs : List (Int × Int)} {i : Nat} {r : Int × Int} (h : rs[i]? = some r) (hb : r.1 < 0 ∨ 1114111 < r.2 ∨ r.2 < r.1) : C.good rs = false := by
  refine Bool.eq_false_iff.2 fun hg => ?_
  have := List.all_eq_true.1 hg r (List.mem_of_getElem? h)
  simp at this
  omega
theorem C.good_take {rs : List (Int × Int)} {i : Nat} {r : Int × Int} (h : rs[i]? = some r) (hg : C.good (rs.take i) = true) (h1 : 0 ≤ r.1) (h2 : r.2 ≤ 1114111) (h3 : r.1 ≤ r.2) : C.good (rs.take (i + 1)) = true := by
  unfold C.good at *
  rw [List.take_add_one, h, List.all_append, hg]
  simp [h1, h2, h3]

end Go.Proofs.YtppmcnpjglackaaGreatDoor

/- The law's ranges: Few, Right, Own, Set, by walking their texts. -/
namespace Go.Proofs.YtppmcnpjglackaaGreatDoor
open Go.RowKit
set_option linter.unusedSimpArgs false
set_option linter.unusedVariables false

def RetPairs (k : IntKind) (t : TypeId) (rs : List (Int × Int)) (w : World) (e : Ending) (w' : World) : Prop :=
  ∃ A c, e = .returned (.slice A rs.length c) ∧ w'.ownsRow w.heap.size t 2 (.slice A rs.length c) rs.length (C.fl k rs) ∧ Below w.heap.size w w'

theorem C.fl_take (k : IntKind) : ∀ (rs : List (Int × Int)) (m : Nat), (C.fl k rs).take (2 * m) = C.fl k (rs.take m)
  | [], m => by simp [C.fl]
  | (x, y) :: t, 0 => rfl
  | (x, y) :: t, m + 1 => by
    rw [show 2 * (m + 1) = 2 * m + 1 + 1 by omega]
    show _ :: _ :: (C.fl k t).take (2 * m) = _
    rw [C.fl_take k t m]; rfl
theorem Sl.take {w : World} {B : Nat} {A : Option Addr} {xs : List Value} (h : Sl w B A xs) (m : Nat) : Sl w B A (xs.take m) := by
  intro hx
  rw [List.length_take] at hx
  obtain ⟨b, o, hA, hb, hc⟩ := h (by omega)
  refine ⟨b, o, hA, hb, fun i hi => ?_⟩
  rw [List.length_take] at hi
  rw [hc i (by omega), List.getElem?_take, if_pos (by omega)]
theorem C.fl_one (k : IntKind) : ∀ rs, ∀ u ∈ C.fl k rs, u.oneCell' = true
  | [], u, h => by cases h
  | (x, y) :: t, u, h => by
    rcases List.mem_cons.1 h with rfl | h
    · rfl
    · rcases List.mem_cons.1 h with rfl | h
      · rfl
      · exact C.fl_one k t u h

end Go.Proofs.YtppmcnpjglackaaGreatDoor

/- The layer cpset in plain Lean: what a set of ranges has. -/
namespace Go.Proofs.YtppmcnpjglackaaGreatDoor
set_option linter.unusedSimpArgs false
set_option linter.unusedVariables false
set_option linter.unusedSectionVars false

theorem C.ofS_ok' {rs : List (Int × Int)} (h : C.good rs = true) : C.ok (C.ofS rs) := C.mrg_ok C.andF rfl (C.ofL_ok rs h).1 C.all_ok
def C.inR (rs : List (Int × Int)) (c : Int) : Bool := rs.any fun r => decide (r.1 ≤ c ∧ c ≤ r.2)
theorem C.ofL_mem (rs : List (Int × Int)) (h : C.good rs = true) (c : Int) : C.mem (C.ofL rs) c = C.inR rs c := by
  have : ∀ (rs : List (Int × Int)) (acc : List Int), C.good rs = true → C.ok acc → C.mem (rs.foldl (fun acc r => C.mrg C.orF acc [r.1, r.2 + 1]) acc) c = (C.mem acc c || C.inR rs c) := by
    intro rs
    induction rs with
    | nil => intro acc _ _; simp [C.inR]
    | cons r t ih =>
      intro acc hg ha
      simp only [C.good, List.all_cons, Bool.and_eq_true, decide_eq_true_eq] at hg
      obtain ⟨⟨⟨h1, h2⟩, h3⟩, h4⟩ := hg
      have h1o := C.one_ok r.1 r.2 h1 h3 h2
      have hm := C.mrg_ok C.orF rfl ha h1o
      rw [List.foldl_cons, ih _ h4 hm, C.mrg_mem C.orF rfl ha.1 h1o.1, C.one_mem r.1 r.2 c h3]
      show ((C.mem acc c || decide (r.1 ≤ c ∧ c ≤ r.2)) || C.inR t c) = (C.mem acc c || (decide (r.1 ≤ c ∧ c ≤ r.2) || C.inR t c))
      rw [Bool.or_assoc]
  have h2 := this rs [] h C.nil_ok
  rw [show C.mem [] c = false from rfl, Bool.false_or] at h2
  exact h2
theorem C.ofS_mem (rs : List (Int × Int)) (h : C.good rs = true) (c : Int) : C.mem (C.ofS rs) c = (C.inR rs c && C.isC c) := by
  obtain ⟨h1, _⟩ := C.ofL_ok rs h
  unfold C.ofS
  rw [C.mrg_mem C.andF rfl h1.1 C.all_ok.1, C.ofL_mem rs h, C.all_mem]
  rfl
theorem C.rngs_mem : ∀ (l : List Int), C.ok l → ∀ c, C.inR (C.rngs l) c = C.mem l c
  | [], _, c => rfl
  | [x], h, c => by have := h.2.2; simp at this
  | x :: y :: t, h, c => by
    have ih := C.rngs_mem t (C.ok_tail h) c
    have hxy := C.srt_head h.1 y (by simp)
    show (decide (x ≤ c ∧ c ≤ y - 1) || C.inR (C.rngs t) c) = _
    rw [ih, C.mem_cons, C.mem_cons]
    by_cases h1 : x ≤ c
    · by_cases h2 : y ≤ c
      · rw [decide_eq_false (by omega), decide_eq_true h1, decide_eq_true h2]; simp
      · have hm : C.mem t c = false := C.mem_low' (C.srt_tail h.1) (by omega)
        rw [decide_eq_true (show x ≤ c ∧ c ≤ y - 1 by omega), decide_eq_true h1, decide_eq_false h2, hm]; rfl
    · have hm : C.mem t c = false := C.mem_low' (C.srt_tail h.1) (by omega)
      rw [decide_eq_false (by omega), decide_eq_false h1, hm]; rfl
theorem C.rngs_good : ∀ (l : List Int), C.ok l → C.good (C.rngs l) = true := by
  intro l h
  unfold C.good
  rw [List.all_eq_true]
  intro r hr
  obtain ⟨i, hi⟩ := List.getElem?_of_mem hr
  obtain ⟨h1, h2, h3, h4⟩ := C.rng_bd h hi
  simp [h1, h2, h3]
theorem C.inR_reverse (rs : List (Int × Int)) (c : Int) : C.inR rs.reverse c = C.inR rs c := by
  unfold C.inR
  rw [List.any_reverse]
theorem C.good_reverse (rs : List (Int × Int)) : C.good rs.reverse = C.good rs := by
  unfold C.good
  rw [List.all_reverse]
theorem C.ofS_isC {rs : List (Int × Int)} (h : C.good rs = true) {c : Int} (hm : C.mem (C.ofS rs) c = true) : C.isC c = true := by
  rw [C.ofS_mem rs h, Bool.and_eq_true] at hm
  exact hm.2
/-- A set is made again of its ranges, in the other order. -/
theorem C.again {rs : List (Int × Int)} (h : C.good rs = true) : C.ofS (C.rngs (C.ofS rs)).reverse = C.ofS rs := by
  have hok := (C.ofS_ok' h)
  have hg : C.good (C.rngs (C.ofS rs)).reverse = true := by rw [C.good_reverse]; exact C.rngs_good _ hok
  refine C.canon _ _ (C.ofS_ok' hg).1 hok.1 fun c => ?_
  rw [C.ofS_mem _ hg, C.inR_reverse, C.rngs_mem _ hok]
  rcases hm : C.mem (C.ofS rs) c with _ | _
  · rfl
  · rw [C.ofS_isC h hm]; rfl

theorem C.cnt_cut (p q : Int → Bool) (N : Nat) (h : ∀ c : Int, p c = (q c && decide (c < N))) (n : Nat) : C.cnt p n = C.cnt q (min n N) := by
  induction n with
  | zero => rw [Nat.zero_min]; rfl
  | succ n ih =>
    rw [C.cnt_succ, h, ih]
    by_cases hn : n < N
    · rw [decide_eq_true (by omega), Nat.min_eq_left (by omega), Nat.min_eq_left (by omega), C.cnt_succ]
      simp
    · rw [decide_eq_false (by omega), Nat.min_eq_right (by omega), Nat.min_eq_right (by omega)]
      simp

section
variable {S : List Int} (hS : C.ok S) (hC : ∀ c, C.mem S c = true → C.isC c = true) {d : Int} (h0 : 0 ≤ d) (h1 : d ≤ 1114111)
include hS hC h0 h1
theorem C.low_good : C.good [(0, d)] = true := by simp [C.good, h0, h1]
theorem C.low_mem (c : Int) : C.mem (C.ofS [(0, d)]) c = (decide (0 ≤ c ∧ c ≤ d) && C.isC c) := by
  rw [C.ofS_mem _ (C.low_good hS hC h0 h1)]
  simp [C.inR]
theorem C.split_low (c : Int) : C.mem (C.mrg C.andF S (C.ofS [(0, d)])) c = (C.mem S c && decide (c < d + 1)) := by
  have hL := C.ofS_ok' (C.low_good hS hC h0 h1)
  rw [C.mrg_mem C.andF rfl hS.1 hL.1, C.low_mem hS hC h0 h1]
  rcases hm : C.mem S c with _ | _
  · rfl
  · have := hC c hm
    have h2 : 0 ≤ c := by simp [C.isC] at this; omega
    show (true && (decide (0 ≤ c ∧ c ≤ d) && C.isC c)) = (true && decide (c < d + 1))
    rw [this, Bool.and_true, Bool.true_and, Bool.true_and, Bool.eq_iff_iff]
    simp
    omega
theorem C.split_high (c : Int) : C.mem (C.mrg C.lessF S (C.ofS [(0, d)])) c = (C.mem S c && !decide (c < d + 1)) := by
  have hL := C.ofS_ok' (C.low_good hS hC h0 h1)
  rw [C.mrg_mem C.lessF rfl hS.1 hL.1, C.low_mem hS hC h0 h1]
  rcases hm : C.mem S c with _ | _
  · rfl
  · have := hC c hm
    have h2 : 0 ≤ c := by simp [C.isC] at this; omega
    show (true && !(decide (0 ≤ c ∧ c ≤ d) && C.isC c)) = (true && !decide (c < d + 1))
    rw [this, Bool.and_true, Bool.true_and, Bool.true_and, Bool.eq_iff_iff]
    simp
    omega
theorem C.low_ok : C.ok (C.ofS [(0, d)]) := C.ofS_ok' (C.low_good hS hC h0 h1)
theorem C.parts_ok : C.ok (C.mrg C.andF S (C.ofS [(0, d)])) ∧ C.ok (C.mrg C.lessF S (C.ofS [(0, d)])) :=
  ⟨C.mrg_ok _ rfl hS (C.low_ok hS hC h0 h1), C.mrg_ok _ rfl hS (C.low_ok hS hC h0 h1)⟩
theorem C.parts_apart : C.mrg C.andF (C.mrg C.andF S (C.ofS [(0, d)])) (C.mrg C.lessF S (C.ofS [(0, d)])) = [] := by
  obtain ⟨ha, hb⟩ := C.parts_ok hS hC h0 h1
  refine C.canon _ _ (C.mrg_ok _ rfl ha hb).1 C.nil_ok.1 fun c => ?_
  rw [C.mrg_mem C.andF rfl ha.1 hb.1, C.split_low hS hC h0 h1, C.split_high hS hC h0 h1]
  show ((C.mem S c && decide (c < d + 1)) && (C.mem S c && !decide (c < d + 1))) = false
  cases C.mem S c <;> cases decide (c < d + 1) <;> rfl
theorem C.parts_both : C.mrg C.orF (C.mrg C.andF S (C.ofS [(0, d)])) (C.mrg C.lessF S (C.ofS [(0, d)])) = S := by
  obtain ⟨ha, hb⟩ := C.parts_ok hS hC h0 h1
  refine C.canon _ _ (C.mrg_ok _ rfl ha hb).1 hS.1 fun c => ?_
  rw [C.mrg_mem C.orF rfl ha.1 hb.1, C.split_low hS hC h0 h1, C.split_high hS hC h0 h1]
  show ((C.mem S c && decide (c < d + 1)) || (C.mem S c && !decide (c < d + 1))) = C.mem S c
  cases C.mem S c <;> cases decide (c < d + 1) <;> rfl
theorem C.parts_count : C.count (C.mrg C.andF S (C.ofS [(0, d)])) + C.count (C.mrg C.lessF S (C.ofS [(0, d)])) = C.count S := by
  obtain ⟨ha, hb⟩ := C.parts_ok hS hC h0 h1
  rw [C.count_cnt ha, C.count_cnt hb, C.count_cnt hS]
  have := C.cnt_add (n := 1114112) (p := C.mem (C.mrg C.andF S (C.ofS [(0, d)]))) (q := C.mem (C.mrg C.lessF S (C.ofS [(0, d)]))) (r := C.mem S) (fun i _ => by
    rw [C.split_low hS hC h0 h1, C.split_high hS hC h0 h1]
    cases C.mem S (i : Int) <;> cases decide ((i : Int) < d + 1) <;> exact ⟨rfl, rfl⟩)
  omega
theorem C.parts_idx : C.count (C.mrg C.andF S (C.ofS [(0, d)])) = C.idx S (d + 1) := by
  obtain ⟨ha, hb⟩ := C.parts_ok hS hC h0 h1
  obtain ⟨k, hk⟩ := Int.eq_ofNat_of_zero_le (show 0 ≤ d + 1 by omega)
  rw [hk, C.idx_cnt hS, C.count_cnt ha, C.cnt_cut _ (C.mem S) k (fun c => by rw [C.split_low hS hC h0 h1, hk]), Nat.min_eq_right (by omega)]
end
end Go.Proofs.YtppmcnpjglackaaGreatDoor

/- The document's Good and Has, by walking their texts. -/
namespace Go.Proofs.YtppmcnpjglackaaGreatDoor
open Go.RowKit
set_option linter.unusedSimpArgs false
set_option linter.unusedVariables false

set_option maxRecDepth 100000 in
theorem C.ris_any (c : Int) (w : World) : Calls Tryz.prog 20 #[.int .i64 c] w fun e w' => e = .returned (.bool (C.isC c)) ∧ w = w' := by
  obtain ⟨q, hq⟩ : ∃ q, C.isC c = q := ⟨_, rfl⟩
  rw [hq]
  have HQ := Lib.hid hq
  clear hq
  go_enter Tryz.func20, Tryz.ntmps20
  by_cases h0 : 0 ≤ c
  · by_cases h1 : c ≤ 1114111
    · by_cases h2 : c < 55296
      · go_wp2
        go_ret
        exact ⟨by rw [← HQ.out]; exact ret_bool (by unfold C.isC; symm; exact decide_eq_true (by omega)), rfl⟩
      · by_cases h3 : 57343 < c
        · go_wp2
          go_ret
          exact ⟨by rw [← HQ.out]; exact ret_bool (by unfold C.isC; symm; exact decide_eq_true (by omega)), rfl⟩
        · go_wp2
          go_ret
          exact ⟨by rw [← HQ.out]; exact ret_bool (by unfold C.isC; symm; exact decide_eq_false (by omega)), rfl⟩
    · go_wp2
      go_ret
      exact ⟨by rw [← HQ.out]; exact ret_bool (by unfold C.isC; symm; exact decide_eq_false (by omega)), rfl⟩
  · go_wp2
    go_ret
    exact ⟨by rw [← HQ.out]; exact ret_bool (by unfold C.isC; symm; exact decide_eq_false (by omega)), rfl⟩

theorem C.inR_take {rs : List (Int × Int)} {i : Nat} {r : Int × Int} (h : rs[i]? = some r) (c : Int) : C.inR (rs.take (i + 1)) c = (C.inR (rs.take i) c || decide (r.1 ≤ c ∧ c ≤ r.2)) := by
  unfold C.inR
  rw [List.take_add_one, h, List.any_append]
  simp

end Go.Proofs.YtppmcnpjglackaaGreatDoor

/- The document's Marks, by walking its text. -/
namespace Go.Proofs.YtppmcnpjglackaaGreatDoor
open Go.RowKit
set_option linter.unusedSimpArgs false
set_option linter.unusedVariables false

/-- A number put in where it belongs. -/
def C.ins (x : Int) : List Int → List Int
  | [] => [x]
  | y :: t => if x < y then x :: y :: t else if x = y then y :: t else y :: C.ins x t
theorem C.ins_len (x : Int) : ∀ l, (C.ins x l).length ≤ l.length + 1
  | [] => Nat.le_refl _
  | y :: t => by
    unfold C.ins
    split
    · simp
    · split
      · simp
      · have := C.ins_len x t; simp; omega
def C.insF (l : List Int) : List Int := l.foldl (fun o x => C.ins x o) []
theorem C.insF_succ {l : List Int} {i : Nat} {x : Int} (h : l[i]? = some x) : C.insF (l.take (i + 1)) = C.ins x (C.insF (l.take i)) := by
  unfold C.insF
  rw [List.take_add_one, h, List.foldl_append]
  rfl
theorem C.insF_len (l : List Int) : (C.insF l).length ≤ l.length := by
  have : ∀ (l acc : List Int), (l.foldl (fun o x => C.ins x o) acc).length ≤ acc.length + l.length := by
    intro l
    induction l with
    | nil => intro acc; simp
    | cons x t ih => intro acc; have := ih (C.ins x acc); have := C.ins_len x acc; simp at *; omega
  unfold C.insF
  simpa using this l []
/-- What is still to come of it. -/
def C.insR (x : Int) (d : Bool) (l : List Int) : List Int := if d = true then l else C.ins x l
/-- All places that are asked. -/
def C.ends : List (Int × Int) → List Int
  | [] => []
  | (x, y) :: t => x :: (y + 1) :: C.ends t
theorem C.ends_app : ∀ a b, C.ends (a ++ b) = C.ends a ++ C.ends b
  | [], b => rfl
  | (x, y) :: t, b => by show x :: (y + 1) :: C.ends (t ++ b) = _; rw [C.ends_app t b]; rfl
theorem C.ends_len : ∀ a, (C.ends a).length = 2 * a.length
  | [] => rfl
  | (x, y) :: t => by show (C.ends t).length + 1 + 1 = 2 * (t.length + 1); rw [C.ends_len t]; omega
def C.asked (rs : List (Int × Int)) : List Int := C.all ++ C.ends rs
def C.marks (rs : List (Int × Int)) : List Int := C.insF (C.asked rs)

end Go.Proofs.YtppmcnpjglackaaGreatDoor

/- The law's Is in plain Lean: ranges made of marks, where a test changes at marks alone. -/
namespace Go.Proofs.YtppmcnpjglackaaGreatDoor
set_option linter.unusedSimpArgs false
set_option linter.unusedVariables false

theorem C.mem_snoc : ∀ (l : List Int) (x c : Int), C.srt (l ++ [x]) → C.mem (l ++ [x]) c = (C.mem l c ^^ decide (x ≤ c))
  | [], x, c, _ => by simp [C.mem]
  | y :: t, x, c, h => by
    have ih := C.mem_snoc t x c (C.srt_tail h)
    have hyx := C.srt_head h x (by simp)
    rw [List.cons_append, C.mem_cons, ih, C.mem_cons]
    by_cases hy : y ≤ c
    · rw [decide_eq_true hy]
      cases C.mem t c <;> cases decide (x ≤ c) <;> rfl
    · rw [decide_eq_false hy, decide_eq_false (by omega)]; rfl
theorem C.srt_snoc {l : List Int} {x : Int} (h : C.srt l) (hx : ∀ y ∈ l, y < x) : C.srt (l ++ [x]) := by
  unfold C.srt
  rw [List.pairwise_append]
  exact ⟨h, List.pairwise_singleton _ _, fun a ha b hb => by simp at hb; subst hb; exact hx a ha⟩

/-- From a mark to the next one. -/
def C.step (p : Int → Bool) (acc : List Int) (a b : Int) : List Int :=
  if p a = true then (if acc.getLast? = some a then acc.dropLast ++ [b] else acc ++ [a, b]) else acc
/-- What is known ahead of mark a. -/
def C.upto (p : Int → Bool) (acc : List Int) (a : Int) : Prop :=
  C.srt acc ∧ acc.length % 2 = 0 ∧ (∀ x ∈ acc, x ≤ a) ∧ ∀ c, C.mem acc c = (p c && decide (c < a))
theorem C.upto_step {p : Int → Bool} {acc : List Int} {a b : Int} (h : C.upto p acc a) (hab : a < b) (hp : ∀ c, a ≤ c → c < b → p c = p a) : C.upto p (C.step p acc a b) b := by
  obtain ⟨h1, h2, h3, h4⟩ := h
  unfold C.step
  have key : ∀ c, p a = true → ((p c && decide (c < a)) ^^ decide (a ≤ c) ^^ decide (b ≤ c)) = (p c && decide (c < b)) := by
    intro c hpa
    by_cases ha : a ≤ c
    · by_cases hb : b ≤ c
      · rw [decide_eq_true ha, decide_eq_true hb, decide_eq_false (show ¬ c < a by omega), decide_eq_false (show ¬ c < b by omega)]; simp
      · rw [decide_eq_true ha, decide_eq_false hb, decide_eq_false (show ¬ c < a by omega), decide_eq_true (show c < b by omega), hp c ha (by omega), hpa]; rfl
    · rw [decide_eq_false ha, decide_eq_false (show ¬ b ≤ c by omega), decide_eq_true (show c < a by omega), decide_eq_true (show c < b by omega)]; simp
  split
  · rename_i hpa
    split
    · rename_i hl
      obtain ⟨l, rfl⟩ : ∃ l, acc = l ++ [a] := by
        obtain ⟨l, hl'⟩ := List.getLast?_eq_some_iff.1 hl
        exact ⟨l, hl'⟩
      rw [List.dropLast_concat]
      have hsl : C.srt l := (List.pairwise_append.1 h1).1
      have hla : ∀ y ∈ l, y < a := fun y hy => (List.pairwise_append.1 h1).2.2 y hy a (by simp)
      have hs2 := C.srt_snoc hsl (x := b) (fun y hy => by have := hla y hy; omega)
      refine ⟨hs2, by simpa using h2, ?_, ?_⟩
      · intro x hx
        rcases List.mem_append.1 hx with hx | hx
        · have := hla x hx; omega
        · simp at hx; omega
      · intro c
        rw [C.mem_snoc _ _ _ hs2, ← key c hpa, ← h4 c, C.mem_snoc _ _ _ h1]
        cases C.mem l c <;> cases decide (a ≤ c) <;> cases decide (b ≤ c) <;> rfl
    · rename_i hl
      have hla : ∀ y ∈ acc, y < a := by
        intro y hy
        rcases Int.lt_or_le y a with h' | h'
        · exact h'
        · exfalso
          have hya : y = a := by have := h3 y hy; omega
          subst hya
          rcases List.eq_nil_or_concat acc with rfl | ⟨l, z, rfl⟩
          · cases hy
          · rw [List.concat_eq_append] at *
            have hz := h3 z (by simp)
            rcases List.mem_append.1 hy with hy | hy
            · have := (List.pairwise_append.1 h1).2.2 y hy z (by simp); omega
            · simp at hy
              subst hy
              exact hl (by simp)
      have hs1 := C.srt_snoc h1 hla
      have hs2 := C.srt_snoc hs1 (x := b) (fun y hy => by
        rcases List.mem_append.1 hy with hy | hy
        · have := hla y hy; omega
        · simp at hy; omega)
      have e : acc ++ [a, b] = (acc ++ [a]) ++ [b] := by simp
      rw [e]
      refine ⟨hs2, by simp; omega, ?_, ?_⟩
      · intro x hx
        simp at hx
        rcases hx with hx | hx | hx
        · have := hla x hx; omega
        · omega
        · omega
      · intro c
        rw [C.mem_snoc _ _ _ hs2, C.mem_snoc _ _ _ hs1, h4 c, key c hpa]
  · rename_i hpa
    refine ⟨h1, h2, fun x hx => by have := h3 x hx; omega, fun c => ?_⟩
    rw [h4 c]
    by_cases ha : c < a
    · rw [decide_eq_true ha, decide_eq_true (by omega)]
    · by_cases hb : c < b
      · have hf : p a = false := by cases h : p a <;> simp_all
        rw [hp c (by omega) hb, hf]; rfl
      · rw [decide_eq_false ha, decide_eq_false hb]

/-- Put in: rising stays rising; what is in it. -/
theorem C.ins_mem (x : Int) : ∀ (l : List Int) (z : Int), z ∈ C.ins x l ↔ z = x ∨ z ∈ l
  | [], z => by simp [C.ins]
  | y :: t, z => by
    unfold C.ins
    split
    · simp
    · split
      · rename_i h; subst h; simp
      · rw [List.mem_cons, C.ins_mem x t z, List.mem_cons]
        constructor
        · rintro (h | h | h)
          · exact .inr (.inl h)
          · exact .inl h
          · exact .inr (.inr h)
        · rintro (h | h | h)
          · exact .inr (.inl h)
          · exact .inl h
          · exact .inr (.inr h)
theorem C.ins_srt (x : Int) : ∀ (l : List Int), C.srt l → C.srt (C.ins x l)
  | [], _ => List.pairwise_singleton _ _
  | y :: t, h => by
    unfold C.ins
    split
    · rename_i hxy
      exact List.pairwise_cons.2 ⟨fun z hz => by
        rcases List.mem_cons.1 hz with rfl | hz
        · exact hxy
        · have := C.srt_head h z hz; omega, h⟩
    · split
      · exact h
      · exact List.pairwise_cons.2 ⟨fun z hz => by
          rcases (C.ins_mem x t z).1 hz with rfl | hz
          · omega
          · exact C.srt_head h z hz, C.ins_srt x t (C.srt_tail h)⟩
theorem C.insF_spec (l : List Int) : C.srt (C.insF l) ∧ ∀ z, z ∈ C.insF l ↔ z ∈ l := by
  have : ∀ (l acc : List Int), C.srt acc → C.srt (l.foldl (fun o x => C.ins x o) acc) ∧ ∀ z, z ∈ l.foldl (fun o x => C.ins x o) acc ↔ z ∈ l ∨ z ∈ acc := by
    intro l
    induction l with
    | nil => intro acc h; exact ⟨h, by simp⟩
    | cons x t ih =>
      intro acc h
      obtain ⟨i1, i2⟩ := ih (C.ins x acc) (C.ins_srt x acc h)
      refine ⟨i1, fun z => ?_⟩
      rw [List.foldl_cons, i2, C.ins_mem, List.mem_cons]
      constructor
      · rintro (h | h | h)
        · exact .inl (.inr h)
        · exact .inl (.inl h)
        · exact .inr h
      · rintro ((h | h) | h)
        · exact .inr (.inl h)
        · exact .inl h
        · exact .inr (.inr h)
  obtain ⟨h1, h2⟩ := this l [] List.Pairwise.nil
  exact ⟨h1, fun z => by rw [show C.insF l = l.foldl (fun o x => C.ins x o) [] from rfl, h2]; simp⟩
end Go.Proofs.YtppmcnpjglackaaGreatDoor

/- The law's Is in plain Lean, more: the ranges that are made, mark by mark; what does not change between marks. -/
namespace Go.Proofs.YtppmcnpjglackaaGreatDoor
set_option linter.unusedSimpArgs false
set_option linter.unusedVariables false

theorem C.rngs_snoc2 : ∀ (l : List Int) (a b : Int), l.length % 2 = 0 → C.rngs (l ++ [a, b]) = C.rngs l ++ [(a, b - 1)]
  | [], a, b, _ => rfl
  | [x], a, b, h => by simp at h
  | x :: y :: t, a, b, h => by
    show (x, y - 1) :: C.rngs (t ++ [a, b]) = (x, y - 1) :: C.rngs t ++ [(a, b - 1)]
    rw [C.rngs_snoc2 t a b (by simp at h; omega)]; rfl
theorem C.count_snoc2 : ∀ (l : List Int) (a b : Int), l.length % 2 = 0 → C.count (l ++ [a, b]) = C.count l + (b - a)
  | [], a, b, _ => by show b - a + C.count [] = C.count [] + (b - a); omega
  | [x], a, b, h => by simp at h
  | x :: y :: t, a, b, h => by
    show y - x + C.count (t ++ [a, b]) = y - x + C.count t + (b - a)
    rw [C.count_snoc2 t a b (by simp at h; omega)]; omega
/-- An even row that is not empty ends in a pair. -/
theorem C.even_end {l : List Int} (h : l.length % 2 = 0) (hne : l ≠ []) : ∃ l2 s e, l = l2 ++ [s, e] ∧ l2.length % 2 = 0 := by
  rcases List.eq_nil_or_concat l with rfl | ⟨l1, e, rfl⟩
  · exact absurd rfl hne
  · rcases List.eq_nil_or_concat l1 with rfl | ⟨l2, s, rfl⟩
    · simp at h
    · exact ⟨l2, s, e, by simp, by simp at h; omega⟩
/-- A step's ranges: the last one is made longer, or one is put behind; or nothing. -/
theorem C.step_end {p : Int → Bool} {l2 : List Int} {s a b : Int} (hp : p a = true) : C.step p (l2 ++ [s, a]) a b = l2 ++ [s, b] := by
  unfold C.step
  rw [if_pos hp, if_pos (by simp)]
  have : l2 ++ [s, a] = (l2 ++ [s]) ++ [a] := by simp
  rw [this, List.dropLast_concat]
  simp
theorem C.step_new {p : Int → Bool} {acc : List Int} {a b : Int} (hp : p a = true) (h : acc.getLast? ≠ some a) : C.step p acc a b = acc ++ [a, b] := by
  unfold C.step
  rw [if_pos hp, if_neg h]
theorem C.step_no {p : Int → Bool} {acc : List Int} {a b : Int} (hp : p a = false) : C.step p acc a b = acc := by
  unfold C.step
  rw [if_neg (by simp [hp])]
theorem C.step_count {p : Int → Bool} {acc : List Int} {a b : Int} (h : acc.length % 2 = 0) : C.count (C.step p acc a b) = C.count acc + (if p a = true then b - a else 0) := by
  rcases hp : p a with _ | _
  · rw [C.step_no hp]; simp
  · by_cases hl : acc.getLast? = some a
    · obtain ⟨l2, s, e, rfl, h2⟩ := C.even_end h (by rintro rfl; simp at hl)
      have he : e = a := by simpa using hl
      subst he
      rw [C.step_end hp, C.count_snoc2 _ _ _ h2, C.count_snoc2 _ _ _ h2]
      simp
      omega
    · rw [C.step_new hp hl, C.count_snoc2 _ _ _ h]; simp

/-- Mark by mark. -/
def C.wantK (p : Int → Bool) (M : List Int) : Nat → List Int
  | 0 => []
  | k + 1 => C.step p (C.wantK p M k) (M.getD k 0) (M.getD (k + 1) 0)
theorem C.wantK_upto {p : Int → Bool} {M : List Int} (hs : C.srt M) (h0 : ∀ c, c < M.getD 0 0 → p c = false) (hne : M ≠ [])
    (hp : ∀ a c, a ∈ M → a ≤ c → (∀ z ∈ M, z ≤ a ∨ c < z) → p c = p a) : ∀ k, k < M.length → C.upto p (C.wantK p M k) (M.getD k 0)
  | 0, _ => by
    refine ⟨List.Pairwise.nil, rfl, by simp [C.wantK], fun c => ?_⟩
    by_cases hc : c < M.getD 0 0
    · rw [h0 c hc]; rfl
    · rw [decide_eq_false hc, Bool.and_false]; rfl
  | k + 1, hk => by
    have ih := C.wantK_upto hs h0 hne hp k (by omega)
    have ek : M.getD k 0 = M[k]'(by omega) := by simp [List.getD, show k < M.length by omega]
    have ek1 : M.getD (k + 1) 0 = M[k + 1]'hk := by simp [List.getD, hk]
    have hlt : M[k]'(by omega) < M[k + 1]'hk := List.pairwise_iff_getElem.1 hs k (k + 1) (by omega) hk (by omega)
    refine C.upto_step ih (by rw [ek, ek1]; exact hlt) ?_
    intro c h1 h2
    rw [ek] at h1 ⊢
    rw [ek1] at h2
    refine hp _ c (List.getElem_mem _) h1 fun z hz => ?_
    obtain ⟨j, hj, rfl⟩ := List.getElem_of_mem hz
    rcases Nat.lt_or_ge k j with h' | h'
    · right
      rcases Nat.lt_or_ge (k + 1) j with h'' | h''
      · have := List.pairwise_iff_getElem.1 hs (k + 1) j hk hj h''
        omega
      · obtain rfl : j = k + 1 := by omega
        exact h2
    · left
      rcases Nat.lt_or_ge j k with h'' | h''
      · have := List.pairwise_iff_getElem.1 hs j k hj (by omega) h''
        omega
      · obtain rfl : j = k := by omega
        exact Int.le_refl _
end Go.Proofs.YtppmcnpjglackaaGreatDoor

/- The law's Is in plain Lean, its end: the ranges that are made are the set's. -/
namespace Go.Proofs.YtppmcnpjglackaaGreatDoor
set_option linter.unusedSimpArgs false
set_option linter.unusedVariables false

/-- A test that does not change between marks. -/
def C.blind (M : List Int) (p : Int → Bool) : Prop := ∀ a c, a ≤ c → (∀ z ∈ M, z ≤ a ∨ c < z) → p c = p a
theorem C.blind_le {M : List Int} {z : Int} (hz : z ∈ M) : C.blind M (fun c => decide (z ≤ c)) := by
  intro a c hac h
  rcases h z hz with h | h
  · show decide (z ≤ c) = decide (z ≤ a)
    rw [decide_eq_true h, decide_eq_true (by omega)]
  · show decide (z ≤ c) = decide (z ≤ a)
    rw [decide_eq_false (by omega), decide_eq_false (by omega)]
theorem C.blind_op {M : List Int} {p q : Int → Bool} (f : Bool → Bool → Bool) (hp : C.blind M p) (hq : C.blind M q) : C.blind M (fun c => f (p c) (q c)) := by
  intro a c hac h
  show f (p c) (q c) = f (p a) (q a)
  rw [hp a c hac h, hq a c hac h]
theorem C.blind_isC {M : List Int} (h : ∀ z ∈ C.all, z ∈ M) : C.blind M C.isC := by
  have e : C.isC = fun c => C.mem C.all c := funext fun c => (C.all_mem c).symm
  rw [e]
  have key : ∀ l : List Int, (∀ z ∈ l, z ∈ M) → C.blind M (fun c => C.mem l c) := by
    intro l
    induction l with
    | nil => intro _ a c _ _; rfl
    | cons x t ih =>
      intro hl
      exact C.blind_op (fun a b => a && !b) (C.blind_le (hl x (by simp))) (ih (fun z hz => hl z (by simp [hz])))
  exact key _ h
theorem C.blind_inR {M : List Int} : ∀ (rs : List (Int × Int)), (∀ z ∈ C.ends rs, z ∈ M) → C.blind M (C.inR rs)
  | [], _ => fun a c _ _ => rfl
  | (x, y) :: t, h => by
    have h1 := C.blind_le (h x (by simp [C.ends]))
    have h2 := C.blind_le (h (y + 1) (by simp [C.ends]))
    have h3 := C.blind_inR t (fun z hz => h z (by simp [C.ends, hz]))
    have h4 := C.blind_op (fun u v => u || v) (C.blind_op (fun u v => u && !v) h1 h2) h3
    intro a c hac hz
    have := h4 a c hac hz
    have e : ∀ d, C.inR ((x, y) :: t) d = ((decide (x ≤ d) && !decide (y + 1 ≤ d)) || C.inR t d) := by
      intro d
      show (decide (x ≤ d ∧ d ≤ y) || C.inR t d) = _
      congr 1
      rw [Bool.eq_iff_iff]
      simp
      omega
    rw [e, e]
    exact this

theorem C.marks_spec (rs : List (Int × Int)) : C.srt (C.marks rs) ∧ (∀ z ∈ C.all, z ∈ C.marks rs) ∧ ∀ z ∈ C.ends rs, z ∈ C.marks rs := by
  obtain ⟨h1, h2⟩ := C.insF_spec (C.asked rs)
  refine ⟨h1, fun z hz => (h2 z).2 ?_, fun z hz => (h2 z).2 ?_⟩
  · unfold C.asked; simp [hz]
  · unfold C.asked; simp [hz]
theorem C.marks_len (rs : List (Int × Int)) : (C.marks rs).length ≤ 2 * rs.length + 4 := by
  have h := C.insF_len (C.asked rs)
  have : (C.asked rs).length = 4 + 2 * rs.length := by unfold C.asked; rw [List.length_append, C.ends_len]; rfl
  unfold C.marks
  omega
theorem C.head_le {M : List Int} (hs : C.srt M) {z : Int} (hz : z ∈ M) : M.getD 0 0 ≤ z := by
  cases M with
  | nil => cases hz
  | cons x t =>
    show x ≤ z
    rcases List.mem_cons.1 hz with rfl | hz
    · exact Int.le_refl _
    · have := C.srt_head hs z hz; omega
theorem C.last_ge {M : List Int} (hs : C.srt M) {z : Int} (hz : z ∈ M) : z ≤ M.getD (M.length - 1) 0 := by
  obtain ⟨j, hj, rfl⟩ := List.getElem_of_mem hz
  have e : M.getD (M.length - 1) 0 = M[M.length - 1]'(by omega) := by simp [List.getD, show M.length - 1 < M.length by omega]
  rw [e]
  rcases Nat.lt_or_ge j (M.length - 1) with h | h
  · have := List.pairwise_iff_getElem.1 hs j (M.length - 1) hj (by omega) h
    omega
  · have : j = M.length - 1 := by omega
    subst this
    exact Int.le_refl _

/-- The ranges that are made, mark by mark, are the set's. -/
theorem C.want_is {p : Int → Bool} {M S : List Int} (hs : C.srt M) (hall : ∀ z ∈ C.all, z ∈ M) (hb : C.blind M p) (hC : ∀ c, p c = true → C.isC c = true) (hS : C.srt S) (hm : ∀ c, C.mem S c = p c) :
    C.wantK p M (M.length - 1) = S := by
  have z0 := hall 0 (by simp [C.all])
  have z1 := hall 1114112 (by simp [C.all])
  have hne : M ≠ [] := by rintro rfl; cases z0
  have hlen : 0 < M.length := List.length_pos_iff.2 hne
  have hf := C.head_le hs z0
  have hl := C.last_ge hs z1
  obtain ⟨u1, u2, u3, u4⟩ := C.wantK_upto hs (fun c hc => by
    cases h : p c
    · rfl
    · have := hC c h
      simp [C.isC] at this
      omega) hne (fun a c ha hac hz => hb a c hac hz) (M.length - 1) (by omega)
  refine C.canon _ _ u1 hS fun c => ?_
  rw [u4 c, hm c]
  cases h : p c
  · rfl
  · have := hC c h
    simp [C.isC] at this
    rw [decide_eq_true (by omega)]; rfl
end Go.Proofs.YtppmcnpjglackaaGreatDoor

/- The law's Is in plain Lean: what its walk asks, out of a set and a test that changes at marks alone. -/
namespace Go.Proofs.YtppmcnpjglackaaGreatDoor
set_option linter.unusedSimpArgs false
set_option linter.unusedVariables false

theorem C.beside {M : List Int} (hs : C.srt M) {k : Nat} {a b : Int} (ha : M[k]? = some a) (hb : M[k + 1]? = some b) : a < b ∧ ∀ z ∈ M, z ≤ a ∨ b ≤ z := by
  obtain ⟨h1, rfl⟩ := List.getElem?_eq_some_iff.1 ha
  obtain ⟨h2, rfl⟩ := List.getElem?_eq_some_iff.1 hb
  have key := List.pairwise_iff_getElem.1 hs
  refine ⟨key k (k + 1) h1 h2 (by omega), fun z hz => ?_⟩
  obtain ⟨j, hj, rfl⟩ := List.getElem_of_mem hz
  rcases Nat.lt_trichotomy j k with h | h | h
  · left; have := key j k hj h1 h; omega
  · subst h; left; exact Int.le_refl _
  · right
    rcases Nat.lt_or_ge (k + 1) j with h' | h'
    · have := key (k + 1) j h2 hj h'; omega
    · obtain rfl : j = k + 1 := by omega
      exact Int.le_refl _
theorem C.upS {p : Int → Bool} {M : List Int} (hs : C.srt M) (hb : C.blind M p) (acc : List Int) (a b : Int) (k : Nat) (ha : M[k]? = some a) (hb' : M[k + 1]? = some b) (h : C.upto p acc a) : C.upto p (C.step p acc a b) b := by
  obtain ⟨h1, h2⟩ := C.beside hs ha hb'
  refine C.upto_step h h1 fun c c1 c2 => hb a c c1 fun z hz => ?_
  rcases h2 z hz with h | h
  · exact .inl h
  · exact .inr (by omega)
theorem C.low_false {p : Int → Bool} {M : List Int} (hs : C.srt M) (hall : ∀ z ∈ C.all, z ∈ M) (hC : ∀ c, p c = true → C.isC c = true) (c : Int) (hc : c < M.getD 0 0) : p c = false := by
  have h0 := C.head_le hs (hall 0 (by simp [C.all]))
  cases h : p c
  · rfl
  · have := hC c h
    simp [C.isC] at this
    omega
theorem C.up0 {p : Int → Bool} {M : List Int} (hs : C.srt M) (hall : ∀ z ∈ C.all, z ∈ M) (hC : ∀ c, p c = true → C.isC c = true) : C.upto p [] (M.getD 0 0) := by
  refine ⟨List.Pairwise.nil, rfl, by simp, fun c => ?_⟩
  by_cases hc : c < M.getD 0 0
  · rw [C.low_false hs hall hC c hc]; rfl
  · rw [decide_eq_false hc, Bool.and_false]; rfl
theorem C.step_mem {p : Int → Bool} {acc : List Int} {a b x : Int} (h : x ∈ C.step p acc a b) : x ∈ acc ∨ x = a ∨ x = b := by
  unfold C.step at h
  split at h
  · split at h
    · rcases List.mem_append.1 h with h | h
      · exact .inl (List.dropLast_subset _ h)
      · simp at h; exact .inr (.inr h)
    · rcases List.mem_append.1 h with h | h
      · exact .inl h
      · simp at h
        rcases h with h | h
        · exact .inr (.inl h)
        · exact .inr (.inr h)
  · exact .inl h
theorem C.want_mem {p : Int → Bool} {M : List Int} : ∀ (k : Nat), k < M.length → ∀ x ∈ C.wantK p M k, x ∈ M
  | 0, _, x, h => by simp [C.wantK] at h
  | k + 1, hk, x, h => by
    have g1 : M.getD k 0 ∈ M := by simp only [List.getD, List.getElem?_eq_getElem (show k < M.length by omega), Option.getD_some]; exact List.getElem_mem _
    have g2 : M.getD (k + 1) 0 ∈ M := by simp only [List.getD, List.getElem?_eq_getElem hk, Option.getD_some]; exact List.getElem_mem _
    rcases C.step_mem h with h | rfl | rfl
    · exact C.want_mem k (by omega) x h
    · exact g1
    · exact g2
theorem C.mem_no {p : Int → Bool} {S : List Int} (hC : ∀ c, p c = true → C.isC c = true) (hm : ∀ c, C.mem S c = p c) (c : Int) (h : C.isC c = false) : C.mem S c = false := by
  rw [hm c]
  cases hp : p c
  · rfl
  · have := hC c hp; rw [h] at this; cases this
/-- The marks of ranges that are good lie in the numbers of characters. -/
theorem C.marks_bd {rs : List (Int × Int)} (h : C.good rs = true) : ∀ z ∈ C.marks rs, 0 ≤ z ∧ z ≤ 1114112 := by
  intro z hz
  obtain ⟨_, h2⟩ := C.insF_spec (C.asked rs)
  have hz2 := (h2 z).1 hz
  unfold C.asked at hz2
  rcases List.mem_append.1 hz2 with h3 | h3
  · simp [C.all] at h3; omega
  · have key : ∀ rs : List (Int × Int), C.good rs = true → ∀ z ∈ C.ends rs, 0 ≤ z ∧ z ≤ 1114112 := by
      intro rs
      induction rs with
      | nil => intro _ z hz; simp [C.ends] at hz
      | cons r t ih =>
        intro hg z hz
        obtain ⟨x, y⟩ := r
        have hg2 : (0 ≤ x ∧ y ≤ 1114111 ∧ x ≤ y) ∧ C.good t = true := by
          simp [C.good] at hg ⊢
          refine ⟨by omega, fun a b hab => hg.2 a b hab⟩
        have hz3 : z = x ∨ z = y + 1 ∨ z ∈ C.ends t := by simpa [C.ends] using hz
        rcases hz3 with rfl | rfl | hz3
        · omega
        · omega
        · exact ih hg2.2 z hz3
    exact key rs h z h3
end Go.Proofs.YtppmcnpjglackaaGreatDoor

/- The layer cpset: a set of characters that rise, in plain Lean. -/
namespace Go.Proofs.YtppmcnpjglackaaGreatDoor
set_option linter.unusedSimpArgs false
set_option linter.unusedVariables false

theorem C.upto_mono {p : Int → Bool} {acc : List Int} {a c : Int} (h : C.upto p acc a) (hac : a ≤ c) (hp : ∀ d, a ≤ d → d < c → p d = false) : C.upto p acc c := by
  obtain ⟨h1, h2, h3, h4⟩ := h
  refine ⟨h1, h2, fun x hx => by have := h3 x hx; omega, fun d => ?_⟩
  rw [h4 d]
  by_cases h : d < a
  · rw [decide_eq_true h, decide_eq_true (by omega)]
  · by_cases h' : d < c
    · rw [hp d (by omega) h']; rfl
    · rw [decide_eq_false h, decide_eq_false h']
theorem C.step_isC {p : Int → Bool} {acc : List Int} {c b : Int} (h : p c = C.isC c) : C.step p acc c b = C.step C.isC acc c b := by
  unfold C.step; rw [h]
theorem C.step_bd {acc : List Int} {c : Int} (h : ∀ x ∈ acc, 0 ≤ x ∧ x ≤ 1114112) : ∀ x ∈ C.step C.isC acc c (c + 1), 0 ≤ x ∧ x ≤ 1114112 := by
  intro x hx
  cases hc : C.isC c
  · rw [C.step_no hc] at hx; exact h x hx
  · have hb : 0 ≤ c ∧ c ≤ 1114111 := by simp [C.isC] at hc; omega
    rcases C.step_mem hx with hx | rfl | rfl
    · exact h x hx
    · omega
    · omega
/-- Of numbers that rise: those that are characters. -/
def C.chF (cs acc : List Int) : List Int := cs.foldl (fun o c => C.step C.isC o c (c + 1)) acc
theorem C.ch_go {p : Int → Bool} : ∀ (cs acc : List Int) (a : Int), C.srt cs → (∀ c ∈ cs, a ≤ c) → (∀ d, a ≤ d → p d = (decide (d ∈ cs) && C.isC d)) → (∀ x ∈ acc, 0 ≤ x ∧ x ≤ 1114112) → C.upto p acc a →
    (∀ x ∈ C.chF cs acc, 0 ≤ x ∧ x ≤ 1114112) ∧ ∃ b, C.upto p (C.chF cs acc) b ∧ ∀ d, b ≤ d → p d = false
  | [], acc, a, _, _, hp, hb, h => ⟨hb, a, h, fun d hd => by rw [hp d hd]; simp⟩
  | c :: t, acc, a, hs, hc, hp, hb, h => by
    have hac := hc c (by simp)
    have hct : ∀ z ∈ t, c < z := C.srt_head hs
    have h1 := C.upto_mono h hac (fun d d1 d2 => by
      rw [hp d d1]
      have : d ∉ c :: t := by
        intro hm
        rcases List.mem_cons.1 hm with rfl | hm
        · omega
        · have := hct d hm; omega
      rw [decide_eq_false this]; rfl)
    have hpc : p c = C.isC c := by rw [hp c hac, decide_eq_true (by simp)]; rfl
    have h2 := C.upto_step h1 (show c < c + 1 by omega) (fun d d1 d2 => by rw [show d = c by omega])
    rw [C.step_isC hpc] at h2
    show (∀ x ∈ C.chF t (C.step C.isC acc c (c + 1)), 0 ≤ x ∧ x ≤ 1114112) ∧ ∃ b, C.upto p (C.chF t (C.step C.isC acc c (c + 1))) b ∧ ∀ d, b ≤ d → p d = false
    refine C.ch_go t _ (c + 1) (C.srt_tail hs) (fun z hz => by have := hct z hz; omega) (fun d hd => ?_) (C.step_bd hb) h2
    rw [hp d (by omega)]
    congr 1
    rw [decide_eq_decide]
    constructor
    · intro hm
      rcases List.mem_cons.1 hm with rfl | hm
      · omega
      · exact hm
    · intro hm; simp [hm]
/-- The set of numbers that rise has just the characters of them. -/
theorem C.ch_spec (cs : List Int) (hs : C.srt cs) : C.ok (C.chF cs []) ∧ ∀ d, C.mem (C.chF cs []) d = (decide (d ∈ cs) && C.isC d) := by
  obtain ⟨a, ha⟩ : ∃ a : Int, ∀ c ∈ cs, a ≤ c := by
    cases cs with
    | nil => exact ⟨0, by simp⟩
    | cons c t => exact ⟨c, fun z hz => by
        rcases List.mem_cons.1 hz with rfl | hz
        · exact Int.le_refl _
        · have := C.srt_head hs z hz; omega⟩
  have h0 : C.upto (fun d => decide (d ∈ cs) && C.isC d) [] a := by
    refine ⟨List.Pairwise.nil, rfl, by simp, fun d => ?_⟩
    by_cases hd : d < a
    · have : d ∉ cs := fun hm => by have := ha d hm; omega
      show false = ((decide (d ∈ cs) && C.isC d) && decide (d < a))
      rw [decide_eq_false this]; rfl
    · show false = ((decide (d ∈ cs) && C.isC d) && decide (d < a))
      rw [decide_eq_false hd, Bool.and_false]
  obtain ⟨hb, b, ⟨u1, u2, u3, u4⟩, hz⟩ := C.ch_go cs [] a hs ha (fun d _ => rfl) (by simp) h0
  refine ⟨⟨u1, hb, u2⟩, fun d => ?_⟩
  rw [u4 d]
  by_cases hd : d < b
  · rw [decide_eq_true hd, Bool.and_true]
  · have := hz d (by omega)
    rw [this]
    show ((decide (d ∈ cs) && C.isC d) && decide (d < b)) = false
    rw [this]; rfl
end Go.Proofs.YtppmcnpjglackaaGreatDoor

/- A row that is in order, each number once: it rises, and has the same numbers. -/
namespace Go.Proofs.YtppmcnpjglackaaGreatDoor
set_option linter.unusedSimpArgs false
set_option linter.unusedVariables false

theorem C.arr_get {l : List Int} {j : Nat} (h : j < l.length) : l.toArray[j]! = l[j] := by
  rw [getElem!_pos l.toArray j (by simpa using h)]; simp
theorem C.le_of {l : List Int} (hs : l.Pairwise (· ≤ ·)) {i j : Nat} (hij : i ≤ j) (hj : j < l.length) : l[i]'(by omega) ≤ l[j] := by
  rcases Nat.lt_or_ge i j with h | h
  · exact List.pairwise_iff_getElem.1 hs i j (by omega) hj h
  · obtain rfl : i = j := by omega
    exact Int.le_refl _
theorem C.cmp_spec (l : List Int) (hs : l.Pairwise (· ≤ ·)) : ∀ m, m ≤ l.length → C.srt (Lib.compactUpTo l.toArray m) ∧ ∀ z, z ∈ Lib.compactUpTo l.toArray m ↔ z ∈ l.take m
  | 0, _ => ⟨by simp [Lib.compactUpTo, C.srt], by simp [Lib.compactUpTo]⟩
  | m + 1, hm => by
    obtain ⟨h1, h2⟩ := C.cmp_spec l hs m (by omega)
    have hlt : m < l.length := by omega
    have et : l.take (m + 1) = l.take m ++ [l[m]] := by rw [List.take_succ_eq_append_getElem hlt]
    have eg := C.arr_get hlt
    rw [Lib.compactUpTo_succ]
    by_cases hk : m = 0 ∨ l[m] ≠ l[m - 1]'(by omega)
    · have hkk : Lib.keeps l.toArray m = true := by
        unfold Lib.keeps
        rw [decide_eq_true_iff, eg, C.arr_get (show m - 1 < l.length by omega)]
        exact hk
      rw [if_pos hkk, eg]
      refine ⟨C.srt_snoc h1 fun y hy => ?_, fun z => by rw [List.mem_append, h2, et, List.mem_append]⟩
      obtain ⟨j, hj, rfl⟩ := List.getElem_of_mem ((h2 y).1 hy)
      have hjm : j < m := by rw [List.length_take] at hj; omega
      rw [List.getElem_take]
      rcases hk with rfl | hk
      · omega
      · have a1 := C.le_of hs (i := j) (j := m - 1) (by omega) (by omega)
        have a2 := C.le_of hs (i := m - 1) (j := m) (by omega) hlt
        omega
    · have h0 : m ≠ 0 := fun h => hk (.inl h)
      have he : l[m] = l[m - 1]'(by omega) := by
        rcases Int.decEq l[m] (l[m - 1]'(by omega)) with h | h
        · exact absurd (.inr h) hk
        · exact h
      have hkk : Lib.keeps l.toArray m = false := by
        unfold Lib.keeps
        rw [decide_eq_false_iff_not, eg, C.arr_get (show m - 1 < l.length by omega)]
        exact hk
      rw [hkk]
      refine ⟨by simpa using h1, fun z => ?_⟩
      rw [et]
      simp only [Bool.false_eq_true, if_false, List.append_nil]
      rw [h2, List.mem_append]
      constructor
      · exact .inl
      · rintro (h | h)
        · exact h
        · rw [List.mem_singleton] at h
          subst h
          rw [he]
          have : l[m - 1]'(by omega) = (l.take m)[m - 1]'(by rw [List.length_take]; omega) := by rw [List.getElem_take]
          rw [this]
          exact List.getElem_mem _
/-- The characters of any numbers: put in order, each once. -/
def C.once (l : List Int) : List Int := Lib.compactUpTo (l.mergeSort fun x y => decide (x ≤ y)).toArray l.length
theorem C.once_spec (l : List Int) : C.srt (C.once l) ∧ ∀ z, z ∈ C.once l ↔ z ∈ l := by
  have hs : (l.mergeSort fun x y => decide (x ≤ y)).Pairwise (· ≤ ·) := by
    have h := List.pairwise_mergeSort (le := fun x y : Int => decide (x ≤ y)) (by intro a b c h1 h2; simp at *; omega) (by intro a b; simp; omega) l
    exact h.imp (by intro a b h; simpa using h)
  obtain ⟨h1, h2⟩ := C.cmp_spec _ hs l.length (by simp)
  refine ⟨h1, fun z => ?_⟩
  unfold C.once
  rw [h2, List.take_of_length_le (by simp)]
  exact (List.mergeSort_perm l _).mem_iff
def C.chars (l : List Int) : List Int := C.chF (C.once l) []
theorem C.chars_spec (l : List Int) : C.ok (C.chars l) ∧ ∀ d, C.mem (C.chars l) d = (decide (d ∈ l) && C.isC d) := by
  obtain ⟨h1, h2⟩ := C.once_spec l
  obtain ⟨h3, h4⟩ := C.ch_spec (C.once l) h1
  refine ⟨h3, fun d => ?_⟩
  show C.mem (C.chF (C.once l) []) d = _
  rw [h4 d]
  congr 1
  rw [decide_eq_decide]
  exact h2 d
end Go.Proofs.YtppmcnpjglackaaGreatDoor
