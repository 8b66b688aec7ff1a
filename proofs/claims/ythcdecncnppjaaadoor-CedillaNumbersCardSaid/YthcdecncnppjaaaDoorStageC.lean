/- As StageB, where some steps come behind all reads: nothing is asked of these. -/
import Derived.Test.YthcdecncnppjaaaDoorStageB
namespace Go.Proofs.YthcdecncnppjaaaDoor.Stg
open Go Go.RowKit
set_option linter.unusedSimpArgs false
set_option linter.unusedVariables false
section
variable {P : Program} {ops : Array Oper} {md : Region.Mode} {R : World → World → Prop} {F : Act → World → Prop} {fn : Nat → Bool}
/-- One operation: a step keeps R. -/
def zOper (P : Program) (ops : Array Oper) (R : World → World → Prop) (fin : Bool) (o : Oper) (K : Act → World → Prop) (a : Act) (w : World) : Prop :=
  if Region.wanted o (yielded ops a.tmps) = true then
    (if readsOnly o.op = true then o.quiet P a (fun w' => w' = w) (fun a' => K a' w) else stepAt P o a w (fun v w' => (fin = false → R w w') ∧ K (a.put o.dst v) w'))
  else K (a.put o.dst undef) w
def zOp (P : Program) (ops : Array Oper) (R : World → World → Prop) (fn : Nat → Bool) (i : Nat) (K : Act → World → Prop) (a : Act) (w : World) : Prop :=
  match ops[i]? with
  | none => K a w
  | some o => zOper P ops R (fn i) o K a w
def wpZ (P : Program) (md : Region.Mode) (ops : Array Oper) (R : World → World → Prop) (fn : Nat → Bool) (F : Act → World → Prop) : Nat → Array Bool → Act → World → Prop
  | 0, listed, a, w => Region.ready md ops listed = [] ∧ F a w
  | fuel + 1, listed, a, w => (Region.ready md ops listed = [] → F a w) ∧ ∀ i ∈ Region.ready md ops listed, zOp P ops R fn i (wpZ P md ops R fn F fuel (listed.setIfInBounds i true)) a w

theorem wpAny_of_z {Q : Exit → Act → World → Prop} (hQ : ∀ a w, F a w → Q .normal a w) : ∀ (fuel : Nat) (listed : Array Bool) (a : Act) (w : World), wpZ P md ops R fn F fuel listed a w → wpAny P md ops Q fuel listed a w
  | 0, _, _, _, h => ⟨h.1, hQ _ _ h.2⟩
  | fuel + 1, listed, a, w, h => ⟨fun h0 => hQ _ _ (h.1 h0), fun i hi => by
      have h2 := h.2 i hi
      unfold zOp at h2
      unfold wpOp
      cases ho : ops[i]? with
      | none => exact absurd (lt_of_ready hi) (by have := Array.getElem?_eq_none_iff.1 ho; omega)
      | some o =>
        simp only [ho] at h2 ⊢
        unfold zOper at h2
        split
        · rename_i hw
          simp only [hw, if_true] at h2
          left
          by_cases hro : readsOnly o.op = true
          · rw [if_pos hro] at h2
            obtain ⟨v, h3, h4⟩ := h2
            have h5 := h3 w rfl
            have hne := noEnter hro a.eval P w
            unfold Oper.quietAt at h5
            unfold Oper.wp
            generalize (execOp a.eval o).run P w = r at *
            cases r with
            | ok x w' =>
              cases x <;> simp only [Oper.quietUpon] at h5 <;> simp only [Oper.upon]
              case value u => rw [h5.1, h5.2]; exact wpAny_of_z hQ fuel _ _ _ h4
              case skip => rw [h5.1, ← h5.2]; exact wpAny_of_z hQ fuel _ _ _ h4
              case enter f args => exact absurd rfl (hne w' f args)
            | halt x w' => simp only [Oper.quietUpon] at h5
          · rw [if_neg hro] at h2
            unfold stepAt at h2
            unfold Oper.wp
            generalize (execOp a.eval o).run P w = r at *
            cases r with
            | ok x w' =>
              cases x <;> simp only [stepUpon] at h2 <;> simp only [Oper.upon]
              case value v => exact wpAny_of_z hQ fuel _ _ _ h2.2
              case skip => exact wpAny_of_z hQ fuel _ _ _ h2.2
              case enter f args =>
                refine h2.mono ?_
                rintro e w'' ⟨v, rfl, h3, h4⟩
                exact wpAny_of_z hQ fuel _ _ _ h4
              case row s args =>
                refine Rows.mono h2 ?_
                rintro v w'' ⟨h3, h4⟩
                exact wpAny_of_z hQ fuel _ _ _ h4
            | halt x w' => simp only [stepUpon] at h2
        · rename_i hw
          simp only [hw, if_false] at h2
          exact wpAny_of_z hQ fuel _ _ _ h2⟩

/-- A read, or an operation that is passed over, is known to yield this, now and later. -/
def YieldsZ (P : Program) (ops : Array Oper) (R : World → World → Prop) (o : Oper) (v : Value) (a : Act) (w : World) : Prop :=
  (Region.wanted o (yielded ops a.tmps) = true ∧ readsOnly o.op = true ∧ ∀ w', R w w' → o.quietAt P a (fun _ => True) w' v) ∨ (Region.wanted o (yielded ops a.tmps) = false ∧ v = undef)
theorem YieldsZ.zOp {i : Nat} {o : Oper} {v : Value} {a : Act} {w : World} (hR : Rel R) (hi : ops[i]? = some o) (hy : YieldsZ P ops R o v a w) {K : Act → World → Prop} (h : K (a.put o.dst v) w) : zOp P ops R fn i K a w := by
  unfold Stg.zOp zOper
  simp only [hi]
  rcases hy with ⟨hw, hro, hv⟩ | ⟨hw, rfl⟩
  · simp only [hw, hro, if_true]
    exact ⟨v, fun w' hw' => by subst hw'; exact quietAt_same hro (hv _ (hR.refl _)), h⟩
  · simp only [hw, Bool.false_eq_true, if_false]; exact h
/-- Operation j comes behind operation i, by binding edges. -/
def reach (md : Region.Mode) (ops : Array Oper) (i : Nat) : Nat → Nat → Bool
  | 0, _ => false
  | f + 1, j => match ops[j]? with
    | some o => o.after.any fun e => Region.binds md e && (e.on == i || reach md ops i f e.on)
    | none => false
def Closed (md : Region.Mode) (ops : Array Oper) (listed : Array Bool) : Prop := ∀ j o, ops[j]? = some o → listed.getD j false = true → ∀ e ∈ o.after, Region.binds md e = true → listed.getD e.on false = true
def closedB (md : Region.Mode) (ops : Array Oper) (listed : Array Bool) : Bool :=
  (List.range ops.size).all fun j => !listed.getD j false || (match ops[j]? with
    | some o => o.after.all fun e => !Region.binds md e || listed.getD e.on false
    | none => true)
theorem closed_spec {listed : Array Bool} (h : closedB md ops listed = true) : Closed md ops listed := by
  intro j o hj hl e he hb
  have := List.all_eq_true.1 h j (List.mem_range.2 (Array.getElem?_eq_some_iff.1 hj).1)
  simp only [hl, hj, Bool.not_true, Bool.false_or] at this
  obtain ⟨k, hk, rfl⟩ := Array.mem_iff_getElem.1 he
  have h1 := Array.all_eq_true.1 this k hk
  simpa [hb] using h1
theorem reach_spec {listed : Array Bool} (hc : Closed md ops listed) {i : Nat} : ∀ (f j : Nat) (o : Oper), ops[j]? = some o → (∀ e ∈ o.after, Region.binds md e = true → listed.getD e.on false = true) → reach md ops i f j = true → listed.getD i false = true
  | 0, j, o, hj, hd, h => by cases h
  | f + 1, j, o, hj, hd, h => by
    unfold reach at h
    simp only [hj] at h
    obtain ⟨k, hk, h1⟩ := Array.any_eq_true.1 h
    rw [Bool.and_eq_true, Bool.or_eq_true, beq_iff_eq] at h1
    have hl := hd _ (Array.getElem_mem hk) h1.1
    rcases h1.2 with h2 | h2
    · rw [← h2]; exact hl
    · rcases ho : ops[o.after[k].on]? with _ | o2
      · cases f with
        | zero => cases h2
        | succ f => unfold reach at h2; simp only [ho] at h2; cases h2
      · exact reach_spec hc f _ o2 ho (fun e he hb => hc _ _ ho hl e he hb) h2
/-- The steps of which nothing is asked come behind operation i. -/
def behind (md : Region.Mode) (ops : Array Oper) (fn : Nat → Bool) (listed : Array Bool) (i : Nat) : Bool :=
  (List.range ops.size).all fun j => !fn j || (listed.getD j false || reach md ops i ops.size j)
theorem behind_spec {i : Nat} {listed : Array Bool} (h : behind md ops fn listed i = true) : ∀ j oj, ops[j]? = some oj → fn j = true → listed.getD j false = true ∨ reach md ops i ops.size j = true := by
  intro j oj hj hf
  have := List.all_eq_true.1 h j (List.mem_range.2 (Array.getElem?_eq_some_iff.1 hj).1)
  rw [hf, Bool.not_true, Bool.false_or, Bool.or_eq_true] at this
  exact this
/-- A read first. -/
theorem firstZ {i : Nat} {oi : Oper} {v : Value} (hR : Rel R) (hi : ops[i]? = some oi) (hsel : ∀ (j : Nat) (o : Oper) cs b, ops[j]? = some o → o.op ≠ .select cs b) :
    ∀ (fuel : Nat) (listed : Array Bool) (a : Act) (w : World),
      (∀ j oj, ops[j]? = some oj → j ≠ i → listed.getD j true = false → (∀ e ∈ oj.after, Region.binds md e = true → e.on ≠ i) → oi.apart ops oj = true) →
      i ∈ Region.ready md ops listed → Closed md ops listed → (∀ j oj, ops[j]? = some oj → fn j = true → listed.getD j false = true ∨ reach md ops i ops.size j = true) → YieldsZ P ops R oi v a w →
      wpZ P md ops R fn F fuel (listed.setIfInBounds i true) (a.put oi.dst v) w → wpZ P md ops R fn F (fuel + 1) listed a w := by
  intro fuel
  induction fuel with
  | zero =>
    intro listed a w _ hr hcl hfin hy H
    refine ⟨fun h => (by rw [h] at hr; cases hr), fun j hj => ?_⟩
    by_cases hji : j = i
    · subst hji; exact hy.zOp hR hi H
    · have := ready_mono hj hji
      rw [H.1] at this
      cases this
  | succ fuel ih =>
    intro listed a w hfree hr hcl hfin hy H
    refine ⟨fun h => (by rw [h] at hr; cases hr), fun j hj => ?_⟩
    by_cases hji : j = i
    · subst hji; exact hy.zOp hR hi H
    · have h1 := H.2 j (ready_mono hj hji)
      obtain ⟨hjun, oj, hoj, hall⟩ := mem_ready.1 hj
      have hnot : ∀ e ∈ oj.after, Region.binds md e = true → e.on ≠ i := fun e he hb heq => by
        have h1 := hall e he hb
        have h0 := (mem_ready.1 hr).1
        rw [heq, unl h0] at h1
        cases h1
      obtain ⟨p1, p2, p3⟩ := Oper.apart_spec (hfree j oj hoj hji hjun hnot)
      have hfree' : ∀ k ok, ops[k]? = some ok → k ≠ i → (listed.setIfInBounds j true).getD k true = false →
          (∀ e ∈ ok.after, Region.binds md e = true → e.on ≠ i) → oi.apart ops ok = true := fun k ok hk hki hun hno => by
        refine hfree k ok hk hki ?_ hno
        by_cases hjk : j = k
        · subst hjk; exact hjun
        · rw [getD_set_ne true hjk] at hun; exact hun
      have keep : ∀ u w', R w w' → YieldsZ P ops R oi v (a.put oj.dst u) w' := fun u w' hw' => by
        unfold YieldsZ Oper.quietAt at *
        rw [execOp_put oi (hsel i oi · · hi) a oj.dst u p3, wanted_put oi a oj.dst u p3]
        exact hy.imp (fun ⟨x, y, z⟩ => ⟨x, y, fun w2 h2 => z w2 (hR.trans hw' h2)⟩) id
      have go : ∀ u w', R w w' →
          wpZ P md ops R fn F fuel ((listed.setIfInBounds i true).setIfInBounds j true) ((a.put oi.dst v).put oj.dst u) w' → wpZ P md ops R fn F (fuel + 1) (listed.setIfInBounds j true) (a.put oj.dst u) w' := by
        intro u w' hw' h3
        refine ih _ _ _ hfree' (ready_mono hr (Ne.symm hji)) (closed_set hcl hj) (fun k ok hk hf => (hfin k ok hk hf).imp (fun h => getD_set_true h) id) (keep u w' hw') ?_
        rw [Array.setIfInBounds_comm _ _ hji, ← Act.put_comm a v u p2]
        exact h3
      unfold Stg.zOp zOper at *
      simp only [hoj] at h1 ⊢
      rw [wanted_put oj a oi.dst v p1] at h1
      split
      · rename_i hw
        simp only [hw, if_true] at h1
        by_cases hro : readsOnly oj.op = true
        · rw [if_pos hro] at h1 ⊢
          obtain ⟨u, h2, h3⟩ := h1
          refine ⟨u, fun w' hw' => ?_, go u w (hR.refl _) h3⟩
          have := h2 w' hw'
          unfold Oper.quietAt at *
          rwa [execOp_put oj (hsel j oj · · hoj) a oi.dst v p1] at this
        · rw [if_neg hro] at h1 ⊢
          unfold stepAt at *
          rw [execOp_put oj (hsel j oj · · hoj) a oi.dst v p1] at h1
          have hnf : fn j = false := by
            rcases hf : fn j with _ | _
            · rfl
            · rcases hfin j oj hoj hf with h5 | h5
              · have h6 := unl hjun
                rw [h5] at h6
                cases h6
              · have h5 := reach_spec hcl _ j oj hoj hall h5
                have h6 := unl (mem_ready.1 hr).1
                rw [h5] at h6
                cases h6
          exact stepUpon_mono (fun u w' ⟨h2, h3⟩ => ⟨h2, go u w' (h2 hnf) h3⟩) h1
      · rename_i hw
        simp only [hw, if_false] at h1
        exact go _ w (hR.refl _) h1

theorem wp_regionZ (R : World → World → Prop) (hR : Rel R) {id : Nat} {Q : Exit → Act → World → Prop} {a : Act} {w : World} {l : List Oper} (hm : P.follows .mixedOrders = true)
    (h : wpZ P .any l.toArray R fn (fun a w => Q .normal a w) l.toArray.size (Array.replicate l.toArray.size false) a w.drew) : (Code.region id l.toArray true).wp P Q a w :=
  wp_region_any hm (wpAny_of_z (F := fun a w => Q .normal a w) (fun _ _ h => h) _ _ _ _ h)

variable {fuel : Nat} {listed : Array Bool} {a : Act} {w : World}
/-- A read is taken. -/
theorem takeZ {l : List Oper} (i : Nat) {o : Oper} (hk : (closedB md l.toArray listed && behind md l.toArray fn listed i && Region.noSelect l.toArray && Region.free md l.toArray listed i && (Region.ready md l.toArray listed).contains i && readsOnly o.op && Region.wanted o (yielded l.toArray a.tmps)) = true) (hR : Rel R) (hi' : l[i]? = some o)
    (h : ∀ K : Act → Prop, (∀ A, wpZ P md l.toArray R fn F fuel (listed.setIfInBounds i true) A w → K A) → o.quiet P a (fun w' => ∃ x : Later R w, w' = x.val) K) : wpZ P md l.toArray R fn F (fuel + 1) listed a w := by
  simp only [Bool.and_eq_true] at hk
  obtain ⟨⟨⟨⟨⟨⟨hcl, hbh⟩, hs⟩, hf⟩, hr⟩, hro⟩, hw⟩ := hk
  have hi : l.toArray[i]? = some o := by simpa using hi'
  obtain ⟨v, h1, h2⟩ := h (fun A => wpZ P md l.toArray R fn F fuel (listed.setIfInBounds i true) A w) (fun A h => h)
  exact firstZ hR hi (Region.noSelect_spec hs) fuel listed a w (Region.free_spec hi hf) (by simpa using hr) (closed_spec hcl) (behind_spec hbh) (.inl ⟨hw, hro, fun w' hw' => quietAt_same hro (h1 w' ⟨⟨w', hw'⟩, rfl⟩)⟩) h2
/-- One may come up, or two. -/
theorem oneZ (i : Nat) (hr : Region.ready md ops listed = [i]) (h : zOp P ops R fn i (wpZ P md ops R fn F fuel (listed.setIfInBounds i true)) a w) : wpZ P md ops R fn F (fuel + 1) listed a w :=
  ⟨fun e => absurd e (by rw [hr]; simp), fun j hj => by
    rw [hr, List.mem_singleton] at hj
    subst hj
    exact h⟩
theorem twoZ (i i' : Nat) (hr : Region.ready md ops listed = [i, i']) (h : zOp P ops R fn i (wpZ P md ops R fn F fuel (listed.setIfInBounds i true)) a w) (h' : zOp P ops R fn i' (wpZ P md ops R fn F fuel (listed.setIfInBounds i' true)) a w) : wpZ P md ops R fn F (fuel + 1) listed a w :=
  ⟨fun e => absurd e (by rw [hr]; simp), fun j hj => by
    rw [hr] at hj
    rcases List.mem_cons.1 hj with e | hj
    · subst e; exact h
    · rw [List.mem_singleton] at hj
      subst hj
      exact h'⟩
theorem threeZ (i i' i'' : Nat) (hr : Region.ready md ops listed = [i, i', i'']) (h : zOp P ops R fn i (wpZ P md ops R fn F fuel (listed.setIfInBounds i true)) a w) (h' : zOp P ops R fn i' (wpZ P md ops R fn F fuel (listed.setIfInBounds i' true)) a w) (h'' : zOp P ops R fn i'' (wpZ P md ops R fn F fuel (listed.setIfInBounds i'' true)) a w) : wpZ P md ops R fn F (fuel + 1) listed a w :=
  ⟨fun e => absurd e (by rw [hr]; simp), fun j hj => by
    rw [hr] at hj
    rcases List.mem_cons.1 hj with e | hj
    · subst e; exact h
    · rcases List.mem_cons.1 hj with e | hj
      · subst e; exact h'
      · rw [List.mem_singleton] at hj
        subst hj
        exact h''⟩
theorem endZ (hr : Region.ready md ops listed = []) (h : F a w) : wpZ P md ops R fn F fuel listed a w := by
  cases fuel with
  | zero => exact ⟨hr, h⟩
  | succ fuel => exact ⟨fun _ => h, fun i hi => by rw [hr] at hi; cases hi⟩
/-- A step that is no call. -/
theorem stepZ {l : List Oper} (i : Nat) {o : Oper} (hk : (plainOp o.op && !readsOnly o.op && Region.wanted o (yielded l.toArray a.tmps)) = true) (hi' : l[i]? = some o) {K : Act → World → Prop}
    (h : ∀ K' : Act → World → Prop, (∀ A w', (fn i = false → R w w') → (∀ A', A' = A → K A' w') → K' A w') → o.wp P a w K' (fun _ _ _ => False)) : zOp P l.toArray R fn i K a w := by
  simp only [Bool.and_eq_true, Bool.not_eq_true'] at hk
  obtain ⟨⟨hp, hro⟩, hw⟩ := hk
  have hi : l.toArray[i]? = some o := by simpa using hi'
  unfold zOp zOper
  simp only [hi, hw, hro, if_true, Bool.false_eq_true, if_false]
  have h1 := h (fun A w' => (fn i = false → R w w') ∧ K A w') (fun A w' h1 h2 => ⟨h1, h2 A rfl⟩)
  have hnd := noDefer hp a.eval P w
  unfold stepAt
  unfold Oper.wp at h1
  generalize (execOp a.eval o).run P w = r at *
  cases r with
  | ok x w' =>
    cases x <;> simp only [Oper.upon] at h1 <;> simp only [stepUpon]
    case value v => exact h1
    case skip => exact h1
    case defer d => exact absurd rfl (hnd w' d)
    case enter f args =>
      refine h1.mono fun e w'' he => ?_
      cases e with
      | returned v => exact ⟨v, rfl, he⟩
      | panicked c => exact absurd he id
      | outgrown => obtain ⟨_, _, he⟩ := he; exact absurd he id
    case row s args => exact Rows.mono h1 fun v w'' he => he
  | halt x w' => cases x <;> simp only [Oper.upon] at h1
/-- A call of a Go function. -/
theorem callZ {l : List Oper} (i : Nat) {o : Oper} {fnc : Func} (hi' : l[i]? = some o) (f : FuncId) (xs : List Operand) (ts : Array TypeId) (ho : o.op = .call { callee := .value (.func f), args := xs.toArray, argTypes := ts })
    (hfn : P.funcs[f]? = some fnc) (us : List Value) (hv : xs.map a.eval = us) (T : Ending → World → Prop) (hC : Calls P f us.toArray w T) (hk : (fnc.name != "runtime.NumGoroutine" && fnc.body.isSome && !readsOnly o.op && Region.wanted o (yielded l.toArray a.tmps)) = true) {K : Act → World → Prop}
    (h : ∀ e w', T e w' → ∃ v, e = .returned v ∧ (fn i = false → R w w') ∧ ∀ A, A = a.put o.dst v → K A w') : zOp P l.toArray R fn i K a w := by
  simp only [Bool.and_eq_true, Bool.not_eq_true'] at hk
  obtain ⟨⟨⟨hnm, hbd⟩, hro⟩, hw⟩ := hk
  have entry : ∀ args w, (callFunc f args).run P w = .ok (.enter f args) w := fun args w => entered hfn hnm hbd args w
  have hi : l.toArray[i]? = some o := by simpa using hi'
  unfold zOp zOper
  simp only [hi, hw, hro, if_true, Bool.false_eq_true, if_false]
  have hrun : (execOp a.eval o).run P w = .ok (.enter f us.toArray) w := by
    have hf : a.eval (.func f) = .func (.func f) #[] #[] := rfl
    unfold execOp
    subst hv
    simp [ho, resolve, invoke, go_sem, entry, hf]
  unfold stepAt
  rw [hrun]
  exact hC.mono fun e w' ht => let ⟨v, he, h1, h2⟩ := h e w' ht; ⟨v, he, h1, h2 _ rfl⟩
end
end Go.Proofs.YthcdecncnppjaaaDoor.Stg
