/- Regions that draw their order and whose steps are not all in one turn: reads are taken as soon as they may come up, steps are branched over. -/
import Derived.Test.YthcdecncnppjaaaDoorStage
namespace Go.Proofs.YthcdecncnppjaaaDoor.Stg
open Go Go.RowKit
set_option linter.unusedSimpArgs false
set_option linter.unusedVariables false
section
variable {P : Program} {ops : Array Oper} {md : Region.Mode} {R : World → World → Prop} {F : Act → World → Prop}
/-- One operation: a step keeps R. -/
def xOper (P : Program) (ops : Array Oper) (R : World → World → Prop) (o : Oper) (K : Act → World → Prop) (a : Act) (w : World) : Prop :=
  if Region.wanted o (yielded ops a.tmps) = true then
    (if readsOnly o.op = true then o.quiet P a (fun w' => w' = w) (fun a' => K a' w) else stepAt P o a w (fun v w' => R w w' ∧ K (a.put o.dst v) w'))
  else K (a.put o.dst undef) w
def xOp (P : Program) (ops : Array Oper) (R : World → World → Prop) (i : Nat) (K : Act → World → Prop) (a : Act) (w : World) : Prop :=
  match ops[i]? with
  | none => K a w
  | some o => xOper P ops R o K a w
def wpX (P : Program) (md : Region.Mode) (ops : Array Oper) (R : World → World → Prop) (F : Act → World → Prop) : Nat → Array Bool → Act → World → Prop
  | 0, listed, a, w => Region.ready md ops listed = [] ∧ F a w
  | fuel + 1, listed, a, w => (Region.ready md ops listed = [] → F a w) ∧ ∀ i ∈ Region.ready md ops listed, xOp P ops R i (wpX P md ops R F fuel (listed.setIfInBounds i true)) a w

theorem wpAny_of_x {Q : Exit → Act → World → Prop} (hQ : ∀ a w, F a w → Q .normal a w) : ∀ (fuel : Nat) (listed : Array Bool) (a : Act) (w : World), wpX P md ops R F fuel listed a w → wpAny P md ops Q fuel listed a w
  | 0, _, _, _, h => ⟨h.1, hQ _ _ h.2⟩
  | fuel + 1, listed, a, w, h => ⟨fun h0 => hQ _ _ (h.1 h0), fun i hi => by
      have h2 := h.2 i hi
      unfold xOp at h2
      unfold wpOp
      cases ho : ops[i]? with
      | none => exact absurd (lt_of_ready hi) (by have := Array.getElem?_eq_none_iff.1 ho; omega)
      | some o =>
        simp only [ho] at h2 ⊢
        unfold xOper at h2
        split
        · rename_i hw
          simp only [hw, if_true] at h2
          left
          by_cases hro : readsOnly o.op = true
          · rw [if_pos hro] at h2
            obtain ⟨v, h3, h4⟩ := h2
            have h5 := h3 w rfl
            have hne := noEnter hro a.eval P w
            unfold Oper.quietAt at h5
            unfold Oper.wp
            generalize (execOp a.eval o).run P w = r at *
            cases r with
            | ok x w' =>
              cases x <;> simp only [Oper.quietUpon] at h5 <;> simp only [Oper.upon]
              case value u => rw [h5.1, h5.2]; exact wpAny_of_x hQ fuel _ _ _ h4
              case skip => rw [h5.1, ← h5.2]; exact wpAny_of_x hQ fuel _ _ _ h4
              case enter f args => exact absurd rfl (hne w' f args)
            | halt x w' => simp only [Oper.quietUpon] at h5
          · rw [if_neg hro] at h2
            unfold stepAt at h2
            unfold Oper.wp
            generalize (execOp a.eval o).run P w = r at *
            cases r with
            | ok x w' =>
              cases x <;> simp only [stepUpon] at h2 <;> simp only [Oper.upon]
              case value v => exact wpAny_of_x hQ fuel _ _ _ h2.2
              case skip => exact wpAny_of_x hQ fuel _ _ _ h2.2
              case enter f args =>
                refine h2.mono ?_
                rintro e w'' ⟨v, rfl, h3, h4⟩
                exact wpAny_of_x hQ fuel _ _ _ h4
              case row s args =>
                refine Rows.mono h2 ?_
                rintro v w'' ⟨h3, h4⟩
                exact wpAny_of_x hQ fuel _ _ _ h4
            | halt x w' => simp only [stepUpon] at h2
        · rename_i hw
          simp only [hw, if_false] at h2
          exact wpAny_of_x hQ fuel _ _ _ h2⟩

/-- A read, or an operation that is passed over, is known to yield this, now and later. -/
def YieldsX (P : Program) (ops : Array Oper) (R : World → World → Prop) (o : Oper) (v : Value) (a : Act) (w : World) : Prop :=
  (Region.wanted o (yielded ops a.tmps) = true ∧ readsOnly o.op = true ∧ ∀ w', R w w' → o.quietAt P a (fun _ => True) w' v) ∨ (Region.wanted o (yielded ops a.tmps) = false ∧ v = undef)
theorem YieldsX.xOp {i : Nat} {o : Oper} {v : Value} {a : Act} {w : World} (hR : Rel R) (hi : ops[i]? = some o) (hy : YieldsX P ops R o v a w) {K : Act → World → Prop} (h : K (a.put o.dst v) w) : xOp P ops R i K a w := by
  unfold Stg.xOp xOper
  simp only [hi]
  rcases hy with ⟨hw, hro, hv⟩ | ⟨hw, rfl⟩
  · simp only [hw, hro, if_true]
    exact ⟨v, fun w' hw' => by subst hw'; exact quietAt_same hro (hv _ (hR.refl _)), h⟩
  · simp only [hw, Bool.false_eq_true, if_false]; exact h
/-- A read first. -/
theorem firstX {i : Nat} {oi : Oper} {v : Value} (hR : Rel R) (hi : ops[i]? = some oi) (hsel : ∀ (j : Nat) (o : Oper) cs b, ops[j]? = some o → o.op ≠ .select cs b) :
    ∀ (fuel : Nat) (listed : Array Bool) (a : Act) (w : World),
      (∀ j oj, ops[j]? = some oj → j ≠ i → listed.getD j true = false → (∀ e ∈ oj.after, Region.binds md e = true → e.on ≠ i) → oi.apart ops oj = true) →
      i ∈ Region.ready md ops listed → YieldsX P ops R oi v a w →
      wpX P md ops R F fuel (listed.setIfInBounds i true) (a.put oi.dst v) w → wpX P md ops R F (fuel + 1) listed a w := by
  intro fuel
  induction fuel with
  | zero =>
    intro listed a w _ hr hy H
    refine ⟨fun h => (by rw [h] at hr; cases hr), fun j hj => ?_⟩
    by_cases hji : j = i
    · subst hji; exact hy.xOp hR hi H
    · have := ready_mono hj hji
      rw [H.1] at this
      cases this
  | succ fuel ih =>
    intro listed a w hfree hr hy H
    refine ⟨fun h => (by rw [h] at hr; cases hr), fun j hj => ?_⟩
    by_cases hji : j = i
    · subst hji; exact hy.xOp hR hi H
    · have h1 := H.2 j (ready_mono hj hji)
      obtain ⟨hjun, oj, hoj, hall⟩ := mem_ready.1 hj
      have hnot : ∀ e ∈ oj.after, Region.binds md e = true → e.on ≠ i := fun e he hb heq => by
        have h1 := hall e he hb
        have h0 := (mem_ready.1 hr).1
        rw [heq, unl h0] at h1
        cases h1
      obtain ⟨p1, p2, p3⟩ := Oper.apart_spec (hfree j oj hoj hji hjun hnot)
      have hfree' : ∀ k ok, ops[k]? = some ok → k ≠ i → (listed.setIfInBounds j true).getD k true = false →
          (∀ e ∈ ok.after, Region.binds md e = true → e.on ≠ i) → oi.apart ops ok = true := fun k ok hk hki hun hno => by
        refine hfree k ok hk hki ?_ hno
        by_cases hjk : j = k
        · subst hjk; exact hjun
        · rw [getD_set_ne true hjk] at hun; exact hun
      have keep : ∀ u w', R w w' → YieldsX P ops R oi v (a.put oj.dst u) w' := fun u w' hw' => by
        unfold YieldsX Oper.quietAt at *
        rw [execOp_put oi (hsel i oi · · hi) a oj.dst u p3, wanted_put oi a oj.dst u p3]
        exact hy.imp (fun ⟨x, y, z⟩ => ⟨x, y, fun w2 h2 => z w2 (hR.trans hw' h2)⟩) id
      have go : ∀ u w', R w w' →
          wpX P md ops R F fuel ((listed.setIfInBounds i true).setIfInBounds j true) ((a.put oi.dst v).put oj.dst u) w' → wpX P md ops R F (fuel + 1) (listed.setIfInBounds j true) (a.put oj.dst u) w' := by
        intro u w' hw' h3
        refine ih _ _ _ hfree' (ready_mono hr (Ne.symm hji)) (keep u w' hw') ?_
        rw [Array.setIfInBounds_comm _ _ hji, ← Act.put_comm a v u p2]
        exact h3
      unfold Stg.xOp xOper at *
      simp only [hoj] at h1 ⊢
      rw [wanted_put oj a oi.dst v p1] at h1
      split
      · rename_i hw
        simp only [hw, if_true] at h1
        by_cases hro : readsOnly oj.op = true
        · rw [if_pos hro] at h1 ⊢
          obtain ⟨u, h2, h3⟩ := h1
          refine ⟨u, fun w' hw' => ?_, go u w (hR.refl _) h3⟩
          have := h2 w' hw'
          unfold Oper.quietAt at *
          rwa [execOp_put oj (hsel j oj · · hoj) a oi.dst v p1] at this
        · rw [if_neg hro] at h1 ⊢
          unfold stepAt at *
          rw [execOp_put oj (hsel j oj · · hoj) a oi.dst v p1] at h1
          exact stepUpon_mono (fun u w' ⟨h2, h3⟩ => ⟨h2, go u w' h2 h3⟩) h1
      · rename_i hw
        simp only [hw, if_false] at h1
        exact go _ w (hR.refl _) h1

theorem wp_regionX (R : World → World → Prop) (hR : Rel R) {id : Nat} {Q : Exit → Act → World → Prop} {a : Act} {w : World} {l : List Oper} (hm : P.follows .mixedOrders = true)
    (h : wpX P .any l.toArray R (fun a w => Q .normal a w) l.toArray.size (Array.replicate l.toArray.size false) a w.drew) : (Code.region id l.toArray true).wp P Q a w :=
  wp_region_any hm (wpAny_of_x (F := fun a w => Q .normal a w) (fun _ _ h => h) _ _ _ _ h)

variable {fuel : Nat} {listed : Array Bool} {a : Act} {w : World}
/-- A read is taken. -/
theorem takeX {l : List Oper} (i : Nat) {o : Oper} (hk : (Region.noSelect l.toArray && Region.free md l.toArray listed i && (Region.ready md l.toArray listed).contains i && readsOnly o.op && Region.wanted o (yielded l.toArray a.tmps)) = true) (hR : Rel R) (hi' : l[i]? = some o)
    (h : ∀ K : Act → Prop, (∀ A, wpX P md l.toArray R F fuel (listed.setIfInBounds i true) A w → K A) → o.quiet P a (fun w' => ∃ x : Later R w, w' = x.val) K) : wpX P md l.toArray R F (fuel + 1) listed a w := by
  simp only [Bool.and_eq_true] at hk
  obtain ⟨⟨⟨⟨hs, hf⟩, hr⟩, hro⟩, hw⟩ := hk
  have hi : l.toArray[i]? = some o := by simpa using hi'
  obtain ⟨v, h1, h2⟩ := h (fun A => wpX P md l.toArray R F fuel (listed.setIfInBounds i true) A w) (fun A h => h)
  exact firstX hR hi (Region.noSelect_spec hs) fuel listed a w (Region.free_spec hi hf) (by simpa using hr) (.inl ⟨hw, hro, fun w' hw' => quietAt_same hro (h1 w' ⟨⟨w', hw'⟩, rfl⟩)⟩) h2
/-- One may come up, or two. -/
theorem one (i : Nat) (hr : Region.ready md ops listed = [i]) (h : xOp P ops R i (wpX P md ops R F fuel (listed.setIfInBounds i true)) a w) : wpX P md ops R F (fuel + 1) listed a w :=
  ⟨fun e => absurd e (by rw [hr]; simp), fun j hj => by
    rw [hr, List.mem_singleton] at hj
    subst hj
    exact h⟩
theorem two (i i' : Nat) (hr : Region.ready md ops listed = [i, i']) (h : xOp P ops R i (wpX P md ops R F fuel (listed.setIfInBounds i true)) a w) (h' : xOp P ops R i' (wpX P md ops R F fuel (listed.setIfInBounds i' true)) a w) : wpX P md ops R F (fuel + 1) listed a w :=
  ⟨fun e => absurd e (by rw [hr]; simp), fun j hj => by
    rw [hr] at hj
    rcases List.mem_cons.1 hj with e | hj
    · subst e; exact h
    · rw [List.mem_singleton] at hj
      subst hj
      exact h'⟩
theorem endX (hr : Region.ready md ops listed = []) (h : F a w) : wpX P md ops R F fuel listed a w := by
  cases fuel with
  | zero => exact ⟨hr, h⟩
  | succ fuel => exact ⟨fun _ => h, fun i hi => by rw [hr] at hi; cases hi⟩
/-- A step that is no call. -/
theorem stepX {l : List Oper} (i : Nat) {o : Oper} (hk : (plainOp o.op && !readsOnly o.op && Region.wanted o (yielded l.toArray a.tmps)) = true) (hi' : l[i]? = some o) {K : Act → World → Prop}
    (h : ∀ K' : Act → World → Prop, (∀ A w', R w w' → (∀ A', A' = A → K A' w') → K' A w') → o.wp P a w K' (fun _ _ _ => False)) : xOp P l.toArray R i K a w := by
  simp only [Bool.and_eq_true, Bool.not_eq_true'] at hk
  obtain ⟨⟨hp, hro⟩, hw⟩ := hk
  have hi : l.toArray[i]? = some o := by simpa using hi'
  unfold xOp xOper
  simp only [hi, hw, hro, if_true, Bool.false_eq_true, if_false]
  have h1 := h (fun A w' => R w w' ∧ K A w') (fun A w' h1 h2 => ⟨h1, h2 A rfl⟩)
  have hnd := noDefer hp a.eval P w
  unfold stepAt
  unfold Oper.wp at h1
  generalize (execOp a.eval o).run P w = r at *
  cases r with
  | ok x w' =>
    cases x <;> simp only [Oper.upon] at h1 <;> simp only [stepUpon]
    case value v => exact h1
    case skip => exact h1
    case defer d => exact absurd rfl (hnd w' d)
    case enter f args =>
      refine h1.mono fun e w'' he => ?_
      cases e with
      | returned v => exact ⟨v, rfl, he⟩
      | panicked c => exact absurd he id
      | outgrown => obtain ⟨_, _, he⟩ := he; exact absurd he id
    case row s args => exact Rows.mono h1 fun v w'' he => he
  | halt x w' => cases x <;> simp only [Oper.upon] at h1
/-- A call of a Go function. -/
theorem callX {l : List Oper} (i : Nat) {o : Oper} {fn : Func} (hi' : l[i]? = some o) (f : FuncId) (xs : List Operand) (ts : Array TypeId) (ho : o.op = .call { callee := .value (.func f), args := xs.toArray, argTypes := ts })
    (hfn : P.funcs[f]? = some fn) (us : List Value) (hv : xs.map a.eval = us) (T : Ending → World → Prop) (hC : Calls P f us.toArray w T) (hk : (fn.name != "runtime.NumGoroutine" && fn.body.isSome && !readsOnly o.op && Region.wanted o (yielded l.toArray a.tmps)) = true) {K : Act → World → Prop}
    (h : ∀ e w', T e w' → ∃ v, e = .returned v ∧ R w w' ∧ ∀ A, A = a.put o.dst v → K A w') : xOp P l.toArray R i K a w := by
  simp only [Bool.and_eq_true, Bool.not_eq_true'] at hk
  obtain ⟨⟨⟨hnm, hbd⟩, hro⟩, hw⟩ := hk
  have entry : ∀ args w, (callFunc f args).run P w = .ok (.enter f args) w := fun args w => entered hfn hnm hbd args w
  have hi : l.toArray[i]? = some o := by simpa using hi'
  unfold xOp xOper
  simp only [hi, hw, hro, if_true, Bool.false_eq_true, if_false]
  have hrun : (execOp a.eval o).run P w = .ok (.enter f us.toArray) w := by
    have hf : a.eval (.func f) = .func (.func f) #[] #[] := rfl
    unfold execOp
    subst hv
    simp [ho, resolve, invoke, go_sem, entry, hf]
  unfold stepAt
  rw [hrun]
  exact hC.mono fun e w' ht => let ⟨v, he, h1, h2⟩ := h e w' ht; ⟨v, he, h1, h2 _ rfl⟩
end
end Go.Proofs.YthcdecncnppjaaaDoor.Stg
