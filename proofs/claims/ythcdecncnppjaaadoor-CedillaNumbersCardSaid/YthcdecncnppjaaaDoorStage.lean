/- Regions that draw their order: walked once, in the order of the text; calls (steps) may answer anything, reads must answer the same in all later worlds. -/
import Derived.Test.YthcdecncnppjaaaDoorLib
import Derived.BigQuiet
import Derived.Deep.QuietTactic
import Derived.Deep.RegionLaw
import Derived.Below
namespace Go.Proofs.YthcdecncnppjaaaDoor.Stg
open Go Go.RowKit
set_option linter.unusedSimpArgs false
set_option linter.unusedVariables false
/-- Operations that never enter a function of the program. -/
def readsOnly : Op → Bool
  | .move _ | .assign _ | .pick .. | .load .. | .nilCheck _ | .binOp .. | .unOp .. | .convert .. | .fieldAddr .. | .field .. | .indexAddr .. | .index .. | .lookup .. | .extract .. | .makeInterface .. | .slice .. | .typeAssert .. | .build .. => true
  | .call c => match c.callee with
    | .builtin .len | .builtin .cap => true
    | _ => false
  | _ => false
def NE (s : Sem Next) : Prop := ∀ (P : Program) (w w' : World) (f : FuncId) (args : Array Value), ¬ s.run P w = .ok (.enter f args) w'
theorem NE.bind {α : Type} {s : Sem α} {k : α → Sem Next} (h : ∀ x, NE (k x)) : NE (s >>= k) := by
  intro P w w' f args
  rw [Sem.run_bind]
  cases s.run P w with
  | ok x w1 => simp only [Result.andThen]; exact h x P w1 w' f args
  | halt x w1 => simp [Result.andThen]
theorem NE.value (v : Value) : NE (pure (Next.value v)) := by
  intro P w w' f args
  simp [Sem.run_pure]
theorem NE.panic : NE (runtimePanic .nilDeref) := by
  intro P w w' f args
  simp [go_sem]
theorem NE.uns (v : Unsupported) : NE (unsupported v) := by
  intro P w w' f args
  simp [go_sem]
theorem noEnter {o : Oper} (h : readsOnly o.op = true) (ρ : Operand → Value) : NE (execOp ρ o) := by
  obtain ⟨dst, op, type, pos, after, guard⟩ := o
  cases op <;> simp only [readsOnly] at h <;> simp only [execOp]
  case call c => 
    obtain ⟨cl, cargs, ct⟩ := c
    cases cl with
    | builtin b =>
      cases b <;> simp only [Bool.false_eq_true] at h <;> (simp only [resolve]; intro P w w' f args; simp only [Sem.run_bind, Sem.run_pure, Result.andThen_ok, invoke, builtin]; unfold Result.andThen; split <;> simp)
    | invoke r n => simp at h
    | value f => simp at h
  case nilCheck x =>
    split
    · exact NE.panic
    · exact NE.panic
    · exact NE.panic
    · split
      · exact NE.panic
      · refine NE.bind fun x => ?_
        refine NE.bind fun x => ?_
        split
        · refine NE.bind fun x => NE.value _
        · exact NE.value _
      · exact NE.value _
    · exact NE.value _
  case move x => exact NE.value _
  case assign x => exact NE.value _
  case pick c a b => exact NE.bind fun x => NE.value _
  all_goals first | exact NE.bind fun x => NE.value _ | cases h

/-! ### Steps (calls and whatever else moves the world) and reads -/
def push (w : World) (ws : Nat → World) : Nat → World
  | 0 => w
  | k + 1 => ws k
theorem push_sub {w : World} {ws : Nat → World} {n l : Nat} (h : l ≤ n) : push w ws (n + 1 - l) = ws (n - l) := by
  rw [show n + 1 - l = (n - l) + 1 by omega]
  rfl

/-- What is asked of a step: a value, or a call that returns. -/
def stepUpon (P : Program) (next : Value → World → Prop) : Result Next → Prop
  | .ok (.value v) w' => next v w'
  | .ok .skip w' => next undef w'
  | .ok (.enter f args) w' => Calls P f args w' fun e w'' => ∃ v, e = .returned v ∧ next v w''
  | .ok (.row row args) w' => Rows P row args w' next
  | _ => False
def stepAt (P : Program) (o : Oper) (a : Act) (w : World) (next : Value → World → Prop) : Prop := stepUpon P next ((execOp a.eval o).run P w)
theorem stepUpon_mono {P : Program} {next next' : Value → World → Prop} (h : ∀ v w, next v w → next' v w) {r : Result Next} (hh : stepUpon P next r) : stepUpon P next' r := by
  cases r with
  | ok n w' =>
    cases n <;> simp only [stepUpon] at hh ⊢
    case enter f args => exact hh.mono fun e w'' ⟨v, he, hn⟩ => ⟨v, he, h _ _ hn⟩
    case row s args => exact Rows.mono hh fun v w'' hn => h _ _ hn
    all_goals exact h _ _ hh
  | halt x w' => simp only [stepUpon] at hh
theorem stepUpon_some {P : Program} {next : Value → World → Prop} {r : Result Next} (hh : stepUpon P next r) : ∃ v w, next v w := by
  cases r with
  | ok n w' =>
    cases n <;> simp only [stepUpon] at hh
    case enter f args => obtain ⟨e, w2, fr, ⟨v, _, hn⟩, _⟩ := hh []; exact ⟨v, w2, hn⟩
    case row s args => obtain ⟨v, w2, hn, _⟩ := hh (Frame.enter P 0 #[] .normal) []; exact ⟨v, w2, hn⟩
    all_goals exact ⟨_, _, hh⟩
  | halt x w' => simp only [stepUpon] at hh

section
variable {P : Program} {ops : Array Oper} {md : Region.Mode} {R : World → World → Prop} {F : Act → World → Prop}

/-- One operation: a step, or a read whose value is the same in every world later than its base. -/
def sOper (P : Program) (ops : Array Oper) (R : World → World → Prop) (step fin : Bool) (l : Nat) (o : Oper) (K : Act → Nat → (Nat → World) → Prop) (a : Act) (n : Nat) (ws : Nat → World) : Prop :=
  if Region.wanted o (yielded ops a.tmps) = true then
    (if step = true then stepAt P o a (ws 0) (fun v w' => (fin = false → R (ws 0) w') ∧ K (a.put o.dst v) (n + 1) (push w' ws))
     else readsOnly o.op = true ∧ o.quiet P a (fun w => R (ws (n - l)) w) (fun a' => K a' n ws))
  else if step = true then K (a.put o.dst undef) (n + 1) (push (ws 0) ws) else K (a.put o.dst undef) n ws

theorem sOper_mono {step fin : Bool} {l : Nat} {o : Oper} {K K' : Act → Nat → (Nat → World) → Prop} {a : Act} {n : Nat} {ws : Nat → World} (h : ∀ a n ws, K a n ws → K' a n ws) (hh : sOper P ops R step fin l o K a n ws) : sOper P ops R step fin l o K' a n ws := by
  unfold sOper at *
  split
  · rename_i hw
    simp only [hw, if_true] at hh
    split
    · rename_i hs
      simp only [hs, if_true] at hh
      exact stepUpon_mono (fun v w ⟨h1, h2⟩ => ⟨h1, h _ _ _ h2⟩) hh
    · rename_i hs
      simp only [hs, if_false] at hh
      exact ⟨hh.1, Oper.quiet_mono (fun _ h1 => h _ _ _ h1) hh.2⟩
  · rename_i hw
    simp only [hw, if_false] at hh
    split
    · rename_i hs; simp only [hs, if_true] at hh; exact h _ _ _ hh
    · rename_i hs; simp only [hs, if_false] at hh; exact h _ _ _ hh

def sOp (P : Program) (ops : Array Oper) (R : World → World → Prop) (st fn : Nat → Bool) (lv : Nat → Nat) (i : Nat) (K : Act → Nat → (Nat → World) → Prop) (a : Act) (n : Nat) (ws : Nat → World) : Prop :=
  match ops[i]? with
  | none => K a n ws
  | some o => sOper P ops R (st i) (fn i) (lv i) o K a n ws

def wpStg (P : Program) (md : Region.Mode) (ops : Array Oper) (R : World → World → Prop) (st fn : Nat → Bool) (lv : Nat → Nat) (F : Act → World → Prop) : Nat → Array Bool → Act → Nat → (Nat → World) → Prop
  | 0, listed, a, _, ws => Region.ready md ops listed = [] ∧ F a (ws 0)
  | fuel + 1, listed, a, n, ws => (Region.ready md ops listed = [] → F a (ws 0)) ∧
      ∀ i ∈ Region.ready md ops listed, sOp P ops R st fn lv i (wpStg P md ops R st fn lv F fuel (listed.setIfInBounds i true)) a n ws

variable {st fn : Nat → Bool} {lv : Nat → Nat}

structure Rel (R : World → World → Prop) : Prop where
  refl : ∀ w, R w w
  trans : ∀ {a b c}, R a b → R b c → R a c

/-- Later operations wait for their stage; no two steps are of one stage. -/
structure Sound (md : Region.Mode) (ops : Array Oper) (st fn : Nat → Bool) (lv : Nat → Nat) : Prop where
  step : ∀ j o, ops[j]? = some o → st j = true → 1 ≤ lv j ∧ (lv j = 1 ∨ ∃ e ∈ o.after, Region.binds md e = true ∧ lv j ≤ lv e.on + 1)
  read : ∀ j o, ops[j]? = some o → st j = false → lv j = 0 ∨ ∃ e ∈ o.after, Region.binds md e = true ∧ lv j ≤ lv e.on
  one : ∀ i j, i < ops.size → j < ops.size → st i = true → st j = true → lv i = lv j → i = j
  fin : ∀ i, i < ops.size → fn i = true → i + 1 = ops.size ∧ ∀ k, k < i → ∃ m o, k < m ∧ m ≤ i ∧ ops[m]? = some o ∧ ∃ e ∈ o.after, Region.binds md e = true ∧ e.on = k

/-- How far the steps have come. -/
structure Inv (md : Region.Mode) (ops : Array Oper) (st : Nat → Bool) (lv : Nat → Nat) (listed : Array Bool) (n : Nat) : Prop where
  size : listed.size = ops.size
  closed : ∀ j o, ops[j]? = some o → listed.getD j false = true → ∀ e ∈ o.after, Region.binds md e = true → listed.getD e.on false = true
  step : ∀ j, j < ops.size → st j = true → (listed.getD j false = true ↔ lv j ≤ n)
  read : ∀ j, j < ops.size → st j = false → listed.getD j false = true → lv j ≤ n
def InvW (R : World → World → Prop) (n : Nat) (ws : Nat → World) : Prop := ∀ k, k ≤ n → R (ws k) (ws 0)

theorem InvW.push {n : Nat} {ws : Nat → World} (hR : Rel R) (h : InvW R n ws) {w' : World} (hw : R (ws 0) w') : InvW R (n + 1) (push w' ws) := by
  intro k hk
  cases k with
  | zero => exact hR.refl _
  | succ k => exact hR.trans (h k (by omega)) hw

theorem Inv.le {listed : Array Bool} {n : Nat} (h : Inv md ops st lv listed n) {j : Nat} (hj : listed.getD j false = true) : lv j ≤ n := by
  have hlt : j < ops.size := by
    rcases Nat.lt_or_ge j listed.size with h' | h'
    · rw [← h.size]; exact h'
    · simp [Array.getElem?_eq_none h'] at hj
  cases hs : st j with
  | true => exact (h.step j hlt hs).1 hj
  | false => exact h.read j hlt hs hj

theorem lt_of_ready {listed : Array Bool} {i : Nat} (hi : i ∈ Region.ready md ops listed) : i < ops.size := by
  obtain ⟨_, o, ho, _⟩ := mem_ready.1 hi
  exact (Array.getElem?_eq_some_iff.1 ho).1
theorem unl {listed : Array Bool} {i : Nat} (h : listed.getD i true = false) : listed.getD i false = false := by
  rcases Nat.lt_or_ge i listed.size with h' | h'
  · simp [h'] at h ⊢; exact h
  · simp [Array.getElem?_eq_none h']

theorem Inv.ready_read {listed : Array Bool} {n : Nat} (hS : Sound md ops st fn lv) (h : Inv md ops st lv listed n) {i : Nat} (hi : i ∈ Region.ready md ops listed) (hs : st i = false) : lv i ≤ n := by
  obtain ⟨_, o, ho, hall⟩ := mem_ready.1 hi
  rcases hS.read i o ho hs with h0 | ⟨e, he, hb, hl⟩
  · omega
  · exact Nat.le_trans hl (h.le (hall e he hb))
theorem Inv.ready_step {listed : Array Bool} {n : Nat} (hS : Sound md ops st fn lv) (h : Inv md ops st lv listed n) {i : Nat} (hi : i ∈ Region.ready md ops listed) (hs : st i = true) : lv i = n + 1 := by
  obtain ⟨hun, o, ho, hall⟩ := mem_ready.1 hi
  obtain ⟨h1, h2⟩ := hS.step i o ho hs
  have hnot : ¬ lv i ≤ n := fun hle => by
    have := (h.step i (lt_of_ready hi) hs).2 hle
    rw [unl hun] at this
    cases this
  rcases h2 with h0 | ⟨e, he, hb, hl⟩
  · omega
  · have := h.le (hall e he hb); omega
theorem getD_set_self {listed : Array Bool} {i : Nat} (h : i < listed.size) : (listed.setIfInBounds i true).getD i false = true := by
  simp [h]
theorem closed_set {listed : Array Bool} {i : Nat} (hc : ∀ j o, ops[j]? = some o → listed.getD j false = true → ∀ e ∈ o.after, Region.binds md e = true → listed.getD e.on false = true) (hi : i ∈ Region.ready md ops listed) :
    ∀ j o, ops[j]? = some o → (listed.setIfInBounds i true).getD j false = true → ∀ e ∈ o.after, Region.binds md e = true → (listed.setIfInBounds i true).getD e.on false = true := by
  intro j o ho hj e he hb
  obtain ⟨_, oi, hoi, hall⟩ := mem_ready.1 hi
  by_cases hij : i = j
  · subst hij
    rw [hoi] at ho
    cases ho
    exact getD_set_true (hall e he hb)
  · rw [getD_set_ne false hij] at hj
    exact getD_set_true (hc j o ho hj e he hb)
theorem Inv.set_read {listed : Array Bool} {n : Nat} (h : Inv md ops st lv listed n) {i : Nat} (hi : i ∈ Region.ready md ops listed) (hl : lv i ≤ n) (hs : st i = false) : Inv md ops st lv (listed.setIfInBounds i true) n := by
  refine ⟨by simp [h.size], closed_set h.closed hi, fun j hj hsj => ?_, fun j hj hsj hlj => ?_⟩
  · rw [getD_set_ne false (fun e => by subst e; rw [hs] at hsj; cases hsj)]
    exact h.step j hj hsj
  · by_cases hij : i = j
    · subst hij; exact hl
    · rw [getD_set_ne false hij] at hlj
      exact h.read j hj hsj hlj
theorem Inv.set_step {listed : Array Bool} {n : Nat} (hS : Sound md ops st fn lv) (h : Inv md ops st lv listed n) {i : Nat} (hr : i ∈ Region.ready md ops listed) (hi : i < ops.size) (hl : lv i = n + 1) (hs : st i = true) : Inv md ops st lv (listed.setIfInBounds i true) (n + 1) := by
  refine ⟨by simp [h.size], closed_set h.closed hr, fun j hj hsj => ?_, fun j hj hsj hlj => ?_⟩
  · by_cases hij : i = j
    · subst hij
      rw [getD_set_self (by rw [h.size]; exact hi)]
      simp [hl]
    · rw [getD_set_ne false hij, h.step j hj hsj]
      have : lv j ≠ n + 1 := fun e => hij (hS.one i j hi hj hs hsj (by rw [hl, e]))
      omega
  · rw [getD_set_ne false (fun e => by subst e; rw [hs] at hsj; cases hsj)] at hlj
    have := h.read j hj hsj hlj
    omega

theorem ready_fin {listed : Array Bool} {n i : Nat} (hS : Sound md ops st fn lv) (hI : Inv md ops st lv listed n) (hi : i ∈ Region.ready md ops listed) (hf : fn i = true) : Region.ready md ops (listed.setIfInBounds i true) = [] := by
  obtain ⟨hsz, hE⟩ := hS.fin i (lt_of_ready hi) hf
  obtain ⟨hui, oi, hoi, hall⟩ := mem_ready.1 hi
  have hd : ∀ d k, k + d = i → 0 < d → listed.getD k false = true := by
    intro d
    induction d using Nat.strongRecOn with
    | ind d ih =>
      intro k hk hd
      obtain ⟨m, o, h1, h2, h3, e, he, hb, heq⟩ := hE k (by omega)
      rcases Nat.lt_or_ge m i with hm | hm
      · have := ih (i - m) (by omega) m (by omega) (by omega)
        have := hI.closed m o h3 this e he hb
        rwa [heq] at this
      · have hmi : m = i := by omega
        subst hmi
        rw [hoi] at h3
        cases h3
        have := hall e he hb
        rwa [heq] at this
  cases hr : Region.ready md ops (listed.setIfInBounds i true) with
  | nil => rfl
  | cons j l =>
    have hj : j ∈ Region.ready md ops (listed.setIfInBounds i true) := by rw [hr]; exact List.mem_cons_self
    obtain ⟨hu, oj, hoj, _⟩ := mem_ready.1 hj
    have hil : i < listed.size := by rw [hI.size]; exact lt_of_ready hi
    by_cases hji : j = i
    · subst hji
      simp [hil] at hu
    · have h1 := hd (i - j) j (by have := lt_of_ready hj; omega) (by have := lt_of_ready hj; omega)
      rw [getD_set_ne true (Ne.symm hji)] at hu
      rw [unl hu] at h1
      cases h1
theorem wpAny_end {Q : Exit → Act → World → Prop} (hQ : ∀ a w, F a w → Q .normal a w) {fuel : Nat} {listed : Array Bool} {a : Act} {n : Nat} {ws : Nat → World} (hr : Region.ready md ops listed = []) (h : wpStg P md ops R st fn lv F fuel listed a n ws) : wpAny P md ops Q fuel listed a (ws 0) := by
  cases fuel with
  | zero => exact ⟨h.1, hQ _ _ h.2⟩
  | succ fuel => exact ⟨fun h0 => hQ _ _ (h.1 h0), fun i hi => by rw [hr] at hi; cases hi⟩
/-- It is a wpAny. -/
theorem wpAny_of_stg {Q : Exit → Act → World → Prop} (hR : Rel R) (hS : Sound md ops st fn lv) (hQ : ∀ a w, F a w → Q .normal a w) : ∀ (fuel : Nat) (listed : Array Bool) (a : Act) (n : Nat) (ws : Nat → World), Inv md ops st lv listed n → InvW R n ws →
    wpStg P md ops R st fn lv F fuel listed a n ws → wpAny P md ops Q fuel listed a (ws 0)
  | 0, _, _, _, _, _, _, h => ⟨h.1, hQ _ _ h.2⟩
  | fuel + 1, listed, a, n, ws, hI, hW, h => ⟨fun h0 => hQ _ _ (h.1 h0), fun i hi => by
      have h2 := h.2 i hi
      unfold sOp at h2
      unfold wpOp
      cases ho : ops[i]? with
      | none => exact absurd (lt_of_ready hi) (by have := Array.getElem?_eq_none_iff.1 ho; omega)
      | some o =>
        simp only [ho] at h2 ⊢
        unfold sOper at h2
        split
        · rename_i hw
          simp only [hw, if_true] at h2
          left
          cases hs : st i with
          | true =>
            simp only [hs, if_true] at h2
            have hI' := hI.set_step hS hi (lt_of_ready hi) (hI.ready_step hS hi hs) hs
            have go : ∀ v w', (fn i = false → R (ws 0) w') → wpStg P md ops R st fn lv F fuel (listed.setIfInBounds i true) (a.put o.dst v) (n + 1) (push w' ws) → wpAny P md ops Q fuel (listed.setIfInBounds i true) (a.put o.dst v) w' := by
              intro v w' h3 h4
              cases hf : fn i with
              | true => exact wpAny_end hQ (ready_fin hS hI hi hf) h4
              | false => exact wpAny_of_stg hR hS hQ fuel _ _ _ _ hI' (hW.push hR (h3 hf)) h4
            unfold stepAt at h2
            unfold Oper.wp
            generalize (execOp a.eval o).run P (ws 0) = r at *
            cases r with
            | ok x w' =>
              cases x <;> simp only [stepUpon] at h2 <;> simp only [Oper.upon]
              case value v => exact go _ _ h2.1 h2.2
              case skip => exact go _ _ h2.1 h2.2
              case enter f args =>
                refine h2.mono ?_
                rintro e w'' ⟨v, rfl, h3, h4⟩
                exact go _ _ h3 h4
              case row s args =>
                refine Rows.mono h2 ?_
                rintro v w'' ⟨h3, h4⟩
                exact go _ _ h3 h4
            | halt x w' => simp only [stepUpon] at h2
          | false =>
            simp only [hs, Bool.false_eq_true, if_false] at h2
            have hl := hI.ready_read hS hi hs
            obtain ⟨hro, v, h3, h4⟩ := h2
            have h5 := h3 (ws 0) (hW _ (by omega))
            have hne := noEnter hro a.eval P (ws 0)
            unfold Oper.quietAt at h5
            unfold Oper.wp
            generalize (execOp a.eval o).run P (ws 0) = r at *
            cases r with
            | ok x w' =>
              cases x <;> simp only [Oper.quietUpon] at h5 <;> simp only [Oper.upon]
              case value u => rw [h5.1, h5.2]; exact wpAny_of_stg hR hS hQ fuel _ _ _ _ (hI.set_read hi hl hs) hW h4
              case skip => rw [h5.1, ← h5.2]; exact wpAny_of_stg hR hS hQ fuel _ _ _ _ (hI.set_read hi hl hs) hW h4
              case enter f args => exact absurd rfl (hne w' f args)
            | halt x w' => simp only [Oper.quietUpon] at h5
        · rename_i hw
          simp only [hw, if_false] at h2
          cases hs : st i with
          | true =>
            simp only [hs, if_true] at h2
            exact wpAny_of_stg hR hS hQ fuel _ _ _ (push (ws 0) ws) (hI.set_step hS hi (lt_of_ready hi) (hI.ready_step hS hi hs) hs) (hW.push hR (hR.refl _)) h2
          | false =>
            simp only [hs, Bool.false_eq_true, if_false] at h2
            exact wpAny_of_stg hR hS hQ fuel _ _ _ _ (hI.set_read hi (hI.ready_read hS hi hs) hs) hW h2⟩

/-! ### What may come up now may be taken first -/

/-- A read, or an operation that is passed over, is known to yield this. -/
def YieldsR (P : Program) (ops : Array Oper) (R : World → World → Prop) (l : Nat) (o : Oper) (v : Value) (a : Act) (n : Nat) (ws : Nat → World) : Prop :=
  (Region.wanted o (yielded ops a.tmps) = true ∧ readsOnly o.op = true ∧ ∀ w, R (ws (n - l)) w → o.quietAt P a (fun w => R (ws (n - l)) w) w v) ∨ (Region.wanted o (yielded ops a.tmps) = false ∧ v = undef)

theorem quietAt_same {o : Oper} {a : Act} (hro : readsOnly o.op = true) {C C' : World → Prop} {w : World} {v : Value} (h : o.quietAt P a C w v) : o.quietAt P a C' w v := by
  have hne := noEnter hro a.eval P w
  unfold Oper.quietAt at *
  generalize (execOp a.eval o).run P w = r at *
  cases r with
  | ok x w' =>
    cases x <;> simp only [Oper.quietUpon] at h ⊢
    case enter f args => exact absurd rfl (hne w' f args)
    all_goals exact h
  | halt x w' => simp only [Oper.quietUpon] at h
theorem quietAt_one {o : Oper} {a : Act} (hro : readsOnly o.op = true) {C C' : World → Prop} {w : World} {v u : Value} (h : o.quietAt P a C w v) (h' : o.quietAt P a C' w u) : u = v := by
  have hne := noEnter hro a.eval P w
  unfold Oper.quietAt at *
  generalize (execOp a.eval o).run P w = r at *
  cases r with
  | ok x w' =>
    cases x <;> simp only [Oper.quietUpon] at h h'
    case enter f args => exact absurd rfl (hne w' f args)
    case value x => rw [← h.2, ← h'.2]
    case skip => rw [h.2, h'.2]
  | halt x w' => simp only [Oper.quietUpon] at h

theorem YieldsR.put {i : Nat} {oi oj : Oper} {v : Value} {l n : Nat} {a : Act} {ws : Nat → World} (hsi : ∀ cs b, oi.op ≠ .select cs b) (h3 : ∀ d, oj.dst = some d → d ∉ oi.looksAt ops) (u : Value) (hy : YieldsR P ops R l oi v a n ws) : YieldsR P ops R l oi v (a.put oj.dst u) n ws := by
  unfold YieldsR Oper.quietAt at *
  rw [execOp_put oi hsi a oj.dst u h3, wanted_put oi a oj.dst u h3]
  exact hy
theorem YieldsR.push {oi : Oper} {v : Value} {l n : Nat} {a : Act} {ws : Nat → World} (hl : l ≤ n) (w' : World) (hy : YieldsR P ops R l oi v a n ws) : YieldsR P ops R l oi v a (n + 1) (push w' ws) := by
  unfold YieldsR at *
  rw [push_sub hl]
  exact hy

theorem YieldsR.sOp {i : Nat} {o : Oper} {v : Value} {a : Act} {n : Nat} {ws : Nat → World} (hi : ops[i]? = some o) (hs : st i = false) (hy : YieldsR P ops R (lv i) o v a n ws) {K : Act → Nat → (Nat → World) → Prop} (h : K (a.put o.dst v) n ws) : sOp P ops R st fn lv i K a n ws := by
  unfold Stg.sOp sOper
  simp only [hi, hs]
  rcases hy with ⟨hw, hro, hv⟩ | ⟨hw, rfl⟩
  · simp only [hw, if_true, Bool.false_eq_true, if_false]; exact ⟨hro, v, hv, h⟩
  · simp only [hw, Bool.false_eq_true, if_false]; exact h

/-- A read first. -/
theorem first_read {i : Nat} {oi : Oper} {v : Value} (hS : Sound md ops st fn lv) (hi : ops[i]? = some oi) (hsi : st i = false) (hsel : ∀ (j : Nat) (o : Oper) cs b, ops[j]? = some o → o.op ≠ .select cs b) :
    ∀ (fuel : Nat) (listed : Array Bool) (a : Act) (n : Nat) (ws : Nat → World), Inv md ops st lv listed n →
      (∀ j oj, ops[j]? = some oj → j ≠ i → listed.getD j true = false → (∀ e ∈ oj.after, Region.binds md e = true → e.on ≠ i) → oi.apart ops oj = true) →
      i ∈ Region.ready md ops listed → YieldsR P ops R (lv i) oi v a n ws →
      wpStg P md ops R st fn lv F fuel (listed.setIfInBounds i true) (a.put oi.dst v) n ws → wpStg P md ops R st fn lv F (fuel + 1) listed a n ws := by
  intro fuel
  induction fuel with
  | zero =>
    intro listed a n ws _ _ hr hy H
    refine ⟨fun h => (by rw [h] at hr; cases hr), fun j hj => ?_⟩
    by_cases hji : j = i
    · subst hji; exact hy.sOp hi hsi H
    · have := ready_mono hj hji
      rw [H.1] at this
      cases this
  | succ fuel ih =>
    intro listed a n ws hI hfree hr hy H
    refine ⟨fun h => (by rw [h] at hr; cases hr), fun j hj => ?_⟩
    by_cases hji : j = i
    · subst hji; exact hy.sOp hi hsi H
    · have h1 := H.2 j (ready_mono hj hji)
      have hli := hI.ready_read hS hr hsi
      obtain ⟨hjun, oj, hoj, hall⟩ := mem_ready.1 hj
      have hnot : ∀ e ∈ oj.after, Region.binds md e = true → e.on ≠ i := fun e he hb heq => by
        have h1 := hall e he hb
        have h0 := (mem_ready.1 hr).1
        rw [heq, unl h0] at h1
        cases h1
      obtain ⟨p1, p2, p3⟩ := Oper.apart_spec (hfree j oj hoj hji hjun hnot)
      have hfree' : ∀ k ok, ops[k]? = some ok → k ≠ i → (listed.setIfInBounds j true).getD k true = false →
          (∀ e ∈ ok.after, Region.binds md e = true → e.on ≠ i) → oi.apart ops ok = true := fun k ok hk hki hun hno => by
        refine hfree k ok hk hki ?_ hno
        by_cases hjk : j = k
        · subst hjk; exact hjun
        · rw [getD_set_ne true hjk] at hun; exact hun
      have go : ∀ u n' ws', Inv md ops st lv (listed.setIfInBounds j true) n' → YieldsR P ops R (lv i) oi v (a.put oj.dst u) n' ws' →
          wpStg P md ops R st fn lv F fuel ((listed.setIfInBounds i true).setIfInBounds j true) ((a.put oi.dst v).put oj.dst u) n' ws' → wpStg P md ops R st fn lv F (fuel + 1) (listed.setIfInBounds j true) (a.put oj.dst u) n' ws' := by
        intro u n' ws' hI' hy' h3
        refine ih _ _ _ _ hI' hfree' (ready_mono hr (Ne.symm hji)) hy' ?_
        rw [Array.setIfInBounds_comm _ _ hji, ← Act.put_comm a v u p2]
        exact h3
      have keep : ∀ u, YieldsR P ops R (lv i) oi v (a.put oj.dst u) n ws := fun u => YieldsR.put (i := i) (hsel i oi · · hi) p3 u hy
      unfold sOp sOper at *
      simp only [hoj] at h1 ⊢
      rw [wanted_put oj a oi.dst v p1] at h1
      cases hsj : st j with
      | true =>
        have hI' := hI.set_step hS hj (lt_of_ready hj) (hI.ready_step hS hj hsj) hsj
        simp only [hsj, if_true] at h1 ⊢
        split
        · rename_i hw
          simp only [hw, if_true] at h1
          unfold stepAt at *
          rw [execOp_put oj (hsel j oj · · hoj) a oi.dst v p1] at h1
          exact stepUpon_mono (fun u w' ⟨h2, h3⟩ => ⟨h2, go u _ _ hI' ((keep u).push hli w') h3⟩) h1
        · rename_i hw
          simp only [hw, if_false] at h1
          exact go _ _ _ hI' ((keep _).push hli _) h1
      | false =>
        have hI' := hI.set_read hj (hI.ready_read hS hj hsj) hsj
        simp only [hsj, Bool.false_eq_true, if_false] at h1 ⊢
        split
        · rename_i hw
          simp only [hw, if_true] at h1
          obtain ⟨hro, u, h2, h3⟩ := h1
          refine ⟨hro, u, fun w hw' => ?_, go u _ _ hI' (keep u) h3⟩
          have := h2 w hw'
          unfold Oper.quietAt at *
          rwa [execOp_put oj (hsel j oj · · hoj) a oi.dst v p1] at this
        · rename_i hw
          simp only [hw, if_false] at h1
          exact go _ _ _ hI' (keep _) h1

/-- What is known of a step that may come up now. -/
def StepS (P : Program) (ops : Array Oper) (R : World → World → Prop) (fin : Bool) (o : Oper) (K : Act → Nat → (Nat → World) → Prop) (a : Act) (n : Nat) (ws : Nat → World) : Prop :=
  if Region.wanted o (yielded ops a.tmps) = true then stepAt P o a (ws 0) (fun v w' => (fin = false → R (ws 0) w') ∧ K (a.put o.dst v) (n + 1) (push w' ws)) else K (a.put o.dst undef) (n + 1) (push (ws 0) ws)

/-- A step first. -/
theorem first_step {i : Nat} {oi : Oper} (hR : Rel R) (hS : Sound md ops st fn lv) (hi : ops[i]? = some oi) (hsi : st i = true) (hsel : ∀ (j : Nat) (o : Oper) cs b, ops[j]? = some o → o.op ≠ .select cs b) :
    ∀ (fuel : Nat) (listed : Array Bool) (a : Act) (n : Nat) (ws : Nat → World), Inv md ops st lv listed n → InvW R n ws →
      (∀ j oj, ops[j]? = some oj → j ≠ i → listed.getD j true = false → (∀ e ∈ oj.after, Region.binds md e = true → e.on ≠ i) → oi.apart ops oj = true) →
      i ∈ Region.ready md ops listed → StepS P ops R (fn i) oi (wpStg P md ops R st fn lv F fuel (listed.setIfInBounds i true)) a n ws → wpStg P md ops R st fn lv F (fuel + 1) listed a n ws := by
  intro fuel
  induction fuel with
  | zero =>
    intro listed a n ws hI hW _ hr H
    refine ⟨fun h => (by rw [h] at hr; cases hr), fun j hj => ?_⟩
    by_cases hji : j = i
    · subst hji
      unfold sOp sOper
      simp only [hi, hsi, if_true]
      exact H
    · have hrm := ready_mono hj hji
      have hex : Region.ready md ops (listed.setIfInBounds i true) = [] := by
        unfold StepS at H
        split at H
        · obtain ⟨v, w, _, h2⟩ := stepUpon_some H; exact h2.1
        · exact H.1
      rw [hex] at hrm
      cases hrm
  | succ fuel ih =>
    intro listed a n ws hI hW hfree hr H
    refine ⟨fun h => (by rw [h] at hr; cases hr), fun j hj => ?_⟩
    by_cases hji : j = i
    · subst hji
      unfold sOp sOper
      simp only [hi, hsi, if_true]
      exact H
    · have hli := hI.ready_step hS hr hsi
      obtain ⟨hjun, oj, hoj, hall⟩ := mem_ready.1 hj
      have hsj : st j = false := by
        cases hsj : st j with
        | false => rfl
        | true => exact absurd (hS.one j i (lt_of_ready hj) (lt_of_ready hr) hsj hsi (by rw [hI.ready_step hS hj hsj, hli])) hji
      have hlj := hI.ready_read hS hj hsj
      have hnot : ∀ e ∈ oj.after, Region.binds md e = true → e.on ≠ i := fun e he hb heq => by
        have h1 := hall e he hb
        have h0 := (mem_ready.1 hr).1
        rw [heq, unl h0] at h1
        cases h1
      obtain ⟨p1, p2, p3⟩ := Oper.apart_spec (hfree j oj hoj hji hjun hnot)
      have hfree' : ∀ k ok, ops[k]? = some ok → k ≠ i → (listed.setIfInBounds j true).getD k true = false →
          (∀ e ∈ ok.after, Region.binds md e = true → e.on ≠ i) → oi.apart ops ok = true := fun k ok hk hki hun hno => by
        refine hfree k ok hk hki ?_ hno
        by_cases hjk : j = k
        · subst hjk; exact hjun
        · rw [getD_set_ne true hjk] at hun; exact hun
      have hI' := hI.set_read hj hlj hsj
      have go : ∀ u, StepS P ops R (fn i) oi (wpStg P md ops R st fn lv F fuel ((listed.setIfInBounds j true).setIfInBounds i true)) (a.put oj.dst u) n ws → wpStg P md ops R st fn lv F (fuel + 1) (listed.setIfInBounds j true) (a.put oj.dst u) n ws := fun u h3 =>
        ih _ _ _ _ hI' hW hfree' (ready_mono hr (Ne.symm hji)) h3
      -- what the other one yields, whatever the step yields
      have read : ∀ v w', wpStg P md ops R st fn lv F (fuel + 1) (listed.setIfInBounds i true) (a.put oi.dst v) (n + 1) (push w' ws) →
          (Region.wanted oj (yielded ops a.tmps) = true ∧ readsOnly oj.op = true ∧ ∃ u, (∀ w, R (ws (n - lv j)) w → oj.quietAt P a (fun w => R (ws (n - lv j)) w) w u) ∧ wpStg P md ops R st fn lv F fuel ((listed.setIfInBounds j true).setIfInBounds i true) ((a.put oj.dst u).put oi.dst v) (n + 1) (push w' ws)) ∨
          (Region.wanted oj (yielded ops a.tmps) = false ∧ wpStg P md ops R st fn lv F fuel ((listed.setIfInBounds j true).setIfInBounds i true) ((a.put oj.dst undef).put oi.dst v) (n + 1) (push w' ws)) := by
        intro v w' h0
        have h1 := h0.2 j (ready_mono hj hji)
        unfold sOp sOper at h1
        simp only [hoj, hsj, Bool.false_eq_true, if_false] at h1
        rw [wanted_put oj a oi.dst v p1, push_sub hlj, Array.setIfInBounds_comm _ _ (Ne.symm hji)] at h1
        cases hw : Region.wanted oj (yielded ops a.tmps) with
        | true =>
          simp only [hw, if_true] at h1
          obtain ⟨hro, u, h2, h3⟩ := h1
          refine .inl ⟨rfl, hro, u, fun w hw2 => ?_, by rw [← Act.put_comm a v u p2]; exact h3⟩
          have := h2 w hw2
          unfold Oper.quietAt at *
          rwa [execOp_put oj (hsel j oj · · hoj) a oi.dst v p1] at this
        | false =>
          simp only [hw, Bool.false_eq_true, if_false] at h1
          exact .inr ⟨rfl, by rw [← Act.put_comm a v undef p2]; exact h1⟩
      unfold sOp sOper
      simp only [hoj, hsj, Bool.false_eq_true, if_false]
      unfold StepS at H
      cases hwi : Region.wanted oi (yielded ops a.tmps) with
      | false =>
        simp only [hwi, Bool.false_eq_true, if_false] at H
        rcases read undef (ws 0) H with ⟨hw, hro, u, h2, h3⟩ | ⟨hw, h3⟩
        · simp only [hw, if_true]
          refine ⟨hro, u, h2, go u ?_⟩
          unfold StepS
          rw [wanted_put oi a oj.dst u p3]
          simp only [hwi, Bool.false_eq_true, if_false]
          exact h3
        · simp only [hw, Bool.false_eq_true, if_false]
          refine go _ ?_
          unfold StepS
          rw [wanted_put oi a oj.dst undef p3]
          simp only [hwi, Bool.false_eq_true, if_false]
          exact h3
      | true =>
        simp only [hwi, if_true] at H
        obtain ⟨v0, w0, hw0, h0⟩ := stepUpon_some H
        rcases read v0 w0 h0 with ⟨hw, hro, u, h2, _⟩ | ⟨hw, _⟩
        · simp only [hw, if_true]
          refine ⟨hro, u, h2, go u ?_⟩
          unfold StepS
          rw [wanted_put oi a oj.dst u p3]
          simp only [hwi, if_true]
          unfold stepAt at *
          rw [execOp_put oi (hsel i oi · · hi) a oj.dst u p3]
          refine stepUpon_mono (fun v w' ⟨h4, h5⟩ => ⟨h4, ?_⟩) H
          rcases read v w' h5 with ⟨_, _, u', h6, h7⟩ | ⟨hw', _⟩
          · have e1 : u = u' := quietAt_one hro (h6 (ws 0) (hW _ (by omega))) (h2 (ws 0) (hW _ (by omega)))
            rw [e1]
            exact h7
          · rw [hw] at hw'; cases hw'
        · simp only [hw, Bool.false_eq_true, if_false]
          refine go _ ?_
          unfold StepS
          rw [wanted_put oi a oj.dst undef p3]
          simp only [hwi, if_true]
          unfold stepAt at *
          rw [execOp_put oi (hsel i oi · · hi) a oj.dst undef p3]
          refine stepUpon_mono (fun v w' ⟨h4, h5⟩ => ⟨h4, ?_⟩) H
          rcases read v w' h5 with ⟨hw', _⟩ | ⟨_, h7⟩
          · rw [hw] at hw'; cases hw'
          · exact h7

/-! ### The walk in the order of the text -/
def wpLex (P : Program) (ops : Array Oper) (R : World → World → Prop) (st fn : Nat → Bool) (lv : Nat → Nat) (F : Act → World → Prop) : List Oper → Nat → Act → Nat → (Nat → World) → Prop
  | [], _, a, _, ws => F a (ws 0)
  | o :: l, k, a, n, ws => sOper P ops R (st k) (fn k) (lv k) o (wpLex P ops R st fn lv F l (k + 1)) a n ws

theorem wpStg_lex (hR : Rel R) (hS : Sound md ops st fn lv) (hs : Region.noSelect ops = true) : ∀ (l : List Oper) (k : Nat) (listed : Array Bool) (a : Act) (n : Nat) (ws : Nat → World), (∀ j, l[j]? = ops[k + j]?) → Inv md ops st lv listed n → InvW R n ws →
    Region.lexFrom md ops l.length k listed = true → wpLex P ops R st fn lv F l k a n ws → wpStg P md ops R st fn lv F l.length listed a n ws
  | [], _, _, _, _, _, _, _, _, hB, h => ⟨by simpa [Region.lexFrom] using hB, h⟩
  | o :: l, k, listed, a, n, ws, hl, hI, hW, hB, h => by
    have h0 : ops[k]? = some o := by simpa using (hl 0).symm
    simp only [List.length_cons, Region.lexFrom, Bool.and_eq_true] at hB
    obtain ⟨⟨hr, hf⟩, hB'⟩ := hB
    have hr' : k ∈ Region.ready md ops listed := by simpa using hr
    have hl' : ∀ j, l[j]? = ops[k + 1 + j]? := fun j => by have := hl (j + 1); simpa [Nat.add_assoc, Nat.add_comm 1 j] using this
    unfold wpLex sOper at h
    cases hsk : st k with
    | true =>
      have hI' := hI.set_step hS hr' (lt_of_ready hr') (hI.ready_step hS hr' hsk) hsk
      simp only [hsk, if_true] at h
      refine first_step hR hS h0 hsk (Region.noSelect_spec hs) l.length listed a n ws hI hW (Region.free_spec h0 hf) hr' ?_
      unfold StepS
      split
      · rename_i hw
        simp only [hw, if_true] at h
        refine stepUpon_mono (fun v w' ⟨h1, h2⟩ => ⟨h1, ?_⟩) h
        cases hf : fn k with
        | false => exact wpStg_lex hR hS hs l (k + 1) _ _ _ _ hl' hI' (hW.push hR (h1 hf)) hB' h2
        | true =>
          have hre := ready_fin hS hI hr' hf
          cases l with
          | nil => exact ⟨hre, h2⟩
          | cons o' l =>
            simp only [List.length_cons, Region.lexFrom, Bool.and_eq_true] at hB'
            have := hB'.1.1
            rw [hre] at this
            simp at this
      · rename_i hw
        simp only [hw, if_false] at h
        exact wpStg_lex hR hS hs l (k + 1) _ _ _ _ hl' hI' (hW.push hR (hR.refl _)) hB' h
    | false =>
      have hI' := hI.set_read hr' (hI.ready_read hS hr' hsk) hsk
      simp only [hsk, Bool.false_eq_true, if_false] at h
      cases hw : Region.wanted o (yielded ops a.tmps) with
      | true =>
        simp only [hw, if_true] at h
        obtain ⟨hro, v, h1, h2⟩ := h
        exact first_read hS h0 hsk (Region.noSelect_spec hs) l.length listed a n ws hI (Region.free_spec h0 hf) hr' (.inl ⟨hw, hro, h1⟩) (wpStg_lex hR hS hs l (k + 1) _ _ _ _ hl' hI' hW hB' h2)
      | false =>
        simp only [hw, Bool.false_eq_true, if_false] at h
        exact first_read hS h0 hsk (Region.noSelect_spec hs) l.length listed a n ws hI (Region.free_spec h0 hf) hr' (.inr ⟨hw, rfl⟩) (wpStg_lex hR hS hs l (k + 1) _ _ _ _ hl' hI' hW hB' h)
end

/-! ### Levels, reckoned -/
def stOf (ops : Array Oper) (i : Nat) : Bool := match ops[i]? with
  | some o => !readsOnly o.op
  | none => false
def lvGo (md : Region.Mode) : List Oper → Array Nat → Nat → Array Nat
  | [], acc, _ => acc
  | o :: l, acc, c => if readsOnly o.op then lvGo md l (acc.push ((o.after.toList.filter fun e => Region.binds md e).foldl (fun m e => max m (acc.getD e.on 0)) 0)) c else lvGo md l (acc.push (c + 1)) (c + 1)
def lvs (md : Region.Mode) (ops : Array Oper) : Array Nat := lvGo md ops.toList #[] 0
def lvOf (md : Region.Mode) (ops : Array Oper) (i : Nat) : Nat := (lvs md ops).getD i 0

/-- The last one, which waits for all others: for each other one a later one waits. -/
def waitsFor (md : Region.Mode) (ops : Array Oper) (k : Nat) : Nat → Bool
  | 0 => false
  | d + 1 => waitsFor md ops k d || match ops[k + 1 + d]? with
    | some o => o.after.any fun e => Region.binds md e && e.on == k
    | none => false
def fnOf (md : Region.Mode) (ops : Array Oper) (i : Nat) : Bool := stOf ops i && (i + 1 == ops.size && (List.range i).all fun k => waitsFor md ops k (i - k))
theorem waitsFor_spec {md : Region.Mode} {ops : Array Oper} {k : Nat} : ∀ (d : Nat), waitsFor md ops k d = true → ∃ m o, k < m ∧ m ≤ k + d ∧ ops[m]? = some o ∧ ∃ e ∈ o.after, Region.binds md e = true ∧ e.on = k
  | 0, h => by cases h
  | d + 1, h => by
    unfold waitsFor at h
    rw [Bool.or_eq_true] at h
    rcases h with h | h
    · obtain ⟨m, o, h1, h2, h3⟩ := waitsFor_spec d h
      exact ⟨m, o, h1, by omega, h3⟩
    · cases ho : ops[k + 1 + d]? with
      | none => rw [ho] at h; cases h
      | some o =>
        rw [ho] at h
        obtain ⟨e, he, hb⟩ := Array.any_eq_true'.1 h
        simp only [Bool.and_eq_true, beq_iff_eq] at hb
        exact ⟨k + 1 + d, o, by omega, by omega, ho, e, he, hb.1, hb.2⟩
def soundAt (md : Region.Mode) (lv : Nat → Nat) (o : Oper) (j : Nat) : Bool :=
  if readsOnly o.op then lv j == 0 || o.after.any fun e => Region.binds md e && decide (lv j ≤ lv e.on)
  else decide (1 ≤ lv j) && (lv j == 1 || o.after.any fun e => Region.binds md e && decide (lv j ≤ lv e.on + 1))
def soundGo (md : Region.Mode) (lv : Nat → Nat) : List Oper → Nat → Bool
  | [], _ => true
  | o :: l, j => soundAt md lv o j && soundGo md lv l (j + 1)
def oneB (ops : Array Oper) (lv : Nat → Nat) : Bool := (List.range ops.size).all fun i => !stOf ops i || (List.range ops.size).all fun j => !stOf ops j || lv i != lv j || i == j
def soundB (md : Region.Mode) (ops : Array Oper) : Bool := let t := lvs md ops; soundGo md (fun i => t.getD i 0) ops.toList 0 && oneB ops (fun i => t.getD i 0)

section
variable {P : Program} {ops : Array Oper} {md : Region.Mode}
theorem soundGo_at {lv : Nat → Nat} : ∀ (l : List Oper) (j : Nat), soundGo md lv l j = true → ∀ i o, l[i]? = some o → soundAt md lv o (j + i) = true
  | [], _, _, i, o, h => by simp at h
  | o :: l, j, hb, i, o', h => by
    simp only [soundGo, Bool.and_eq_true] at hb
    cases i with
    | zero => simp at h; subst h; exact hb.1
    | succ i =>
      have := soundGo_at l (j + 1) hb.2 i o' (by simpa using h)
      rwa [show j + (i + 1) = j + 1 + i by omega]
theorem sound_of (h : soundB md ops = true) : Sound md ops (stOf ops) (fnOf md ops) (lvOf md ops) := by
  simp only [soundB, Bool.and_eq_true] at h
  have hat : ∀ j o, ops[j]? = some o → soundAt md (lvOf md ops) o j = true := fun j o ho => by
    have := soundGo_at ops.toList 0 h.1 j o (by simpa using ho)
    rw [Nat.zero_add] at this
    exact this
  refine ⟨fun j o ho hs => ?_, fun j o ho hs => ?_, fun i j hi hj hsi hsj hl => ?_, fun i hi hf => ?_⟩
  · have := hat j o ho
    have hro : readsOnly o.op = false := by simpa [stOf, ho] using hs
    simp only [soundAt, hro, Bool.false_eq_true, if_false, Bool.and_eq_true, Bool.or_eq_true, decide_eq_true_eq, beq_iff_eq, Array.any_eq_true'] at this
    exact this
  · have := hat j o ho
    have hro : readsOnly o.op = true := by simpa [stOf, ho] using hs
    simp only [soundAt, hro, if_true, Bool.and_eq_true, Bool.or_eq_true, decide_eq_true_eq, beq_iff_eq, Array.any_eq_true'] at this
    exact this
  · have := h.2
    unfold oneB at this
    have h1 := List.all_eq_true.1 this i (List.mem_range.2 hi)
    rw [hsi] at h1
    simp only [Bool.not_true, Bool.false_or] at h1
    have h2 := List.all_eq_true.1 h1 j (List.mem_range.2 hj)
    rw [hsj] at h2
    have : ((lvs md ops).getD i 0 == (lvs md ops).getD j 0) = true := by
      simp only [beq_iff_eq]; exact hl
    simp only [bne, this, Bool.not_true, Bool.false_or, beq_iff_eq] at h2
    exact h2
  · unfold fnOf at hf
    simp only [Bool.and_eq_true, beq_iff_eq] at hf
    refine ⟨hf.2.1, fun k hk => ?_⟩
    obtain ⟨m, o, h1, h2, h3⟩ := waitsFor_spec _ (List.all_eq_true.1 hf.2.2 k (List.mem_range.2 hk))
    exact ⟨m, o, h1, by omega, h3⟩
end

/-! ### The walk's rules -/
/-- A later world. -/
structure Later (R : World → World → Prop) (w : World) where
  val : World
  rel : R w val
/-- All that there was is as it was. -/
def Ex (w w' : World) : Prop := Below w.heap.size w w'
theorem Ex.rel : Rel Ex := ⟨fun w => Below.refl _ _, fun {a b c} h1 h2 => Below.trans h1 (Below.mono h2 h1.size)⟩
instance (w : World) : Nonempty (Later Ex w) := ⟨⟨w, Ex.rel.refl w⟩⟩
theorem cells {w : World} {b o : Nat} {v : Value} (h : w.cell? ⟨b, o, none⟩ = some v) (hb : b < w.heap.size) : ∀ x : Later Ex w, x.val.cell? ⟨b, o, none⟩ = some v := fun x => ((bcell x.rel).1 b o hb).trans h
/-- Some blocks are as they were. -/
def Keep (s : Nat → Prop) (w w' : World) : Prop := ∀ b, s b → w'.heap[b]? = w.heap[b]?
theorem Keep.rel (s : Nat → Prop) : Rel (Keep s) := ⟨fun w b _ => rfl, fun {a b c} h1 h2 k hk => Eq.trans (h2 k hk) (h1 k hk)⟩
instance (s : Nat → Prop) (w : World) : Nonempty (Later (Keep s) w) := ⟨⟨w, (Keep.rel s).refl w⟩⟩
theorem Keep.cells {s : Nat → Prop} {w : World} {b o : Nat} {v : Value} (h : w.cell? ⟨b, o, none⟩ = some v) (hs : s b) : ∀ x : Later (Keep s) w, x.val.cell? ⟨b, o, none⟩ = some v := fun x => by
  have := x.rel b hs
  unfold World.cell? at h ⊢
  simp only [this]
  exact h
theorem Keep.of_grown {s : Nat → Prop} {w w' : World} {row : Option Nat} (h : w.grownBy w' row) (hs : ∀ b, s b → b < w.heap.size ∧ some b ≠ row) : Keep s w w' := fun b hb => h.block b (hs b hb).1 (hs b hb).2
theorem Keep.of_below {s : Nat → Prop} {w w' : World} {n : Nat} (h : Below n w w') (hs : ∀ b, s b → b < n) : Keep s w w' := fun b hb => h.block b (hs b hb)
def Walk (P : Program) (ops : Array Oper) (R : World → World → Prop) (F : Act → World → Prop) : List Oper → Nat → Act → Nat → (Nat → World) → Prop := wpLex P ops R (stOf ops) (fnOf .any ops) (lvOf .any ops) F

/-- Operations that never leave anything for later, and enter no function. -/
def plainOp : Op → Bool
  | .alloc _ | .box .. | .buildSlice .. | .store .. | .makeMap .. | .makeSlice .. | .mapUpdate .. | .insert .. => true
  | .call c => match c.callee with
    | .builtin .append | .builtin .copy => true
    | _ => false
  | _ => false
def ND (s : Sem Next) : Prop := ∀ (P : Program) (w w' : World) (d : Deferred), ¬ s.run P w = .ok (.defer d) w'
theorem ND.bind {α : Type} {s : Sem α} {k : α → Sem Next} (h : ∀ x, ND (k x)) : ND (s >>= k) := by
  intro P w w' d
  rw [Sem.run_bind]
  cases s.run P w with
  | ok x w1 => simp only [Result.andThen]; exact h x P w1 w' d
  | halt x w1 => simp [Result.andThen]
theorem ND.value (v : Value) : ND (pure (Next.value v)) := by
  intro P w w' d
  simp [Sem.run_pure]
theorem ND.skip : ND (pure Next.skip) := by
  intro P w w' d
  simp [Sem.run_pure]
theorem noDefer {o : Oper} (h : plainOp o.op = true) (ρ : Operand → Value) : ND (execOp ρ o) := by
  obtain ⟨dst, op, type, pos, after, guard⟩ := o
  cases op <;> simp only [plainOp] at h <;> simp only [execOp]
  case call c =>
    obtain ⟨cl, cargs, ct⟩ := c
    cases cl with
    | builtin b =>
      cases b <;> simp only [Bool.false_eq_true] at h <;> (simp only [resolve]; intro P w w' d; simp only [Sem.run_bind, Sem.run_pure, Result.andThen_ok, invoke, builtin]; unfold Result.andThen; split <;> simp)
    | invoke r n => simp at h
    | value f => simp at h
  all_goals first | exact ND.bind fun x => ND.value _ | exact ND.bind fun x => ND.skip | cases h

theorem entered {P : Program} {f : FuncId} {fn : Func} (hf : P.funcs[f]? = some fn) (hname : (fn.name != "runtime.NumGoroutine") = true) (hb : fn.body.isSome = true) (args : Array Value) (w : World) : (callFunc f args).run P w = .ok (.enter f args) w := by
  have h1 : fn.name ≠ "runtime.NumGoroutine" := by simpa using hname
  obtain ⟨c, hc⟩ := Option.isSome_iff_exists.1 hb
  simp [callFunc, hf, h1, hc]
section
variable {P : Program} {ops : Array Oper} {R : World → World → Prop} {F : Act → World → Prop} {o : Oper} {l : List Oper} {k n : Nat} {a : Act} {ws : Nat → World}
theorem wp_region' (R : World → World → Prop) (hR : Rel R) {id : Nat} {Q : Exit → Act → World → Prop} {a : Act} {w : World} {l : List Oper}
    (h : Walk P l.toArray R (fun a w => Q .normal a w) l 0 a 0 (fun _ => w.drew)) (hm : P.follows .mixedOrders = true) (hB : Region.lexB .any l.toArray = true) (hS : soundB .any l.toArray = true) : (Code.region id l.toArray true).wp P Q a w := by
  simp only [Region.lexB, Bool.and_eq_true] at hB
  refine wp_region_any hm ?_
  have hst : ∀ j, j < l.toArray.size → (Array.replicate l.toArray.size false).getD j false = false := fun j hj => by rw [Array.getD_eq_getD_getElem?, Array.getElem?_replicate]; split <;> rfl
  have hI : Inv .any l.toArray (stOf l.toArray) (lvOf .any l.toArray) (Array.replicate l.toArray.size false) 0 := by
    refine ⟨by simp, fun j o ho hj => ?_, fun j hj hs => ?_, fun j hj hs hl => ?_⟩
    · rw [hst j (Array.getElem?_eq_some_iff.1 ho).1] at hj; cases hj
    · rw [hst j hj]
      obtain ⟨o, ho⟩ : ∃ o, l.toArray[j]? = some o := ⟨_, Array.getElem?_eq_getElem hj⟩
      have := ((sound_of hS).step j o ho hs).1
      simp only [Bool.false_eq_true, false_iff]
      omega
    · rw [hst j hj] at hl; cases hl
  have hW : InvW R 0 (fun _ => w.drew) := fun k hk => hR.refl _
  have := wpStg_lex hR (sound_of hS) hB.1 l 0 (Array.replicate l.toArray.size false) a 0 (fun _ => w.drew) (by simp) hI hW (by simpa using hB.2) h
  exact wpAny_of_stg (F := fun a w => Q .normal a w) hR (sound_of hS) (fun _ _ h => h) _ _ _ _ _ hI hW (by simpa using this)

theorem wp_region {id : Nat} {Q : Exit → Act → World → Prop} {a : Act} {w : World} {l : List Oper} (hk : (P.follows .mixedOrders && Region.lexB .any l.toArray && soundB .any l.toArray) = true) (R : World → World → Prop) (hR : Rel R)
    (h : Walk P l.toArray R (fun a w => Q .normal a w) l 0 a 0 (fun _ => w.drew)) : (Code.region id l.toArray true).wp P Q a w := by
  rw [Bool.and_eq_true, Bool.and_eq_true] at hk
  exact wp_region' R hR h hk.1.1 hk.1.2 hk.2
theorem nil (W : World) (hb : ws 0 = W) (h : F a W) : Walk P ops R F [] k a n ws := by subst hb; exact h
/-- A read: its base is the world d steps ago. -/
theorem read (d : Nat) (hk : (!stOf ops k && readsOnly o.op && Region.wanted o (yielded ops a.tmps) && n - lvOf .any ops k == d) = true) (base : World) (hb : ws d = base)
    (h : ∀ K : Act → Prop, (∀ a, Walk P ops R F l (k + 1) a n ws → K a) → o.quiet P a (fun w' => ∃ x : Later R base, w' = x.val) K) : Walk P ops R F (o :: l) k a n ws := by
  simp only [Bool.and_eq_true, Bool.not_eq_true', beq_iff_eq] at hk
  obtain ⟨⟨⟨hs, hr⟩, hw⟩, hd⟩ := hk
  have hC : (fun w' => ∃ x : Later R base, w' = x.val) = (fun w => R (ws (n - lvOf .any ops k)) w) := by
    funext w
    rw [hd, hb]
    exact propext ⟨fun ⟨x, hx⟩ => by rw [hx]; exact x.rel, fun hx => ⟨⟨w, hx⟩, rfl⟩⟩
  have := h _ (fun a h => h)
  rw [hC] at this
  unfold Walk wpLex sOper
  simp only [hw, hs, if_true, Bool.false_eq_true, if_false]
  exact ⟨hr, this⟩
/-- Any world. -/
structure Any where
  val : World
instance : Nonempty Any := ⟨⟨default⟩⟩
/-- A read that looks at no memory. -/
theorem readW (hk : (!stOf ops k && readsOnly o.op && Region.wanted o (yielded ops a.tmps)) = true)
    (h : ∀ K : Act → Prop, (∀ a, Walk P ops R F l (k + 1) a n ws → K a) → o.quiet P a (fun w' => ∃ x : Any, w' = x.val) K) : Walk P ops R F (o :: l) k a n ws := by
  simp only [Bool.and_eq_true, Bool.not_eq_true'] at hk
  obtain ⟨⟨hs, hr⟩, hw⟩ := hk
  obtain ⟨v, h1, h2⟩ := h _ (fun a h => h)
  unfold Walk wpLex sOper
  simp only [hw, hs, if_true, Bool.false_eq_true, if_false]
  refine ⟨hr, v, fun w _ => ?_, h2⟩
  have h3 := h1 w ⟨⟨w⟩, rfl⟩
  have hne := noEnter hr a.eval P w
  unfold Oper.quietAt at *
  generalize (execOp a.eval o).run P w = r at *
  cases r with
  | ok x w' =>
    cases x <;> simp only [Oper.quietUpon] at h3 ⊢
    case enter f args => exact absurd rfl (hne w' f args)
    all_goals exact h3
  | halt x w' => simp only [Oper.quietUpon] at h3
/-- An operation that is passed over. -/
theorem skip (hk : (!stOf ops k && !Region.wanted o (yielded ops a.tmps)) = true) (h : ∀ A, A = a.put o.dst undef → Walk P ops R F l (k + 1) A n ws) : Walk P ops R F (o :: l) k a n ws := by
  simp only [Bool.and_eq_true, Bool.not_eq_true'] at hk
  obtain ⟨hs, hw⟩ := hk
  unfold Walk wpLex sOper
  simp only [hw, hs, Bool.false_eq_true, if_false]
  exact h _ rfl
theorem skipStep (hk : (stOf ops k && !Region.wanted o (yielded ops a.tmps)) = true) (W : World) (hb : ws 0 = W) (h : ∀ A, A = a.put o.dst undef → Walk P ops R F l (k + 1) A (n + 1) (push W ws)) : Walk P ops R F (o :: l) k a n ws := by
  simp only [Bool.and_eq_true, Bool.not_eq_true'] at hk
  obtain ⟨hs, hw⟩ := hk
  subst hb
  unfold Walk wpLex sOper
  simp only [hw, hs, Bool.false_eq_true, if_false, if_true]
  exact h _ rfl
/-- A step. -/
theorem step (W : World) (hs : stOf ops k = true) (hb : ws 0 = W) (hw : Region.wanted o (yielded ops a.tmps) = true)
    (h : stepAt P o a W fun v w' => (fnOf .any ops k = false → R W w') ∧ ∀ A, A = a.put o.dst v → Walk P ops R F l (k + 1) A (n + 1) (push w' ws)) : Walk P ops R F (o :: l) k a n ws := by
  subst hb
  unfold Walk wpLex sOper
  simp only [hw, hs, if_true]
  exact stepUpon_mono (fun v w' ⟨h1, h2⟩ => ⟨h1, h2 _ rfl⟩) h
/-- A step that is no call, from which nothing is asked of the world: the last one. -/
theorem stepG (W : World) (hp : plainOp o.op = true) (hs : stOf ops k = true) (hb : ws 0 = W) (hw : Region.wanted o (yielded ops a.tmps) = true)
    (h : ∀ K : Act → World → Prop, (∀ A w', (fnOf .any ops k = false → R W w') → (∀ A', A' = A → Walk P ops R F l (k + 1) A' (n + 1) (push w' ws)) → K A w') → o.wp P a W K (fun _ _ _ => False)) : Walk P ops R F (o :: l) k a n ws := by
  refine step W hs hb hw ?_
  have h1 := h (fun A w' => (fnOf .any ops k = false → R W w') ∧ Walk P ops R F l (k + 1) A (n + 1) (push w' ws)) (fun A w' h1 h2 => ⟨h1, h2 A rfl⟩)
  have hnd := noDefer hp a.eval P W
  unfold stepAt
  unfold Oper.wp at h1
  generalize (execOp a.eval o).run P W = r at *
  cases r with
  | ok x w' =>
    cases x <;> simp only [Oper.upon] at h1 <;> simp only [stepUpon]
    case value v => exact ⟨h1.1, fun A hA => by rw [hA]; exact h1.2⟩
    case skip => exact ⟨h1.1, fun A hA => by rw [hA]; exact h1.2⟩
    case defer d => exact absurd rfl (hnd w' d)
    case enter f args =>
      refine h1.mono fun e w'' he => ?_
      cases e with
      | returned v => exact ⟨v, rfl, he.1, fun A hA => by rw [hA]; exact he.2⟩
      | panicked c => exact absurd he id
      | outgrown => obtain ⟨_, _, he⟩ := he; exact absurd he id
    case row s args => exact Rows.mono h1 fun v w'' he => ⟨he.1, fun A hA => by rw [hA]; exact he.2⟩
  | halt x w' => cases x <;> simp only [Oper.upon] at h1
/-- A step that is no call. -/
theorem stepW (hk : (plainOp o.op && stOf ops k && Region.wanted o (yielded ops a.tmps)) = true) (W : World) (hb : ws 0 = W)
    (h : ∀ K : Act → World → Prop, (∀ A w', R W w' → (∀ A', A' = A → Walk P ops R F l (k + 1) A' (n + 1) (push w' ws)) → K A w') → o.wp P a W K (fun _ _ _ => False)) : Walk P ops R F (o :: l) k a n ws := by
  simp only [Bool.and_eq_true] at hk
  exact stepG W hk.1.1 hk.1.2 hb hk.2 fun K hK => h K fun A w' h1 h2 => hK A w' (fun _ => h1) h2
/-- The last step. -/
theorem last (hk : (fnOf .any ops k && plainOp o.op && stOf ops k && Region.wanted o (yielded ops a.tmps)) = true) (W : World) (hb : ws 0 = W)
    (h : ∀ K : Act → World → Prop, (∀ A w', (∀ A', A' = A → Walk P ops R F l (k + 1) A' (n + 1) (push w' ws)) → K A w') → o.wp P a W K (fun _ _ _ => False)) : Walk P ops R F (o :: l) k a n ws := by
  simp only [Bool.and_eq_true] at hk
  obtain ⟨⟨⟨hf, hp⟩, hs⟩, hw⟩ := hk
  exact stepG W hp hs hb hw fun K hK => h K fun A w' h2 => hK A w' (fun e => by rw [hf] at e; cases e) h2
/-- A call of a Go function. -/
theorem call {fn : Func} (f : FuncId) (xs : List Operand) (ts : Array TypeId) (ho : o.op = .call { callee := .value (.func f), args := xs.toArray, argTypes := ts }) (hfn : P.funcs[f]? = some fn)
    (us : List Value) (hv : xs.map a.eval = us) (W : World) (T : Ending → World → Prop) (hC : Calls P f us.toArray W T)
    (hk : (fn.name != "runtime.NumGoroutine" && fn.body.isSome && stOf ops k && Region.wanted o (yielded ops a.tmps)) = true) (hb : ws 0 = W)
    (h : ∀ e w', T e w' → ∃ v, e = .returned v ∧ R W w' ∧ ∀ A, A = a.put o.dst v → Walk P ops R F l (k + 1) A (n + 1) (push w' ws)) : Walk P ops R F (o :: l) k a n ws := by
  simp only [Bool.and_eq_true] at hk
  obtain ⟨⟨⟨hnm, hbd⟩, hs⟩, hw⟩ := hk
  have entry : ∀ args w, (callFunc f args).run P w = .ok (.enter f args) w := fun args w => entered hfn hnm hbd args w
  refine step W hs hb hw ?_
  have hrun : (execOp a.eval o).run P W = .ok (.enter f us.toArray) W := by
    have hf : a.eval (.func f) = .func (.func f) #[] #[] := rfl
    unfold execOp
    subst hv
    simp [ho, resolve, invoke, go_sem, entry, hf]
  unfold stepAt
  rw [hrun]
  exact hC.mono fun e w' ht => let ⟨v, he, h1, h2⟩ := h e w' ht; ⟨v, he, fun _ => h1, h2⟩
end
end Go.Proofs.YthcdecncnppjaaaDoor.Stg
