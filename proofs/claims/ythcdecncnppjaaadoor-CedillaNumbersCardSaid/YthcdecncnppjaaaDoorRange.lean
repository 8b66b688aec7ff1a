/- A range over an iterator that keeps its state in a cell of its own (strings.Lines, strings.SplitSeq): one law for the caller, at the wide fence. -/
import Derived.RangeFuncNested
import Derived.RangeFuncBound
import Derived.RangeFuncCalls
import Derived.RangeFuncLeaves
import Derived.WalkKit
import Derived.OwnWalkIn
import Derived.TacticsInMore
import Derived.LoopNIn
import Derived.LoopIn
import Derived.Test.YthcdecncnppjaaaDoorProg
namespace Go.Proofs.YthcdecncnppjaaaDoor
open Go.RowKit
set_option linter.unusedVariables false

/-- What a caller's invariant abides: new blocks, a turn of a block that holds no cells from B on, a turn of the iterator's own block b. -/
def R.Abides {β : Type} (B b : Nat) (I : β → World → Prop) : Prop :=
  ∀ s W W' row, I s W → W.grownBy W' row → (∀ r, row = some r → r = b ∨ (B ≤ r ∧ ∃ o : Obj, W.heap[r]? = some o ∧ o.isCells = false)) → I s W'
/-- What an invariant abides where the iterator alone has steps. -/
def R.Steps {β : Type} (b : Nat) (J : β → World → Prop) : Prop := ∀ s W W' row, J s W → W.grownBy W' row → (∀ r, row = some r → r = b) → J s W'
/-- The blocks ks lie as they lay. -/
def R.Kept (ks : List Nat) (W W' : World) : Prop := ∀ k ∈ ks, ∀ o, W.heap[k]? = some o → W'.heap[k]? = some o
/-- The iterator's contract in the world W: S xs: all have come; Sp pre: these have come, then a round has said 'no more'. -/
def R.Seq {α : Type} (n : Nat) (P : Program) (g : Nat) (lb : Array Value) (encs : α → Array Value) (b : Nat) (ks : List Nat) (S Sp : List α → Prop) (N : Nat) (W : World) : Prop :=
  ∀ (l : Nat) (J Jx : List α → World → Prop), R.Steps b J → R.Steps b Jx →
    (∀ pre x W1, J pre W1 → pre.length < N → Sp (pre ++ [x]) → YieldAt Fence.wide (n - 1) P l (encs x) W1 fun e W' =>
      (e = .returned (.bool true) ∧ J (pre ++ [x]) W' ∧ R.Kept ks W1 W') ∨ (e = .returned (.bool false) ∧ Jx (pre ++ [x]) W')) →
    J [] W →
    CallsIn Fence.wide n P g (#[.func (.yield l) #[] #[]] ++ lb) W fun e W' => (∃ v, e = .returned v) ∧ ((∃ xs, S xs ∧ J xs W') ∨ (∃ pre, Sp pre ∧ Jx pre W'))

/-- How the body of a round may be left. -/
def R.Post {α : Type} (B : Nat) (ks : List Nat) (I : List α → World → Prop) (Ix : Code → List α → World → Prop) (xs : List α) (W : World) : Exit → Act → World → Prop
  | .normal, _, W' => KeepsFrom B W W' ∧ R.Kept ks W W' ∧ I xs W'
  | .ret, _, W' => KeepsFrom B W W' ∧ Ix .ret xs W'
  | .exit id, _, W' => KeepsFrom B W W' ∧ Ix (.exit id) xs W'
  | .goto t, _, W' => KeepsFrom B W W' ∧ Ix (.goto t) xs W'
  | .panic _, _, _ => False
  | .outgrown, _, _ => False

theorem R.abides_alloc {β : Type} {B b : Nat} {I : β → World → Prop} (h : R.Abides B b I) {s : β} {W : World} (o : Obj) (hs : I s W) : I s (W.alloc o) :=
  h s W _ none hs (World.grownBy_alloc W o none) (fun r e => by cases e)
theorem R.abides_put {β : Type} {B b : Nat} {I : β → World → Prop} (h : R.Abides B b I) {s : β} {W : World} {l : Nat} {o : Obj} (o' : Obj) (hs : I s W) (hB : B ≤ l) (hl : W.heap[l]? = some o) (ho : o.isCells = false) : I s (W.putObj l o') :=
  h s W _ (some l) hs (grownBy_putObj' W l o') (fun r e => by cases e; exact .inr ⟨hB, o, hl, ho⟩)
theorem R.step_keeps {b k : Nat} {W W' : World} {row : Option Nat} {o : Obj} (hg : W.grownBy W' row) (hr : ∀ r, row = some r → r = b) (hk : W.heap[k]? = some o) (hne : k ≠ b) : W'.heap[k]? = some o :=
  (hg.block k (Array.getElem?_eq_some_iff.1 hk).1 (fun e => hne (hr k e.symm))).trans hk

/-- The caller's law. -/
theorem R.range {α : Type} {n : Nat} {P : Program} {g : Operand} {ps : Array Tmp} {assign body : Code} {Q : Exit → Act → World → Prop} {a : Act} {w : World} (h1 : 1 ≤ n)
    {gf : Nat} {lb : Array Value} (hg : a.eval g = .func (.func gf) #[] lb) (eg : ∀ args w, (callFunc gf args).run P w = .ok (.enter gf args) w)
    {encs : α → Array Value} {b : Nat} (hb : b < w.heap.size) {ks : List Nat} (hks : ∀ k ∈ ks, k < w.heap.size) {S Sp : List α → Prop} {N : Nat} (hseq : ∀ W, Below w.heap.size w W → R.Seq (n - 1) P gf lb encs b ks S Sp N W) (hps : ∀ x, (encs x).size = ps.size)
    (I : List α → World → Prop) (Ix : Code → List α → World → Prop) (hI : R.Abides w.heap.size b I) (hIx : ∀ c, R.Abides w.heap.size b (Ix c)) (h0 : I [] w) (a₁ : α → Act)
    (hassign : ∀ (l : Nat) (x : α) (W : World) (K : Act → World → Prop), K (a₁ x) W →
      assign.wpIn (Fence.wide.inRound l) (n - 1 - 1) P (Exit.then K (fun _ _ _ => False)) { tmps := (ps.zip (encs x)).foldl (fun t (p, v) => t.setIfInBounds p v) a.tmps, defers := [] } W)
    (hbody : ∀ (l : Nat) (pre : List α) (x : α) (W : World), I pre W → pre.length < N → Sp (pre ++ [x]) → body.wpIn (Fence.wide.inRound l) (n - 1 - 1) P (R.Post w.heap.size ks I Ix (pre ++ [x]) W) (a₁ x) W)
    (hdone : ∀ (D : Nat) (xs : List α) (W : World), w.heap.size ≤ D → S xs → I xs W → W.heap[D]? = some (.deferred (some [])) → Q .normal { a with defers := { target := .collected D, args := #[] } :: a.defers } W)
    (hstop : ∀ (D : Nat) (c : Code) (pre : List α) (W : World), w.heap.size ≤ D → Sp pre → Ix c pre W → W.heap[D]? = some (.deferred (some [])) → c.wpIn Fence.wide n P Q { a with defers := { target := .collected D, args := #[] } :: a.defers } W) :
    (Code.rangeFunc g ps assign body).wpIn Fence.wide n P Q a w := by
  refine wpIn_rangeFunc fun fn hfn => ?_
  show ∃ (l : Nat) (mark : List Deferred) (w₁ : World) (d : Deferred) (w₁' : World) (f : FuncId) (args : Array Value) (w₂ : World), _
  let rec' : LoopState → Option Code → Loop := fun st pe => { state := st, pending := pe, fn, tmps := a.tmps, params := ps, assign, body, defers := w.heap.size }
  obtain ⟨D, hD⟩ : ∃ D, w.heap.size = D := ⟨_, rfl⟩
  obtain ⟨lr, hlr⟩ : ∃ lr, lr = rec' := ⟨_, rfl⟩
  obtain ⟨V, hV⟩ : ∃ V, (w.alloc (.deferred (some []))).alloc (.loop (lr .ready none)) = V := ⟨_, rfl⟩
  have rec1 : V.heap[D + 1]? = some (.loop (lr .ready none)) := by
    have h := World.alloc_heap_new (w.alloc (.deferred (some []))) (.loop (lr .ready none))
    rw [World.size_alloc, hV, hD] at h
    exact h
  have def1 : V.heap[D]? = some (.deferred (some [])) := by
    rw [← hV, ← hD]
    exact (Below.heap_alloc _ _ _ (by simp)).trans (World.alloc_heap_new w _)
  have inv1 : I [] V := by
    rw [← hV]
    exact R.abides_alloc hI _ (R.abides_alloc hI _ h0)
  have bel1 : Below w.heap.size w V := by
    rw [← hV]
    exact ((Below.refl _ w).alloc (Nat.le_refl _) _).alloc (by simp) _
  rw [hD] at hI hIx hb hks hbody hdone hstop
  refine ⟨D + 1, [{ target := .collected D, args := #[] }], V, { target := .fn (.func gf) lb, args := #[.func (.yield (D + 1)) #[] #[]] }, V, gf, #[.func (.yield (D + 1)) #[] #[]] ++ lb, V, ?_, ?_, ?_, ?_, fun _ => h1, ?_⟩
  · rw [← hV, ← hD, hlr]
    exact run_enterLoop_outer _ _ _ _ _
  · simp only [resolve, hg]
    simp [go_sem]
  · intro f' hf'
    simp [Target.leads] at hf'
    subst hf'
    exact trivial
  · simp [invoke, go_sem, eg]
  have bd : D ≠ b := by omega
  have bd1 : D + 1 ≠ b := by omega
  refine ((hseq V bel1) (D + 1)
    (fun pre W => I pre W ∧ W.heap[D + 1]? = some (.loop (lr .ready none)) ∧ W.heap[D]? = some (.deferred (some [])))
    (fun pre W => ∃ c, Ix c pre W ∧ W.heap[D + 1]? = some (.loop (lr .done (some c))) ∧ W.heap[D]? = some (.deferred (some [])))
    (fun s X Y row hs hgr hr => ⟨hI s X Y row hs.1 hgr (fun r e => .inl (hr r e)), R.step_keeps hgr hr hs.2.1 bd1, R.step_keeps hgr hr hs.2.2 bd⟩)
    (fun s X Y row hs hgr hr => by
      obtain ⟨c, i0, i1, i2⟩ := hs
      exact ⟨c, hIx c s X Y row i0 hgr (fun r e => .inl (hr r e)), R.step_keeps hgr hr i1 bd1, R.step_keeps hgr hr i2 bd⟩)
    ?_ ⟨inv1, rec1, def1⟩).mono ?_
  · rintro pre x W ⟨hi, hr0, hd0⟩ hlen hsp
    have hlt : D + 1 < W.heap.size := (Array.getElem?_eq_some_iff.1 hr0).1
    have hy := run_yield (P := P) (args := encs x) hr0 (by rw [hlr]; exact hps x)
    rw [hlr] at hy
    refine ⟨fn, _, assign, body, hy, roundIn_of_wpIn hfn (hassign _ x W _ ⟨_, run_beginRound hr0 (by rw [hlr]), ?_⟩)⟩
    obtain ⟨U, hU⟩ : ∃ U, W.putObj (D + 1) (.loop { lr .ready none with state := .busy }) = U := ⟨_, rfl⟩
    have rec2 : U.heap[D + 1]? = some (.loop { lr .ready none with state := .busy }) := by rw [← hU]; exact World.putObj_heap_same hlt
    have def2 : U.heap[D]? = some (.deferred (some [])) := by rw [← hU]; exact (World.putObj_heap_other (by omega)).trans hd0
    have kept2 : R.Kept ks W U := by rw [← hU]; exact fun k hk o ho => (World.putObj_heap_other (by have := hks k hk; omega)).trans ho
    have inv2 : I pre U := by rw [← hU]; exact R.abides_put hI _ hi (by omega) hr0 rfl
    have fin : ∀ (jump : Option Code) (X : World), KeepsFrom D U X →
        (Instr.endRound (D + 1) jump).run P X = .ok (.bool jump.isNone) (X.putObj (D + 1) (.loop (lr (if jump.isNone then .ready else .done) jump))) ∧
        X.heap[D + 1]? = some (.loop { lr .ready none with state := .busy }) ∧
        (X.putObj (D + 1) (.loop (lr (if jump.isNone then .ready else .done) jump))).heap[D + 1]? = some (.loop (lr (if jump.isNone then .ready else .done) jump)) ∧
        (X.putObj (D + 1) (.loop (lr (if jump.isNone then .ready else .done) jump))).heap[D]? = some (.deferred (some [])) := by
      intro jump X hX
      have r3 := hX.same (D + 1) _ (by omega) rec2 rfl
      have d3 := hX.same D _ (by omega) def2 rfl
      have he := run_endRound (P := P) jump r3
      rw [hlr] at he r3 ⊢
      exact ⟨he, r3, World.putObj_heap_same (Array.getElem?_eq_some_iff.1 r3).1, (World.putObj_heap_other (by omega)).trans d3⟩
    have goal := hbody (D + 1) pre x U inv2 hlen hsp
    rw [← hU] at goal
    refine wpIn_mono goal ?_
    rw [hU]
    rintro e a3 X hp
    cases e with
    | normal =>
      obtain ⟨k3, kb3, i3⟩ := hp
      obtain ⟨e1, e2, e3, e4⟩ := fin none X k3
      exact ⟨_, _, e1, .inl ⟨rfl, ⟨R.abides_put hI _ i3 (by omega) e2 rfl, e3, e4⟩, fun k hk o ho => (World.putObj_heap_other (by have := hks k hk; omega)).trans (kb3 k hk o (kept2 k hk o ho))⟩⟩
    | ret =>
      obtain ⟨k3, i3⟩ := hp
      obtain ⟨e1, e2, e3, e4⟩ := fin (some .ret) X k3
      exact ⟨_, _, e1, .inr ⟨rfl, .ret, R.abides_put (hIx _) _ i3 (by omega) e2 rfl, e3, e4⟩⟩
    | exit id =>
      obtain ⟨k3, i3⟩ := hp
      obtain ⟨e1, e2, e3, e4⟩ := fin (some (.exit id)) X k3
      exact ⟨_, _, e1, .inr ⟨rfl, .exit id, R.abides_put (hIx _) _ i3 (by omega) e2 rfl, e3, e4⟩⟩
    | goto t =>
      obtain ⟨k3, i3⟩ := hp
      obtain ⟨e1, e2, e3, e4⟩ := fin (some (.goto t)) X k3
      exact ⟨_, _, e1, .inr ⟨rfl, .goto t, R.abides_put (hIx _) _ i3 (by omega) e2 rfl, e3, e4⟩⟩
    | panic ch => exact hp.elim
    | outgrown => exact hp.elim
  · rintro e X ⟨⟨v, rfl⟩, (⟨xs, hS, hi, hr0, hd0⟩ | ⟨pre, hSp, c, hi, hr0, hd0⟩)⟩
    · have h := run_endLoop (P := P) hr0 (by rw [hlr]; simp [rec'])
      rw [hlr] at h
      exact ⟨none, _, h, hdone D xs _ (Nat.le_refl _) hS (R.abides_put hI _ hi (by omega) hr0 rfl) ((World.putObj_heap_other (by omega)).trans hd0)⟩
    · have h := run_endLoop (P := P) hr0 (by rw [hlr]; simp [rec'])
      rw [hlr] at h
      exact ⟨some c, _, h, hstop D c pre _ (Nat.le_refl _) hSp (R.abides_put (hIx c) _ hi (by omega) hr0 rfl) ((World.putObj_heap_other (by omega)).trans hd0)⟩

/-- What a caller's box, row, frame abide. -/
theorem R.box_kept {W W' : World} {row : Option Nat} {B b D : Nat} {t : TypeId} {v : Value} (h : Boxed W B t v) (hg : W.grownBy W' row)
    (hr : ∀ r, row = some r → r = b ∨ (D ≤ r ∧ ∃ o : Obj, W.heap[r]? = some o ∧ o.isCells = false)) (hne : B ≠ b) : Boxed W' B t v := by
  refine h.kept hg fun e => ?_
  rcases hr B e.symm with h1 | ⟨_, o, ho, hc⟩
  · exact hne h1
  · rw [show W.heap[B]? = _ from h] at ho
    cases ho
    cases hc
theorem R.own_kept {W W' : World} {row : Option Nat} {b D base : Nat} {e : TypeId} {size : Nat} {v : Value} {k : Nat} {xs : List Value} (h : W.ownsRow base e size v k xs) (hg : W.grownBy W' row)
    (hr : ∀ r, row = some r → r = b ∨ (D ≤ r ∧ ∃ o : Obj, W.heap[r]? = some o ∧ o.isCells = false)) (hb : b < base) : W'.ownsRow base e size v k xs := by
  refine h.kept hg ?_
  rcases h.2 with ⟨rfl, _⟩ | ⟨g, cap, cur, rfl, hgb, hh, _⟩
  · exact .inl rfl
  · refine .inr fun e' => ?_
    rcases hr g (by simpa [Value.ownBlock] using e'.symm) with h1 | ⟨_, o, ho, hc⟩
    · omega
    · rw [hh] at ho
      cases ho
      cases hc
theorem R.below_kept {n₀ : Nat} {w W W' : World} {row : Option Nat} {b D : Nat} (h : Below n₀ w W) (hs : n₀ ≤ W.heap.size) (hg : W.grownBy W' row)
    (hr : ∀ r, row = some r → r = b ∨ (D ≤ r ∧ ∃ o : Obj, W.heap[r]? = some o ∧ o.isCells = false)) (h1 : n₀ ≤ b) (h2 : n₀ ≤ D) : Below n₀ w W' :=
  h.grown hg hs fun k e => by rcases hr k e with h3 | ⟨h3, _⟩ <;> omega
theorem R.own_base {W : World} {base base' : Nat} {e : TypeId} {size : Nat} {v : Value} {k : Nat} {xs : List Value} (h : W.ownsRow base e size v k xs) (hb : base' ≤ base) : W.ownsRow base' e size v k xs := by
  obtain ⟨h1, h2⟩ := h
  refine ⟨h1, ?_⟩
  rcases h2 with h2 | ⟨g, cap, cur, hv, hg, r⟩
  · exact .inl h2
  · exact .inr ⟨g, cap, cur, hv, by omega, r⟩
/-- What lay at D or beyond and is no cells lies so behind a call. -/
theorem R.keeps_below {B : Nat} {W W' : World} (h : Below W.heap.size W W') : KeepsFrom B W W' := ⟨h.size, fun k o _ hk _ => (h.block k (Array.getElem?_eq_some_iff.1 hk).1).trans hk⟩
theorem R.kept_below {ks : List Nat} {W W' : World} (h : Below W.heap.size W W') : R.Kept ks W W' := fun k _ o ho => (h.block k (Array.getElem?_eq_some_iff.1 ho).1).trans ho
theorem R.Kept.trans {ks : List Nat} {A B C : World} (h : R.Kept ks A B) (h' : R.Kept ks B C) : R.Kept ks A C := fun k hk o ho => h' k hk o (h k hk o ho)
theorem R.kept_set {ks : List Nat} {W : World} {B : Nat} (h : ∀ k ∈ ks, k ≠ B) (v : Value) : R.Kept ks W (W.setCell ⟨B, 0, none⟩ v) := fun k hk o ho => (Below.heap_setCell _ _ _ k (fun e => h k hk e)).trans ho
/-- 'out = append(out, ..)' into a box ahead of the loop, the row laid within the loop. -/
theorem R.appended {W w1 : World} {D B n₀ : Nat} {t e : TypeId} {size : Nat} {v v' : Value} {k m : Nat} {xs ys : List Value} {tmp : Obj} {ks : List Nat}
    (hv : Boxed W B t v) (hte : t ≠ e) (hrow : W.ownsRow D e size v k xs) (hDW : D ≤ W.heap.size) (hn : n₀ ≤ B) (hBD : B < D) (hks : ∀ q ∈ ks, q < D ∧ q ≠ B)
    (hown' : w1.ownsRow D e size v' m ys) (hgrow : (W.alloc tmp).grownBy w1 v.ownBlock) :
    Boxed w1 B t v ∧ Boxed (w1.setCell ⟨B, 0, none⟩ v') B t v' ∧ (w1.setCell ⟨B, 0, none⟩ v').ownsRow D e size v' m ys ∧ KeepsFrom D W (w1.setCell ⟨B, 0, none⟩ v') ∧ R.Kept ks W (w1.setCell ⟨B, 0, none⟩ v') ∧ Below n₀ W (w1.setCell ⟨B, 0, none⟩ v') ∧
      (∀ B' t' u, B' ≠ B → B' < D → Boxed W B' t' u → Boxed (w1.setCell ⟨B, 0, none⟩ v') B' t' u) := by
  obtain ⟨a1, a2, _, a4, a5⟩ := hv.appended hte (R.own_base hrow (show n₀ ≤ D by omega)) (by omega) hn (R.own_base hown' (show n₀ ≤ D by omega)) hgrow
  have low : ∀ q, q < D → ∀ o, W.heap[q]? = some o → w1.heap[q]? = some o := fun q hq o ho => by
    have h1 : (W.alloc tmp).heap[q]? = some o := (Below.heap_alloc _ _ _ (by omega)).trans ho
    refine (hgrow.block q (Array.getElem?_eq_some_iff.1 h1).1 fun e => ?_).trans h1
    rcases hrow.2 with ⟨rfl, _⟩ | ⟨g, cap, cur, rfl, hgb, _⟩
    · simp [Value.ownBlock] at e
    · have : q = g := by simpa [Value.ownBlock] using e
      omega
  refine ⟨a1, a2, hown'.kept (grownBy_setCell' w1 B v') (.inr (a1.not_row hte hown').symm), a4.from _, ?_, a5, ?_⟩
  · exact fun q hq o ho => (R.kept_set (ks := ks) (fun k hk => (hks k hk).2) v') q hq o (low q (hks q hq).1 o ho)
  · exact fun B' t' u hne hlt hb => Boxed.other (show Boxed w1 B' t' u from low B' hlt _ hb) hne v'
#print axioms R.range
end Go.Proofs.YthcdecncnppjaaaDoor
