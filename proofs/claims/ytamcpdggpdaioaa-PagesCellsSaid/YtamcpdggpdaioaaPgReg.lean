/- Pages: the steps of New's drawn region that appends a block. -/
import Derived.Test.YtamcpdggpdaioaaPgRaw
import Derived.Test.YtamcpdggpdaioaaPgLib
import Derived.Test.YtamcpdggpdaioaaRwFl
import Derived.BigRegion
import Derived.Deep.RegionLaw
import Derived.Great.BuildSlice
import Derived.Deep.DeepCutAuto
namespace Go.Proofs.Ytamcpdggpdaioaa
open Go.RowKit
set_option linter.unusedSimpArgs false
set_option linter.unusedVariables false

theorem Pg.wpList_exec {P : Program} {ops : Array Oper} {rest : List Oper} {o : Oper} {a : Act} {w w' : World} {Q : Exit → Act → World → Prop} (hgd : o.guard = none) (u : Value) (hr : (execOp a.eval o).run P w = .ok (.value u) w') (h : wpList P ops Q rest (a.put o.dst u) w') : wpList P ops Q (o :: rest) a w :=
  wpList_plain hgd fun _ hK => by
    unfold Oper.wp
    rw [hr]
    exact hK _ _ h
theorem Pg.step_exec {P : Program} {ops : Array Oper} {o : Oper} {a : Act} {K : Act → World → Prop} {Q : Exit → Act → World → Prop} {E : Prop} {w w' : World} (hgd : o.guard = none) (u : Value) (hr : (execOp a.eval o).run P w = .ok (.value u) w') (h : K (a.put o.dst u) w') :
    if Region.wanted o (yielded ops a.tmps) = true then Oper.wp P o a w K Q else E := by
  rw [if_pos (by simp [Region.wanted, hgd])]
  unfold Oper.wp
  rw [hr]
  exact h
theorem Pg.exec_build {P : Program} {o : Oper} {ρ : Operand → Value} {w w' : World} (t : TypeId) (ho : o.op = .build t #[]) (u : Value) (hr : (Instr.build t #[]).run P w = .ok u w') : (execOp ρ o).run P w = .ok (.value u) w' := by
  simp only [execOp, ho, Sem.run_bind, List.map_toArray, List.map_nil, hr, Result.andThen_ok, Sem.run_pure]
theorem Pg.exec_build1 {P : Program} {o : Oper} {ρ : Operand → Value} {w w' : World} (t : TypeId) (k : Nat) (x : Operand) (ho : o.op = .build t #[(k, x)]) (v : Value) (hx : ρ x = v) (u : Value) (hr : (Instr.build t #[(k, v)]).run P w = .ok u w') : (execOp ρ o).run P w = .ok (.value u) w' := by
  subst hx
  simp only [execOp, ho, Sem.run_bind, List.map_toArray, List.map_cons, List.map_nil, hr, Result.andThen_ok, Sem.run_pure]
theorem Pg.exec_slice1 {P : Program} {o : Oper} {ρ : Operand → Value} {w w' : World} (t : TypeId) (n k : Nat) (x : Operand) (ho : o.op = .buildSlice t n #[(k, x)]) (v : Value) (hx : ρ x = v) (u : Value) (hr : (Instr.buildSlice t n #[(k, v)]).run P w = .ok u w') : (execOp ρ o).run P w = .ok (.value u) w' := by
  subst hx
  simp only [execOp, ho, Sem.run_bind, List.map_toArray, List.map_cons, List.map_nil, hr, Result.andThen_ok, Sem.run_pure]
theorem Pg.exec_load {P : Program} {o : Oper} {ρ : Operand → Value} {w w' : World} (t : TypeId) (x : Operand) (ho : o.op = .load t x) (v : Value) (hx : ρ x = v) (u : Value) (hr : (Instr.loadAt t v).run P w = .ok u w') : (execOp ρ o).run P w = .ok (.value u) w' := by
  subst hx
  simp only [execOp, ho, Sem.run_bind, hr, Result.andThen_ok, Sem.run_pure]

theorem Pg.exec_append {P : Program} {o : Oper} {ρ : Operand → Value} {w w' : World} (s x : Operand) (t : TypeId) (ho : o.op = .call { callee := .builtin .append, args := #[s, x], argTypes := #[t, t] }) (v u : Value) (hs : ρ s = v) (hx : ρ x = u) (r : Value)
    (hr : (Builtin.append_ #[t, t] o.type #[v, u]).run P w = .ok r w') : (execOp ρ o).run P w = .ok (.value r) w' := by
  subst hs hx
  unfold execOp
  simp only [ho, resolve, invoke, builtin, Sem.run_bind, Sem.run_pure, Result.andThen_ok, List.map_toArray, List.map_cons, List.map_nil, hr]
section
variable {P : Program} {ops : Array Oper} {Q : Exit → Act → World → Prop} {fuel : Nat} {listed : Array Bool} {a : Act} {w : World}
theorem Pg.take (i : Nat) (op : Op) (d : Option Tmp) (t : TypeId) (v : Value) (ho : (ops[i]?).map (fun o => (o.op, o.dst, o.type, o.guard)) = some (op, d, t, none)) (hs : Region.noSelect ops = true) (hf : Region.free .any ops listed i = true) (hr : (Region.ready .any ops listed).contains i = true)
    (hQ : ∀ c a w, Q (.panic c) (a.put d v) w → Q (.panic c) a w) (hy : ∀ o : Oper, o.op = op → ∀ w, (execOp a.eval o).run P w = .ok (.value v) w)
    (h : wpAny P .any ops Q fuel (listed.setIfInBounds i true) (a.put d v) w) : wpAny P .any ops Q (fuel + 1) listed a w := by
  cases hi : ops[i]? with
  | none => simp [hi] at ho
  | some o =>
    simp only [hi, Option.map_some, Option.some.injEq, Prod.mk.injEq] at ho
    obtain ⟨h1, h2, h3, h4⟩ := ho
    refine wpAny_take (i := i) (oi := o) (v := v) hi hs hf hr (fun c a w => by rw [h2]; exact hQ c a w) (Or.inl ⟨by simp [Region.wanted, h4], hy o h1⟩) ?_
    rw [h2]
    exact h
theorem Pg.branch {i : Nat} {rs : List Nat} (op : Op) (d : Option Tmp) (t : TypeId) (v : Value) (w' : World) (ho : (ops[i]?).map (fun o => (o.op, o.dst, o.type, o.guard)) = some (op, d, t, none)) (hr : ∀ o : Oper, o.op = op → o.type = t → (execOp a.eval o).run P w = .ok (.value v) w')
    (h : wpAny P .any ops Q fuel (listed.setIfInBounds i true) (a.put d v) w') (hs : AllReady P .any ops Q fuel listed a w rs) : AllReady P .any ops Q fuel listed a w (i :: rs) := by
  cases hi : ops[i]? with
  | none => simp [hi] at ho
  | some o =>
    simp only [hi, Option.map_some, Option.some.injEq, Prod.mk.injEq] at ho
    obtain ⟨h1, h2, h3, h4⟩ := ho
    refine AllReady.cons hi (fun K hK => ?_) hs
    refine Pg.step_exec h4 v (hr o h1 h3) (hK _ _ ?_)
    rw [h2]
    exact h
theorem Pg.branchS {i : Nat} {rs : List Nat} (op : Op) (w' : World) (ho : (ops[i]?).map (fun o => (o.op, o.dst, o.type, o.guard)) = some (op, none, 0, none)) (hr : ∀ o : Oper, o.op = op → (execOp a.eval o).run P w = .ok .skip w')
    (h : wpAny P .any ops Q fuel (listed.setIfInBounds i true) a w') (hs : AllReady P .any ops Q fuel listed a w rs) : AllReady P .any ops Q fuel listed a w (i :: rs) := by
  cases hi : ops[i]? with
  | none => simp [hi] at ho
  | some o =>
    simp only [hi, Option.map_some, Option.some.injEq, Prod.mk.injEq] at ho
    obtain ⟨h1, h2, h3, h4⟩ := ho
    refine AllReady.cons hi (fun K hK => ?_) hs
    rw [if_pos (by simp [Region.wanted, h4])]
    unfold Oper.wp
    rw [hr o h1]
    refine hK _ _ ?_
    rw [h2]
    exact h
end
theorem Pg.exec_move {P : Program} {o : Oper} {ρ : Operand → Value} {w : World} (x : Operand) (ho : o.op = .move x) (v : Value) (hx : ρ x = v) : (execOp ρ o).run P w = .ok (.value v) w := by
  subst hx
  simp only [execOp, ho, Sem.run_pure]
theorem Pg.exec_nil {P : Program} {o : Oper} {ρ : Operand → Value} {w : World} (x : Operand) (ho : o.op = .nilCheck x) (a : Addr) (hx : ρ x = .pointer (some a)) : (execOp ρ o).run P w = .ok (.value (.pointer (some a))) w := by
  simp only [execOp, ho, hx, Sem.run_pure]
theorem Pg.exec_field {P : Program} {o : Oper} {ρ : Operand → Value} {w w' : World} (t : TypeId) (x : Operand) (k : Nat) (ho : o.op = .fieldAddr t x k) (v : Value) (hx : ρ x = v) (u : Value) (hr : (Instr.fieldAt t v k).run P w = .ok u w') : (execOp ρ o).run P w = .ok (.value u) w' := by
  subst hx
  simp only [execOp, ho, Sem.run_bind, hr, Result.andThen_ok, Sem.run_pure]
theorem Pg.exec_store {P : Program} {o : Oper} {ρ : Operand → Value} {w w' : World} (t : TypeId) (p x : Operand) (ho : o.op = .store t p x) (v u : Value) (hp : ρ p = v) (hx : ρ x = u) (hr : (Instr.storeAt t v u).run P w = .ok () w') : (execOp ρ o).run P w = .ok .skip w' := by
  subst hp hx
  simp only [execOp, ho, Sem.run_bind, hr, Result.andThen_ok, Sem.run_pure]
theorem Pg.foldl_set : ∀ (xs : List Value) (k : Nat) (cs : Array Value), cs.size = k + xs.length → ((xs.zipIdx k).foldl (fun (cs : Array Value) (p : Value × Nat) => cs.setIfInBounds (0 + p.2) p.1) cs).toList = cs.toList.take k ++ xs
  | [], k, cs, h => by simp; rw [List.take_of_length_le (by simp; simp at h; omega)]
  | x :: xs, k, cs, h => by
    rw [List.zipIdx_cons, List.foldl_cons, Pg.foldl_set xs (k + 1) _ (by simp at h ⊢; omega)]
    have hk : k < cs.toList.length := by simp at h ⊢; omega
    simp only [Array.toList_setIfInBounds, Nat.zero_add]
    rw [List.take_add_one, List.take_set_of_le (Nat.le_refl _), List.getElem?_set_self hk]
    simp
theorem Pg.fill_one (n : Nat) (cs v : Array Value) (h1 : v.size = n) (h2 : cs.size = n) : Instr.fill (fun i => some (i * n, n)) cs [(0, .agg v)] = some v := by
  unfold Instr.fill
  simp only []
  split
  · rename_i h
    have e1 : (Value.agg v).cells.size = n := h1
    rw [e1] at h
    have e2 : ¬ (0 * n + n > cs.size) := by omega
    simp [h2] at h
  · unfold Instr.fill
    congr 1
    have := Pg.foldl_set v.toList 0 cs (by simp; omega)
    apply Array.ext'
    simp only [Value.cells, Nat.zero_mul]
    rw [← Array.foldl_toList, Array.toList_zipIdx]
    rw [List.take_zero, List.nil_append] at this
    exact this
theorem Pg.info256 : (Try.prog.info? 73).map (fun i => (i.zero.isSome, i.size, i.bytes)) = some (true, 256, 512) := by kernel_rfl
theorem Pg.runS (w : World) (b : List Int) (hb : b.length = 256) : (Instr.buildSlice 74 1 #[(0, .agg (Pg.vs b).toArray)]).run Try.prog w = .ok (.slice (some ⟨w.heap.size, 0, none⟩) 1 1) (w.alloc (.cells (Pg.vs b).toArray 73)) := by
  have hi := Pg.info256
  cases hie : Try.prog.info? 73 with
  | none => simp [hie] at hi
  | some ie =>
    simp only [hie, Option.map_some, Option.some.injEq, Prod.mk.injEq] at hi
    obtain ⟨z, hz⟩ := Option.isSome_iff_exists.1 hi.1
    refine run_buildSlice w _ _ 1 _ _ ie z Try.underlying74 hie hz (by rw [hi.2.1]; decide) (by rw [hi.2.1]; decide) ?_
    rw [hi.2.1]
    exact Pg.fill_one 256 _ _ (by unfold Pg.vs; simp [hb]) (by simp)
theorem Pg.runZ (w : World) : (Instr.build 73 #[]).run Try.prog w = .ok (.agg (Pg.vs Pg.zeros).toArray) w := by kernel_rfl
theorem Pg.runP (w : World) (v : Addr) : (Instr.build 77 #[(1, Value.slice (some v) 1 1)]).run Try.prog w = .ok (.agg (Pg.vs (List.replicate 4352 0) ++ [Value.slice (some v) 1 1]).toArray) w := by kernel_rfl
theorem Pg.zeroIs : ∃ (i : TypeInfo) (z : Value), Try.prog.info? 73 = some i ∧ i.zero = some z ∧ i.size = 256 ∧ i.bytes = 512 ∧ z.cells.size = 256 := by
  have hi : (Try.prog.info? 73).map (fun i => (i.zero.map fun z => z.cells.size, i.size, i.bytes)) = some (some 256, 256, 512) := by kernel_rfl
  cases hie : Try.prog.info? 73 with
  | none => simp [hie] at hi
  | some ie =>
    simp only [hie, Option.map_some, Option.some.injEq, Prod.mk.injEq] at hi
    obtain ⟨h1, h2, h3⟩ := hi
    cases hz : ie.zero with
    | none => simp [hz] at h1
    | some z => exact ⟨ie, z, rfl, hz, h2, h3, by simpa [hz] using h1⟩
theorem Pg.run_field (g : Nat) (w : World) : (Instr.fieldAt 77 (.pointer (some ⟨g, 0, none⟩)) 1).run Try.prog w = .ok (.pointer (some ⟨g, 4352, none⟩)) w := by
  have hu := Try.underlying77
  go_simp
theorem Pg.run_store1 (w : World) (b o : Nat) (u : Value) (A : Option Addr) (n c : Nat) (h : w.cell? ⟨b, o, none⟩ = some u) (hf : w.frozen? ⟨b, o, none⟩ = false) : (Instr.storeAt 74 (.pointer (some ⟨b, o, none⟩)) (.slice A n c)).run Try.prog w = .ok () (w.setCell ⟨b, o, none⟩ (.slice A n c)) := by
  have hu := Try.underlying74
  go_simp
theorem Pg.own_notmap {W : World} {base n pb : Nat} {e : TypeId} {size : Nat} {v : Value} {xs : List Value} {bl : List (List Int)} (h : W.ownsRow base e size v n xs) (hp : Pg.Pl W pb bl) : v.ownBlock ≠ some pb := by
  intro hv
  rcases h.2 with ⟨rfl, _⟩ | ⟨g, cap, cur, rfl, _, hg, _⟩
  · simp [Value.ownBlock] at hv
  · simp only [Value.ownBlock, Option.some.injEq] at hv
    exact hp.notAt hg hv.symm
theorem Pg.run_load1 (w : World) (b o : Nat) (v : Value) (h : w.cell? ⟨b, o, none⟩ = some v) : (Instr.loadAt 74 (.pointer (some ⟨b, o, none⟩))).run Try.prog w = .ok v w := by
  have hu := Try.underlying74
  go_simp
/-- A block more: the append, as an equation. -/
theorem Pg.run_more (base : Nat) (W : World) (v : Value) (n : Nat) (xs : List Value) (b : List Int) (hb : b.length = 256) (hown : W.ownsRow base 73 256 v n xs) (hbase : base ≤ W.heap.size) (hn : n ≤ 100000) (ty : TypeId) :
    ∃ v' w', (Builtin.append_ #[74, 74] ty #[v, .slice (some ⟨W.heap.size, 0, none⟩) 1 1]).run Try.prog (W.alloc (.cells (Pg.vs b).toArray 73)) = .ok v' w' ∧
      w'.ownsRow base 73 256 v' (n + 1) (xs ++ Pg.vs b) ∧ W.grownBy w' v.ownBlock := by
  obtain ⟨i, z, h1, h2, h3, h4, h5⟩ := Pg.zeroIs
  have hl : (Pg.vs b).length = 1 * 256 := by unfold Pg.vs; rw [List.length_map, hb]
  obtain ⟨v', w', g1, g2, g3, _⟩ := run_append_own (P := Try.prog) (w := W.alloc (.cells (Pg.vs b).toArray 73)) base 74 ty 73 i z 256 512 Try.underlying74 h1 h2 h3 h4 h5 (by decide) v n xs (hown.alloc _) ⟨W.heap.size, 0, none⟩ 1 1 (Pg.vs b) hl
    (fun j u hu => by
      have hj := Rw.At.new W 73 (Pg.vs b)
      have : (⟨W.heap.size, 0, none⟩ : Addr).add j = ⟨W.heap.size, 0 + j, none⟩ := by unfold Addr.add; split <;> simp_all
      rw [this, Nat.zero_add]
      exact hj.cell j hu) (fun u hu => by unfold Pg.vs at hu; obtain ⟨y, _, rfl⟩ := List.mem_map.1 hu; rfl) (by simp only [maxLen]; omega) (by omega) (by simp; omega)
  exact ⟨v', w', g1, g2, Rw.grown_trans (Rw.grown_row (World.grownBy_alloc W _ none)) g3⟩
end Go.Proofs.Ytamcpdggpdaioaa
