/- The layer fault: errors.As at a *fault.Fault: the kit's walk at its own small program, turned to this one. -/
import Derived.Test.YtkmfegamblmpeaaGreatDoorHangul
import Derived.LaidEql
import Derived.Stop.Asserts
import Derived.RowKitTokens
import Derived.Test.YtkmfegamblmpeaaGreatDoorClone
import Derived.Test.YtkmfegamblmpeaaGreatDoorFaCh
import Derived.Test.YtkmfegamblmpeaaGreatDoorUdPlain
import Derived.Lib.AppendIntMem
import Derived.Lib.LaidTab
namespace Go.Proofs.YtkmfegamblmpeaaGreatDoor
open Go.RowKit Go.Extern.Stop Go.Stop Go.Extern
set_option linter.unusedSimpArgs false
set_option linter.unusedVariables false

theorem F.valueOf27 (t : Addr) (w : World) : (ReflectliteValue.unpack (.iface 116 (.pointer (some t)))).run Tryz.prog w
    = .ok (.agg #[.pointer (some ⟨9, 116, none⟩), .pointer (some ⟨w.heap.size, 0, none⟩), .int .u64 150]) (w.alloc (.cells #[.pointer (some t)] 116)) := by kernel_rfl
theorem F.type27 (a : Addr) (w : World) : (ReflectliteValue.methodAny (ReflectliteValue.valueError "reflectlite.Value.Type" 0) (fun t _ _ _ => ReflectliteType.toType t) #[.agg #[.pointer (some ⟨9, 116, none⟩), .pointer (some a), .int .u64 150]]).run Tryz.prog w
    = .ok (.iface 196 (.agg #[.pointer (some ⟨9, 116, none⟩)])) w := by kernel_rfl
theorem F.methodKind (h : Value) (w : World) : (Go.method 416 196 (.agg #[h]) "Kind").run Tryz.prog w = .ok (219, h) w := by kernel_rfl
theorem F.kind27 (w : World) : ((ReflectliteType.abiMethod fun t => (fun a : Nat => Value.int IntKind.u8 (a : Int)) <$> Rtype.kind t) #[.pointer (some ⟨9, 116, none⟩)]).run Tryz.prog w = .ok (.int .u8 22) w := by kernel_rfl
theorem F.kind25 (w : World) : ((ReflectliteType.abiMethod fun t => (fun a : Nat => Value.int IntKind.u8 (a : Int)) <$> Rtype.kind t) #[.pointer (some ⟨9, 112, none⟩)]).run Tryz.prog w = .ok (.int .u8 22) w := by kernel_rfl

theorem F.rlm (z : Sem Value) (f : TypeId → Addr → Nat → Nat → Sem Value) (v : Value) :
    ReflectliteValue.method z f #[v] = (do match ← ReflectliteValue.parts v with | none => z | some (t, a, fl) => f t a fl (fl % 32)) := rfl
theorem F.parts27 (a : Addr) (w : World) : (ReflectliteValue.parts (.agg #[.pointer (some ⟨9, 116, none⟩), .pointer (some a), .int .u64 150])).run Tryz.prog w = .ok (some (116, a, 150)) w := by kernel_rfl
theorem F.isNil27 (a p : Addr) (W : World) (ha : W.cell? a = some (.pointer (some p))) :
    (ReflectliteValue.method (ReflectliteValue.valueError "reflectlite.Value.IsNil" 0) ReflectliteValue.isNil #[.agg #[.pointer (some ⟨9, 116, none⟩), .pointer (some a), .int .u64 150]]).run Tryz.prog W = .ok (.bool false) W := by
  rw [F.rlm]
  simp only [Sem.run_bind, F.parts27, Result.andThen]
  simp [ReflectliteValue.isNil, loadVar, isAgg, underlying, Tryz.underlying116, ha, Result.andThen]

theorem F.methodElem (h : Value) (w : World) : (Go.method 416 196 (.agg #[h]) "Elem").run Tryz.prog w = .ok (231, .agg #[h]) w := by kernel_rfl
theorem F.methodImplements (h : Value) (w : World) : (Go.method 416 196 (.agg #[h]) "Implements").run Tryz.prog w = .ok (232, .agg #[h]) w := by kernel_rfl
theorem F.methodAssignableTo (h : Value) (w : World) : (Go.method 416 196 (.agg #[h]) "AssignableTo").run Tryz.prog w = .ok (229, .agg #[h]) w := by kernel_rfl
theorem F.elem27 (w : World) : (ReflectliteType.method ReflectliteType.elem #[.agg #[.pointer (some ⟨9, 116, none⟩)]]).run Tryz.prog w = .ok (.iface 196 (.agg #[.pointer (some ⟨9, 112, none⟩)])) w := by kernel_rfl
theorem F.implements25 (w : World) : (ReflectliteType.relation "Implements" ReflectliteType.implements_ #[.agg #[.pointer (some ⟨9, 112, none⟩)], .iface 196 (.agg #[.pointer (some ⟨9, 45, none⟩)])]).run Tryz.prog w = .ok (.bool true) w := by kernel_rfl
theorem F.typeOf25 (v : Value) (w : World) : (ReflectliteType.typeOf #[.iface 112 v]).run Tryz.prog w = .ok (.iface 196 (.agg #[.pointer (some ⟨9, 112, none⟩)])) w := by kernel_rfl
theorem F.assignable25 (w : World) : (ReflectliteType.relation "AssignableTo" ReflectliteType.assignableTo #[.agg #[.pointer (some ⟨9, 112, none⟩)], .iface 196 (.agg #[.pointer (some ⟨9, 112, none⟩)])]).run Tryz.prog w = .ok (.bool true) w := by kernel_rfl
theorem F.valueOf25 (e : Addr) (w : World) : (ReflectliteValue.unpack (.iface 112 (.pointer (some e)))).run Tryz.prog w
    = .ok (.agg #[.pointer (some ⟨9, 112, none⟩), .pointer (some ⟨w.heap.size, 0, none⟩), .int .u64 150]) (w.alloc (.cells #[.pointer (some e)] 112)) := by kernel_rfl

theorem F.elemOf27 (w : World) : (Rtype.elem? 116).run Tryz.prog w = .ok (some 112) w := by kernel_rfl
theorem F.mk25 (p : Addr) (w : World) : (ReflectliteValue.mk 112 p ReflectliteValue.flagAddr).run Tryz.prog w = .ok (.agg #[.pointer (some ⟨9, 112, none⟩), .pointer (some p), .int .u64 406]) w := by kernel_rfl
theorem F.elemV27 (a p : Addr) (W : World) (ha : W.cell? a = some (.pointer (some p))) :
    (ReflectliteValue.method (ReflectliteValue.valueError "reflectlite.Value.Elem" 0) ReflectliteValue.elem #[.agg #[.pointer (some ⟨9, 116, none⟩), .pointer (some a), .int .u64 150]]).run Tryz.prog W
      = .ok (.agg #[.pointer (some ⟨9, 112, none⟩), .pointer (some p), .int .u64 406]) W := by
  rw [F.rlm]
  simp only [Sem.run_bind, F.parts27, Result.andThen]
  simp [ReflectliteValue.elem, loadVar, isAgg, underlying, Tryz.underlying116, ha, Result.andThen, F.elemOf27, F.mk25]
theorem F.rls (v x : Value) : ReflectliteValue.set #[v, x] = (do
    let (some (dst, a, fl), some (src, b, _)) := (← ReflectliteValue.parts v, ← ReflectliteValue.parts x)
      | unsupported (.noEntry "extern/(internal/reflectlite.Value).Set.zeroValue")
    if fl / ReflectliteValue.flagAddr % 2 == 0 then unsupported (.noEntry "extern/(internal/reflectlite.Value).Set.unaddressable")
    let val ← loadVar src b
    if ← Rtype.directlyAssignable dst src then storeVar dst a val
    else if ← Rtype.implements dst src then
      if (← Rtype.kind src) == 20 then
        match val with
        | .nilIface => unsupported (.noEntry "extern/reflectlite: a nil value of one interface type handed on as a value of another")
        | _ => storeVar dst a val
      else storeVar dst a (.iface src val)
    else panicString ("reflectlite.Set: value of type " ++ (← Rtype.spelt src) ++ " is not assignable to type " ++ (← Rtype.spelt dst))
    pure (.tuple #[])) := rfl
theorem F.parts25a (a : Addr) (w : World) : (ReflectliteValue.parts (.agg #[.pointer (some ⟨9, 112, none⟩), .pointer (some a), .int .u64 406])).run Tryz.prog w = .ok (some (112, a, 406)) w := by kernel_rfl
theorem F.parts25 (a : Addr) (w : World) : (ReflectliteValue.parts (.agg #[.pointer (some ⟨9, 112, none⟩), .pointer (some a), .int .u64 150])).run Tryz.prog w = .ok (some (112, a, 150)) w := by kernel_rfl
theorem F.direct25 (w : World) : (Rtype.directlyAssignable 112 112).run Tryz.prog w = .ok true w := by kernel_rfl
theorem F.set25 (ta b e : Addr) (old : Value) (W : World) (hb : W.cell? b = some (.pointer (some e))) (ht : W.cell? ta = some old) (hf : W.frozen? ta = false) :
    (ReflectliteValue.set #[.agg #[.pointer (some ⟨9, 112, none⟩), .pointer (some ta), .int .u64 406], .agg #[.pointer (some ⟨9, 112, none⟩), .pointer (some b), .int .u64 150]]).run Tryz.prog W
      = .ok (.tuple #[]) (W.setCell ta (.pointer (some e))) := by
  rw [F.rls]
  simp only [Sem.run_bind, F.parts25a, F.parts25, Result.andThen]
  simp [ReflectliteValue.flagAddr, loadVar, isAgg, underlying, Tryz.underlying112, hb, Result.andThen, F.direct25, storeVar, Value.cells, storeCells, Addr.add]
  rw [run_store Tryz.prog W ta _ _ (by rfl)]
  simp [ht, hf]

set_option maxHeartbeats 4000000 in
set_option maxRecDepth 100000 in
theorem F.as_hit (e t : Addr) (old : Value) (w : World) (hg : w.cell? ⟨0, 0, none⟩ = some (.iface 196 (.agg #[.pointer (some ⟨9, 45, none⟩)]))) (ht0 : w.cell? t = some old) (hf0 : w.frozen? t = false) :
    Calls Tryz.prog 62 #[.iface 112 (.pointer (some e)), .iface 116 (.pointer (some t))] w fun ev w' => ev = .returned (.bool true) ∧ w' = ((((w.alloc (.cells #[.pointer (some t)] 116)).alloc (.cells #[.pointer (some ⟨9, 116, none⟩), .pointer (some ⟨w.heap.size, 0, none⟩), .int .u64 150] 157)).alloc (.cells #[.pointer (some ⟨9, 116, none⟩), .pointer (some ⟨w.heap.size, 0, none⟩), .int .u64 150] 157)).alloc (.cells #[.pointer (some e)] 112)).setCell t (.pointer (some e)) := by
  have h6 := @run_callFunc_extern Tryz.prog 86 _ (fun args => ReflectliteValue.unpack (args.getD 0 (.tuple #[]))) Tryz.func86 (by kernel_rfl) (by kernel_rfl) (by kernel_rfl) (by kernel_rfl)
  have h7 := @run_callFunc_extern Tryz.prog 87 _ (ReflectliteValue.methodAny (ReflectliteValue.valueError "reflectlite.Value.Type" 0) (fun t _ _ _ => ReflectliteType.toType t)) Tryz.func87 (by kernel_rfl) (by kernel_rfl) (by kernel_rfl) (by kernel_rfl)
  have h8 := @run_callFunc_extern Tryz.prog 88 _ (ReflectliteValue.method (ReflectliteValue.valueError "reflectlite.Value.IsNil" 0) ReflectliteValue.isNil) Tryz.func88 (by kernel_rfl) (by kernel_rfl) (by kernel_rfl) (by kernel_rfl)
  have h27 := @run_callFunc_extern Tryz.prog 219 _ (ReflectliteType.abiMethod fun t => do pure (.int .u8 (← Rtype.kind t))) Tryz.func219 (by kernel_rfl) (by kernel_rfl) (by kernel_rfl) (by kernel_rfl)
  have h37 := @run_callFunc_extern Tryz.prog 231 _ (ReflectliteType.method ReflectliteType.elem) Tryz.func231 (by kernel_rfl) (by kernel_rfl) (by kernel_rfl) (by kernel_rfl)
  have h38 := @run_callFunc_extern Tryz.prog 232 _ (ReflectliteType.relation "Implements" ReflectliteType.implements_) Tryz.func232 (by kernel_rfl) (by kernel_rfl) (by kernel_rfl) (by kernel_rfl)
  have h10 := @run_callFunc_extern Tryz.prog 114 _ ReflectliteType.typeOf Tryz.func114 (by kernel_rfl) (by kernel_rfl) (by kernel_rfl) (by kernel_rfl)
  have h35 := @run_callFunc_extern Tryz.prog 229 _ (ReflectliteType.relation "AssignableTo" ReflectliteType.assignableTo) Tryz.func229 (by kernel_rfl) (by kernel_rfl) (by kernel_rfl) (by kernel_rfl)
  have h11 := @run_callFunc_extern Tryz.prog 115 _ (ReflectliteValue.method (ReflectliteValue.valueError "reflectlite.Value.Elem" 0) ReflectliteValue.elem) Tryz.func115 (by kernel_rfl) (by kernel_rfl) (by kernel_rfl) (by kernel_rfl)
  have h12 := @run_callFunc_extern Tryz.prog 116 _ ReflectliteValue.set Tryz.func116 (by kernel_rfl) (by kernel_rfl) (by kernel_rfl) (by kernel_rfl)
  have tO := F.typeOf25
  have mA := F.methodAssignableTo
  have a25 := F.assignable25
  have v25 := F.valueOf25
  have f6 := F.valueOf27
  have f7 := F.type27
  have mK := F.methodKind
  have mE := F.methodElem
  have mI := F.methodImplements
  have k27 := F.kind27
  have k25 := F.kind25
  have e27 := F.elem27
  have i25 := F.implements25
  have n8 := F.isNil27 ⟨w.heap.size, 0, none⟩ t ((w.alloc (.cells #[.pointer (some t)] 116)).alloc (.cells #[.pointer (some ⟨9, 116, none⟩), .pointer (some ⟨w.heap.size, 0, none⟩), .int .u64 150] 157)) (by simp)
  have hlt : 0 < w.heap.size := by
    rcases Nat.lt_or_ge 0 w.heap.size with h | h
    · exact h
    · simp [World.cell?, Array.getElem?_eq_none h] at hg
  have hg2 : ((w.alloc (.cells #[.pointer (some t)] 116)).alloc (.cells #[.pointer (some ⟨9, 116, none⟩), .pointer (some ⟨w.heap.size, 0, none⟩), .int .u64 150] 157)).cell? ⟨0, 0, none⟩ = some (.iface 196 (.agg #[.pointer (some ⟨9, 45, none⟩)])) := by
    rw [World.cell?_alloc_lt _ _ ⟨0, 0, none⟩ (by first | (simp; done) | (simp; omega)), World.cell?_alloc_lt _ _ ⟨0, 0, none⟩ hlt]; exact hg
  have htl : t.block < w.heap.size := by
    rcases Nat.lt_or_ge t.block w.heap.size with h | h
    · exact h
    · simp [World.cell?, Array.getElem?_eq_none h] at ht0
  have el := F.elemV27 ⟨w.heap.size, 0, none⟩ t (((w.alloc (.cells #[.pointer (some t)] 116)).alloc (.cells #[.pointer (some ⟨9, 116, none⟩), .pointer (some ⟨w.heap.size, 0, none⟩), .int .u64 150] 157)).alloc (.cells #[.pointer (some ⟨9, 116, none⟩), .pointer (some ⟨w.heap.size, 0, none⟩), .int .u64 150] 157)) (by rw [World.cell?_alloc_lt _ _ ⟨w.heap.size, 0, none⟩ (by simp; omega)]; simp)
  have st := F.set25 t ⟨w.heap.size + 1 + 1 + 1, 0, none⟩ e old ((((w.alloc (.cells #[.pointer (some t)] 116)).alloc (.cells #[.pointer (some ⟨9, 116, none⟩), .pointer (some ⟨w.heap.size, 0, none⟩), .int .u64 150] 157)).alloc (.cells #[.pointer (some ⟨9, 116, none⟩), .pointer (some ⟨w.heap.size, 0, none⟩), .int .u64 150] 157)).alloc (.cells #[.pointer (some e)] 112))
    (by rw [World.cell?_alloc_at _ _ _ _ (by simp)]; rfl)
    (by rw [World.cell?_alloc_lt _ _ t (by simp; omega), World.cell?_alloc_lt _ _ t (by simp; omega), World.cell?_alloc_lt _ _ t (by simp; omega), World.cell?_alloc_lt _ _ t htl]; exact ht0)
    (by rw [World.frozen?_alloc_old _ _ t (by simp; omega), World.frozen?_alloc_old _ _ t (by simp; omega), World.frozen?_alloc_old _ _ t (by simp; omega), World.frozen?_alloc_old _ _ t (Nat.ne_of_lt htl)]; exact hf0)
  go_enter Tryz.func62, Tryz.ntmps62
  go_wp2
  refine wp_loop_rounds 1 ?_
  rw [rounds_succ]
  go_wp2
  go_ret
  exact ⟨rfl, rfl⟩
end Go.Proofs.YtkmfegamblmpeaaGreatDoor

/- The layer fault: errors that are a chain of faults; At, Of, Code, Wrap, Unwrap. -/
namespace Go.Proofs.YtkmfegamblmpeaaGreatDoor
open Go.RowKit Go.Stop
set_option linter.unusedSimpArgs false
set_option linter.unusedVariables false

/-- What start-up code has laid: errors' type 'error'. -/
def F.LaidE (w : World) : Prop := w.cell? ⟨0, 0, none⟩ = some (.iface 196 (.agg #[.pointer (some ⟨9, 45, none⟩)]))
theorem F.LaidE.next {w w' : World} (h : F.LaidE w) (hb : Below w.heap.size w w') : F.LaidE w' := by
  have hlt : 0 < w.heap.size := by
    rcases Nat.lt_or_ge 0 w.heap.size with h' | h'
    · exact h'
    · have := h; simp [F.LaidE, World.cell?, Array.getElem?_eq_none h'] at this
  unfold F.LaidE
  rw [(bcell hb).1 _ _ hlt]; exact h
/-- What start-up code has laid: errors' type 'error', strconv's table. -/
def F.Laid (w : World) : Prop := F.LaidE w ∧ Lib.TabIs Tryz.prog w "internal/strconv.uint64pow10" .u64 Lib.pow10Tab
theorem F.Laid.next {w w' : World} (h : F.Laid w) (hb : Below w.heap.size w w') : F.Laid w' := ⟨h.1.next hb, Lib.tabBelow_of_tabIs h.2 w' hb⟩

/-- errors.As at a fault: it is found; the target's variable holds it. -/
theorem F.as_hitE (e t : Addr) (old : Value) (w : World) (hL : F.LaidE w) (ht0 : w.cell? t = some old) (hf0 : w.frozen? t = false) :
    Calls Tryz.prog 62 #[.iface 112 (.pointer (some e)), .iface 116 (.pointer (some t))] w fun ev w' => ev = .returned (.bool true) ∧ w'.cell? t = some (.pointer (some e)) ∧ Below t.block w w' := by
  have htl : t.block < w.heap.size := by
    rcases Nat.lt_or_ge t.block w.heap.size with h | h
    · exact h
    · simp [World.cell?, Array.getElem?_eq_none h] at ht0
  refine (F.as_hit e t old w hL ht0 hf0).mono ?_
  rintro ev w' ⟨rfl, rfl⟩
  refine ⟨rfl, ?_, ?_⟩
  · refine World.cell?_setCell_same _ _ _ (u := old) ?_
    rw [World.cell?_alloc_lt _ _ t (by simp; omega), World.cell?_alloc_lt _ _ t (by simp; omega), World.cell?_alloc_lt _ _ t (by simp; omega), World.cell?_alloc_lt _ _ t htl]; exact ht0
  · exact ((((((Below.refl _ _).alloc (by omega) _).alloc (by simp; omega) _).alloc (by simp; omega) _).alloc (by simp; omega) _)).setCell (Nat.le_refl _) _

set_option maxRecDepth 100000 in
set_option maxHeartbeats 1000000 in
theorem F.codeE_any (B : Nat) (q : List (Nat × Int × Int × ByteArray)) (v : Value) (w : World) (hL : F.LaidE w) (hB : B ≤ w.heap.size) (hq : F.Ch w B q v) :
    Calls Tryz.prog 26 #[v] w fun e w' => e = .returned (.int .i64 (F.code (F.lk q))) ∧ Below w.heap.size w w' := by
  rcases q with _ | ⟨⟨b, c, n, s⟩, t⟩
  · obtain rfl : v = .nilIface := hq
    go_enter Tryz.func26, Tryz.ntmps26
    go_wp2
    go_ret
    exact ⟨rfl, (Below.refl _ _).alloc (Nat.le_refl _) _⟩
  · obtain ⟨rfl, hb, e, hbl, hch⟩ := hq
    have hal : Below w.heap.size w (w.alloc (.cells #[.pointer none] 112)) := (Below.refl _ _).alloc (Nat.le_refl _) _
    have hn := heap_alloc_new w (.cells #[.pointer none] 112)
    obtain ⟨hc0, hf0⟩ := blk_cell hn 0
    simp only [List.getElem?_toArray, List.getElem?_cons_zero] at hc0
    have hL1 := hL.next hal
    go_enter Tryz.func26, Tryz.ntmps26
    go_wp2_with fail
    refine (F.as_hitE ⟨b, 0, none⟩ ⟨w.heap.size, 0, none⟩ (.pointer none) _ hL1 hc0 hf0).mono ?_
    rintro ev w1 ⟨rfl, h1, h2⟩
    have hb1 := hal.trans h2
    have hbl1 := (hb1.block b (by omega)).trans hbl
    obtain ⟨d0, _⟩ := blk_cell hbl1 0
    simp only [List.getElem?_toArray, List.getElem?_cons_zero] at d0
    go_wp2
    go_ret
    exact ⟨rfl, hb1⟩

end Go.Proofs.YtkmfegamblmpeaaGreatDoor

/- The layer fault: errors.Unwrap, chain, Line, Notes, by walking their texts. -/
namespace Go.Proofs.YtkmfegamblmpeaaGreatDoor
open Go.RowKit Go.Stop
set_option linter.unusedSimpArgs false
set_option linter.unusedVariables false

theorem infoFault : (Tryz.prog.info? 112).map (fun i => (i.zero, i.size, i.bytes)) = some (some (.pointer none), 1, 8) := by kernel_rfl
theorem infoStr : (Tryz.prog.info? 9).map (fun i => (i.zero, i.size, i.bytes)) = some (some (.string ⟨#[]⟩), 1, 16) := by kernel_rfl
theorem F.hasUnwrap (v : Value) (xT : TypeId) (w : World) : (Instr.typeAssert (.iface 112 v) xT 193 true).run Tryz.prog w = .ok (.tuple #[.iface 112 v, .bool true]) w :=
  run_typeAssert_hasB Tryz.underlying193 (by kernel_rfl) v xT w
theorem F.methodUnwrap (a : Addr) (w : World) : (Go.method 416 112 (.pointer (some a)) "Unwrap").run Tryz.prog w = .ok (63, .pointer (some a)) w := by kernel_rfl

theorem F.isFault (a : Addr) (xT : TypeId) (w : World) : (Instr.typeAssert (.iface 112 (.pointer (some a))) xT 112 true).run Tryz.prog w = .ok (.tuple #[.pointer (some a), .bool true]) w := by kernel_rfl

set_option maxRecDepth 100000 in
set_option maxHeartbeats 1000000 in
theorem F.unwrap_any (b : Nat) (c n : Int) (s : ByteArray) (e : Value) (w : World) (hbl : w.heap[b]? = some (.cells #[.int .i64 c, .int .i64 n, .string s, e] 114 (0, 0))) :
    Calls Tryz.prog 85 #[.iface 112 (.pointer (some ⟨b, 0, none⟩))] w fun r w' => r = .returned e ∧ w = w' := by
  have hU := F.hasUnwrap
  have hM := F.methodUnwrap
  obtain ⟨d3, _⟩ := blk_cell hbl 3
  simp only [List.getElem?_toArray, List.getElem?_cons_zero, List.getElem?_cons_succ] at d3
  go_enter Tryz.func85, Tryz.ntmps85
  go_wp2
  go_ret
  exact ⟨rfl, rfl⟩

def F.ptr (x : Nat × Int × Int × ByteArray) : Value := .pointer (some ⟨x.1, 0, none⟩)
def F.RetPtrs (q : List (Nat × Int × Int × ByteArray)) (w : World) (e : Ending) (w' : World) : Prop :=
  ∃ A c, e = .returned (.slice A q.length c) ∧ w'.ownsRow w.heap.size 112 1 (.slice A q.length c) q.length (q.map F.ptr) ∧ Below w.heap.size w w'
def F.lenOf : Value → Nat
  | .slice _ n _ => n
  | _ => 0

set_option maxRecDepth 100000 in
set_option maxHeartbeats 2000000 in
theorem F.chain_any (B : Nat) (q : List (Nat × Int × Int × ByteArray)) (v : Value) (w : World) (hB : B ≤ w.heap.size) (hq : F.Ch w B q v) (hlen : q.length ≤ 1000000) :
    Calls Tryz.prog 61 #[v] w (F.RetPtrs q w) := by
  obtain ⟨j0, hj0, hy0, hy1, hy2⟩ := info_parts infoFault
  obtain ⟨N, hN⟩ : ∃ N, q.length = N := ⟨_, rfl⟩
  rw [hN] at hlen
  have HN := Lib.hid hN
  have HQ := Lib.hid hq
  clear hN hq
  have hI := F.isFault
  go_enter Tryz.func61, Tryz.ntmps61
  go_wp2
  go_loopw [0, 3] (fun ve vo wr => ∃ (p r : List (Nat × Int × Int × ByteArray)) (m : Nat), q = p ++ r ∧ p.length = m ∧ F.Ch w B r ve ∧ wr.ownsRow w.heap.size 112 1 vo m (p.map F.ptr) ∧ Below w.heap.size w wr) (fun _ vo _ => N - F.lenOf vo)
  case atStart => exact ⟨[], q, 0, rfl, rfl, HQ.out, World.ownsRow_nil _ _ _ _, Below.refl _ _⟩
  case round =>
    obtain ⟨p, r, m, hpr, hm, hch, hown, hbr⟩ := hrel
    obtain ⟨w1, rfl⟩ : ∃ w1 : World, w1 = wr := ⟨_, rfl⟩
    obtain ⟨A1, c1, rfl⟩ := own_form hown
    have hs1 := hbr.size
    have hN := HN.out
    rw [hpr, List.length_append, hm] at hN
    have HM := Lib.hid hm
    have HPR := Lib.hid hpr
    clear hm hpr
    rcases r with _ | ⟨⟨b, c, n, s⟩, t⟩
    · obtain rfl := hch
      obtain rfl : p = q := by rw [HPR.out, List.append_nil]
      simp only [List.length_nil, Nat.add_zero] at hN
      go_wp2
      go_ret
      exact ⟨A1, c1, by rw [HM.out]; rfl, by rw [HM.out]; exact hown, hbr⟩
    · obtain ⟨rfl, hb, e, hbl, hch'⟩ := hch
      have hbl1 := (hbr.block b (by omega)).trans hbl
      have HBL := Lib.hid hbl1
      have HCH := Lib.hid hch'
      rw [List.length_cons] at hN
      have hZ := Lib.hid (Sl.lit (w := w1.alloc (.cells #[.pointer (some ⟨b, 0, none⟩)] 112)) (A := some ⟨w1.heap.size, 0, none⟩) (xs := [.pointer (some ⟨b, 0, none⟩)]) rfl 112 (0, 0) (heap_alloc_new w1 _))
      have hba : Below w1.heap.size w1 (w1.alloc (.cells #[.pointer (some ⟨b, 0, none⟩)] 112)) := (Below.refl _ _).alloc (Nat.le_refl _) _
      have hown2 := Lib.hid (own_below hown hba (Nat.le_refl _))
      have hs2 : w.heap.size ≤ (w1.alloc (.cells #[.pointer (some ⟨b, 0, none⟩)] 112)).heap.size := by simp; omega
      have HBA : Hid (Below w.heap.size w (w1.alloc (.cells #[.pointer (some ⟨b, 0, none⟩)] 112))) := Lib.hid (hbr.trans (hba.mono hs1))
      clear hbl hbl1 hch' hown hba hbr
      go_wp2_with (first
        | (at_builtin; refine wpList_appendSl _ rfl _ _ _ rfl w.heap.size 112 j0 _ 1 8 Tryz.underlying110 hj0 hy0 hy1 hy2 rfl (by omega) _ m _ rfl hown2.out _ (some ⟨w1.heap.size, 0, none⟩) 1 1 [.pointer (some ⟨b, 0, none⟩)] rfl rfl hZ.out (by simp [Value.oneCell']) (by simp only [maxLen]; omega) (by omega) hs2 ?_; intro v1 w5 hown3 hb2 _; have hbz := HBA.out.trans hb2; have HO3 := Lib.hid hown3; have hbl5 : w5.heap[b]? = some (.cells #[.int .i64 c, .int .i64 n, .string s, e] 114 (0, 0)) := (hb2.block b (by omega)).trans (((Below.refl w1.heap.size w1).alloc (Nat.le_refl _) _ |>.block b (by omega)).trans HBL.out); have HB5 := Lib.hid hbl5; clear hbl5 hown3)
        | (go_at_call 85; refine (F.unwrap_any b c n s e _ HB5.out).mono ?_; rintro r w' ⟨rfl, rfl⟩))
      refine ⟨⟨p ++ [(b, c, n, s)], t, m + 1, by rw [HPR.out, List.append_assoc]; rfl, by rw [List.length_append, HM.out]; rfl, HCH.out, by rw [List.map_append]; exact HO3.out, hbz⟩, ?_⟩
      have hv := own_form HO3.out
      obtain ⟨A3, c3, rfl⟩ := hv
      simp [F.lenOf]
      omega
end Go.Proofs.YtkmfegamblmpeaaGreatDoor
