/- The card of the law CedillaNumbers: for every input it answers true, and the input reads as it did, where the library's listed variables are as its text lays them (the tie is given). No other condition. -/
import Derived.Test.YthcdecncnppjaaaDoorNmLaw
import Derived.Test.YthcdecncnppjaaaDoorNmOpen
import Derived.Test.YthcdecncnppjaaaDoorCards
import Derived.Test.YthcdecncnppjaaaDoorTie
import Derived.ShutString
import Derived.ChangeOld
namespace Go.Proofs.YthcdecncnppjaaaDoor
open Go.ChangeShapes Go.WideShapes Go.ChangeAt Go.RowKit
open Go.ChangeMaps (open_string shut_string)
set_option linter.unusedVariables false
set_option maxRecDepth 100000

theorem cedillaNumbers_own : ownKnob Tryd.prog.godebug = none := by kernel_rfl
theorem cedillaNumbers_laidOut : laidOutB Tryd.prog = true := by kernel_rfl

set_option maxRecDepth 100000 in
theorem cedillaNumbers_contract (H : Type) (enc : TypeId × Value → H) (W : World) (base : Nat) (args : Array Value) (ds gs : List (DataW H)) (before : List MemPlace)
    (hval : ∀ (j : Nat) t v, Tryd.f3.params[j]? = some t → args[j]? = some v → Value.okWide Tryd.prog W .any base t v)
    (hW : DataW.Whole enc Tryd.prog Tryd.f3.params.toList Rows.cedillaNumbersSpec.vars false W args.toList ds gs before) (hL : laidMetH Tryd.prog Rows.cedillaNumbersRow.laid W) :
    Calls Tryd.prog 3 args W fun e W' => ∃ v, e = .returned v ∧ Rows.cedillaNumbersSpec.post enc Tryd.prog Tryd.f3 false true false false W args v W' := by
  have laidOut := cedillaNumbers_laidOut
  have hW' := hW
  obtain ⟨p, q, hA0, hV, rfl, hfz, hnd⟩ := hW
  have hA : DataW.TrodAll enc Tryd.prog W 0 (fun _ => true) true Tryd.f3.params.toList args.toList ds p := hA0
  rw [Tryd.params3] at hA hval
  obtain ⟨v0, vs0, d0, ds0, p0, q0, hargs, rfl, rfl, h0, r0⟩ := trodAll_cons hA
  obtain ⟨rfl, rfl, rfl⟩ := trodAll_nil r0
  obtain rfl : args = #[v0] := by cases args; simp_all
  obtain ⟨rfl, rfl⟩ := trodVars_none hV
  obtain ⟨a0, len0, cap0, rfl⟩ := okWide_slice Tryd.underlying22 (hval 0 22 v0 rfl rfl)
  have k0 := h0
  have lt0 : ∀ x ∈ p0, x.block < W.heap.size := by obtain ⟨m, hm⟩ := k0; exact DataW.trod_lt m _ _ _ hm
  obtain ⟨z0, w0⟩ : ∃ l, Nm.Arr W a0 len0 cap0 l := by
    obtain ⟨fuel, hf⟩ := h0
    exact Nm.arr_of (by simpa [Value.cells] using hf)
  clear hA0
  refine (Nm.law_any a0 len0 cap0 z0 W w0).mono fun e W' ⟨he, bel⟩ => ?_
  subst he
  exact ⟨_, rfl, _, _, _, [], _, [], hW', trodAll_mk1 (shut_bool Tryd.underlying4 _), (trodAll_cons_mk (Below.trod laidOut (by kernel_rfl) (of_decide_eq_true (by kernel_rfl)) k0 bel lt0) trodAll_mk0), rfl, bel.frame _, fun h => by cases h⟩

theorem cedillaNumbers_reads (os : Os) {H : Type} (enc : TypeId × Value → H) : ∃ places, DataW.whole enc Tryd.prog ((World.laidAll Tryd.prog os Rows.cedillaNumbersRow.laid).forCall (fun _ _ => 0) ⟨#[], #[Value.slice none 0 0], []⟩).memory Tryd.f3.params.toList Rows.cedillaNumbersSpec.vars false (#[Value.slice none 0 0] : Array Value).toList 8 = some ([.nil], [], places) :=
  ⟨[], by kernel_rfl⟩

set_option maxRecDepth 100000 in
theorem cedillaNumbers_lifted (os : Os) (started : os.Started) (H : Type) (enc : TypeId × Value → H) (F : Stop.Interp) :
    ReturnsInHanded {} Tryd.checked os 3 .any ((OpenSpec.ofChange Rows.cedillaNumbersSpec).preRow enc Tryd.prog Tryd.f3 Rows.cedillaNumbersRow.domain false Rows.cedillaNumbersRow.laid) (((OpenSpec.ofChange Rows.cedillaNumbersSpec).at F).post enc Tryd.prog Tryd.f3 false true false false) := by
  obtain ⟨places, hx⟩ := cedillaNumbers_reads os enc
  refine returnsInHanded_of_row (C := Tryd.checked) (s := OpenSpec.ofChange Rows.cedillaNumbersSpec) cedillaNumbers_own started (by kernel_rfl) Tryd.func3
    (Nm.witness (enc := enc) os #[Value.slice none 0 0] (World.shaped_of_ZipB (by kernel_rfl) (by kernel_rfl)) (by kernel_rfl)
      (OpenSpec.preRow_of_cond 8 hx (by kernel_rfl) (fun k hk => by cases hk) (by kernel_rfl) (by rw [MakeChecks.laidMetH_plain _ _ _ (by kernel_rfl)]; exact laidMet_laidAll _ (by kernel_rfl) (by kernel_rfl)))) ?_
  intro W base args ds gs before hval hW _ _ _ hL _ _
  exact cedillaNumbers_contract H enc W base args ds gs before hval hW hL

theorem cedillaNumbers_k1 : (Rows.cedillaNumbersRow.inPlace == Tryd.pinned.checked.prog.inPlace 3) = true := by kernel_rfl
theorem cedillaNumbers_k2 : (Rows.cedillaNumbersRow.unfollowed == Tryd.pinned.checked.prog.unfollowed 3) = true := by kernel_rfl
theorem cedillaNumbers_k3 : (Rows.cedillaNumbersRow.recurses == Tryd.pinned.checked.prog.recurses 3) = true := by kernel_rfl
theorem cedillaNumbers_k4 : (Rows.cedillaNumbersRow.named == Tryd.pinned.checked.prog.varsNamed 3) = true := by kernel_rfl
theorem cedillaNumbers_closed : joinedFacts Tryd.pinned.checked.prog 3 Tryd.f3 (OpenSpec.ofChange Rows.cedillaNumbersSpec).bare Rows.cedillaNumbersRow = true := by
  unfold joinedFacts
  rw [cedillaNumbers_k1, cedillaNumbers_k2, cedillaNumbers_k3, cedillaNumbers_k4]
  kernel_rfl
theorem cedillaNumbers_said : Rows.CedillaNumbersSaid :=
  OpenClaim.holds_of_cond 3 Tryd.f3 rfl rfl rfl rfl rfl rfl rfl ⟨rfl, rfl, rfl, rfl, rfl⟩ rfl rfl rfl rfl rfl (by kernel_rfl) Tryd.func3 cedillaNumbers_closed
    (of_decide_eq_true (by kernel_rfl)) (by unfold Func.isWrapper; first | (rw [if_pos (by decide +kernel)]; kernel_rfl) | (rw [if_neg (by decide +kernel)]; exact ⟨rfl, rfl⟩))
    (fun os started H enc _ F => by rw [OpenClaim.pre_eq_preRow]; exact cedillaNumbers_lifted os started H enc F)

theorem cedillaNumbers_plain (f : FuncId) (fn : Func) (hf : Tryd.pinned.checked.prog.funcNamed Rows.cedillaNumbersRow.func = some f) (hfn : Tryd.pinned.checked.prog.funcs[f]? = some fn) :
    false = Tryd.pinned.checked.prog.looks [] ∧ ∀ (j : Nat) t, fn.params[j]? = some t → Tryd.pinned.checked.prog.wantsStandIn t = false := by
  obtain rfl : f = 3 := Option.some.inj ((show Tryd.prog.funcNamed Rows.cedillaNumbersRow.func = some 3 by kernel_rfl).symm.trans hf) |>.symm
  obtain rfl : fn = Tryd.f3 := (Option.some.inj (Tryd.func3.symm.trans hfn)).symm
  refine ⟨by kernel_rfl, fun j t ht => ?_⟩
  rw [Tryd.params3] at ht
  have hm : t ∈ [22] := by simpa using Array.mem_of_getElem? ht
  have hall : ([22].all fun u => !Tryd.prog.wantsStandIn u) = true := by kernel_rfl
  exact (show Tryd.prog.wantsStandIn t = false by simpa using List.all_eq_true.1 hall t hm)

theorem CedillaNumbers_card : Rows.CedillaNumbersCardSaid :=
  Claim7.holds_tied_plain_at .later [] _ _ _ _ cedillaNumbers_said (fun _ h => by cases h) (by kernel_rfl) (fun _ h => by cases h) cedillaNumbers_row_tie rfl ⟨rfl, rfl⟩ (by kernel_rfl) rfl cedillaNumbers_plain (by kernel_rfl)
#print axioms CedillaNumbers_card
end Go.Proofs.YthcdecncnppjaaaDoor
