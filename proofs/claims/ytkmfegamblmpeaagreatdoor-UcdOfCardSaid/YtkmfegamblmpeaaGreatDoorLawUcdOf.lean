/- The card of the law UcdOf: for every input it answers true, and the input reads as it did, where the library's listed variables are as its text lays them (the tie is given). No other condition. -/
import Derived.Test.YtkmfegamblmpeaaGreatDoorUdLaid
import Derived.Test.YtkmfegamblmpeaaGreatDoorCards
import Derived.Test.YtkmfegamblmpeaaGreatDoorTie
import Derived.ShutString
import Derived.ChangeOld
namespace Go.Proofs.YtkmfegamblmpeaaGreatDoor
open Go.ChangeShapes Go.WideShapes Go.ChangeAt Go.RowKit
open Go.ChangeMaps (open_string shut_string)
set_option linter.unusedVariables false
set_option maxRecDepth 100000

theorem ucdOf_own : ownKnob Tryz.prog.godebug = none := by kernel_rfl
theorem ucdOf_laidOut : laidOutB Tryz.prog = true := by kernel_rfl

set_option maxRecDepth 100000 in
theorem ucdOf_contract (H : Type) (enc : TypeId × Value → H) (W : World) (base : Nat) (args : Array Value) (ds gs : List (DataW H)) (before : List MemPlace)
    (hval : ∀ (j : Nat) t v, Tryz.f4.params[j]? = some t → args[j]? = some v → Value.okWide Tryz.prog W .any base t v)
    (hW : DataW.Whole enc Tryz.prog Tryz.f4.params.toList Rows.ucdOfSpec.vars false W args.toList ds gs before) (hL : laidMetH Tryz.prog Rows.ucdOfRow.laid W) (hS : W.ShapedOpen Tryz.prog) :
    Calls Tryz.prog 4 args W fun e W' => ∃ v, e = .returned v ∧ Rows.ucdOfSpec.post enc Tryz.prog Tryz.f4 false true false false W args v W' := by
  have laidOut := ucdOf_laidOut
  have hHeads : Rw.Laid W ∧ F.LaidE W := Ud.laid_both (by kernel_rfl) (List.mem_filter.2 ⟨by simp [Rows.ucdOfRow], by kernel_rfl⟩) (List.mem_filter.2 ⟨by simp [Rows.ucdOfRow], by kernel_rfl⟩) (List.mem_filter.2 ⟨by simp [Rows.ucdOfRow], by kernel_rfl⟩) (List.mem_filter.2 ⟨by simp [Rows.ucdOfRow], by kernel_rfl⟩) hL hS
  have hW' := hW
  obtain ⟨p, q, hA0, hV, rfl, hfz, hnd⟩ := hW
  have hA : DataW.TrodAll enc Tryz.prog W 0 (fun _ => true) true Tryz.f4.params.toList args.toList ds p := hA0
  rw [Tryz.params4] at hA hval
  obtain ⟨v0, vs0, d0, ds0, p0, q0, hargs, rfl, rfl, h0, r0⟩ := trodAll_cons hA
  obtain ⟨rfl, rfl, rfl⟩ := trodAll_nil r0
  obtain rfl : args = #[v0] := by cases args; simp_all
  obtain ⟨rfl, rfl⟩ := trodVars_none hV
  have k0 := h0
  have lt0 : ∀ x ∈ p0, x.block < W.heap.size := by obtain ⟨m, hm⟩ := k0; exact DataW.trod_lt m _ _ _ hm
  obtain ⟨a0, len0, cap0, xa0, xlen0, xcap0, z0, xz0, rfl, w0, xw0⟩ := Md.open_tab ((hval 0 25 v0 rfl rfl)) h0
  clear hA0
  refine (Ud.of_row W a0 len0 cap0 xa0 xlen0 xcap0 z0 xz0 w0 xw0 hHeads).mono fun e W' ⟨he, bel⟩ => ?_
  subst he
  exact ⟨_, rfl, _, _, _, [], _, [], hW', trodAll_mk1 (shut_bool Tryz.underlying4 _), (trodAll_cons_mk (Below.trod laidOut (by kernel_rfl) (of_decide_eq_true (by kernel_rfl)) k0 bel lt0) trodAll_mk0), rfl, bel.frame _, fun h => by cases h⟩

theorem ucdOf_reads (os : Os) {H : Type} (enc : TypeId × Value → H) : ∃ places, DataW.whole enc Tryz.prog ((Ud.laidE os (Rows.ucdOfRow.laid.filter fun x => x.2.handleName?.isNone)).forCall (fun _ _ => 0) ⟨#[], #[Value.agg #[.slice none 0 0, .slice none 0 0]], []⟩).memory Tryz.f4.params.toList Rows.ucdOfSpec.vars false (#[Value.agg #[.slice none 0 0, .slice none 0 0]] : Array Value).toList 8 = some ([.agg [.nil, .nil]], [], places) :=
  ⟨[], by kernel_rfl⟩

set_option maxRecDepth 100000 in
theorem ucdOf_lifted (os : Os) (started : os.Started) (H : Type) (enc : TypeId × Value → H) (F : Stop.Interp) :
    ReturnsInHanded {} Tryz.checked os 4 .any ((OpenSpec.ofChange Rows.ucdOfSpec).preRow enc Tryz.prog Tryz.f4 Rows.ucdOfRow.domain false Rows.ucdOfRow.laid) (((OpenSpec.ofChange Rows.ucdOfSpec).at F).post enc Tryz.prog Tryz.f4 false true false false) := by
  obtain ⟨places, hx⟩ := ucdOf_reads os enc
  refine returnsInHanded_of_row (C := Tryz.checked) (s := OpenSpec.ofChange Rows.ucdOfSpec) ucdOf_own started (by kernel_rfl) Tryz.func4
    (Ud.witness (dl := (Rows.ucdOfRow.laid.filter fun x => x.2.handleName?.isNone)) (enc := enc) os #[Value.agg #[.slice none 0 0, .slice none 0 0]] (World.shaped_of_ZipB (by kernel_rfl) (by kernel_rfl)) (by kernel_rfl)
      (OpenSpec.preRow_of_cond 8 hx (by kernel_rfl) (fun k hk => by cases hk) (by kernel_rfl) (laidMetH_of_parts (Ud.laidMet_E _ (by kernel_rfl) (by kernel_rfl)) (by kernel_rfl)))) ?_
  intro W base args ds gs before hval hW _ _ _ hL hS _
  exact ucdOf_contract H enc W base args ds gs before hval hW hL hS

theorem ucdOf_said : Rows.UcdOfSaid :=
  OpenClaim.holds_of_cond 4 Tryz.f4 rfl rfl rfl rfl rfl rfl rfl ⟨rfl, rfl, rfl, rfl, rfl⟩ rfl rfl rfl rfl rfl (by kernel_rfl) Tryz.func4 (by kernel_rfl)
    (of_decide_eq_true (by kernel_rfl)) (by unfold Func.isWrapper; first | (rw [if_pos (by decide +kernel)]; kernel_rfl) | (rw [if_neg (by decide +kernel)]; exact ⟨rfl, rfl⟩))
    (fun os started H enc _ F => by rw [OpenClaim.pre_eq_preRow]; exact ucdOf_lifted os started H enc F)

theorem ucdOf_plain (f : FuncId) (fn : Func) (hf : Tryz.pinned.checked.prog.funcNamed Rows.ucdOfRow.func = some f) (hfn : Tryz.pinned.checked.prog.funcs[f]? = some fn) :
    true = Tryz.pinned.checked.prog.looks [] ∧ ∀ (j : Nat) t, fn.params[j]? = some t → Tryz.pinned.checked.prog.wantsStandIn t = false := by
  obtain rfl : f = 4 := Option.some.inj ((show Tryz.prog.funcNamed Rows.ucdOfRow.func = some 4 by kernel_rfl).symm.trans hf) |>.symm
  obtain rfl : fn = Tryz.f4 := (Option.some.inj (Tryz.func4.symm.trans hfn)).symm
  refine ⟨by kernel_rfl, fun j t ht => ?_⟩
  rw [Tryz.params4] at ht
  have hm : t ∈ [25] := by simpa using Array.mem_of_getElem? ht
  have hall : ([25].all fun u => !Tryz.prog.wantsStandIn u) = true := by kernel_rfl
  exact (show Tryz.prog.wantsStandIn t = false by simpa using List.all_eq_true.1 hall t hm)

theorem UcdOf_card : Rows.UcdOfCardSaid :=
  Claim7.holds_tied_plain_at .later [] _ _ _ _ ucdOf_said (fun _ h => by cases h) (by kernel_rfl) (fun _ h => by cases h) ucdOf_row_tie rfl ⟨rfl, rfl⟩ (by kernel_rfl) rfl ucdOf_plain (by kernel_rfl)
#print axioms UcdOf_card
end Go.Proofs.YtkmfegamblmpeaaGreatDoor
