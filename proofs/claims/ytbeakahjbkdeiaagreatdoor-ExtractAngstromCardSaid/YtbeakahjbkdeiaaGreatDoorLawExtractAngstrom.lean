/- The card of the law ExtractAngstrom: for every input it answers true, and the input reads as it did, where the library's listed variables are as its text lays them (the tie is given). No other condition. -/
import Derived.Test.YtbeakahjbkdeiaaGreatDoorLwAngstrom
import Derived.Test.YtbeakahjbkdeiaaGreatDoorRwLaid
import Derived.Test.YtbeakahjbkdeiaaGreatDoorCards
import Derived.Test.YtbeakahjbkdeiaaGreatDoorTie
import Derived.ShutString
import Derived.ChangeOld
import Derived.Test.YtbeakahjbkdeiaaGreatDoorDvMore
namespace Go.Proofs.YtbeakahjbkdeiaaGreatDoor
open Go.ChangeShapes Go.WideShapes Go.ChangeAt Go.RowKit
open Go.ChangeMaps (open_string shut_string)
set_option linter.unusedVariables false
set_option maxRecDepth 100000

theorem extractAngstrom_own : ownKnob Tryz.prog.godebug = none := by kernel_rfl
theorem extractAngstrom_laidOut : laidOutB Tryz.prog = true := by kernel_rfl

set_option maxRecDepth 100000 in
theorem extractAngstrom_contract (H : Type) (enc : TypeId × Value → H) (W : World) (base : Nat) (args : Array Value) (ds gs : List (DataW H)) (before : List MemPlace)
    (hval : ∀ (j : Nat) t v, Tryz.f3.params[j]? = some t → args[j]? = some v → Value.okWide Tryz.prog W .any base t v)
    (hW : DataW.Whole enc Tryz.prog Tryz.f3.params.toList Rows.extractAngstromSpec.vars false W args.toList ds gs before) (hL : laidMetH Tryz.prog Rows.extractAngstromRow.laid W) (hS : W.ShapedOpen Tryz.prog) :
    Calls Tryz.prog 3 args W fun e W' => ∃ v, e = .returned v ∧ Rows.extractAngstromSpec.post enc Tryz.prog Tryz.f3 false true false false W args v W' := by
  have laidOut := extractAngstrom_laidOut
  have hHeads : Rw.Laid W := Rw.laid_of (by kernel_rfl) (by simp [Rows.extractAngstromRow]) (by simp [Rows.extractAngstromRow]) (by simp [Rows.extractAngstromRow]) (by simp [Rows.extractAngstromRow]) hL hS
  have hW' := hW
  obtain ⟨p, q, hA0, hV, rfl, hfz, hnd⟩ := hW
  have hA : DataW.TrodAll enc Tryz.prog W 0 (fun _ => true) true Tryz.f3.params.toList args.toList ds p := hA0
  rw [Tryz.params3] at hA hval
  obtain ⟨v0, vs0, d0, ds0, p0, q0, hargs, rfl, rfl, h0, r0⟩ := trodAll_cons hA
  obtain ⟨rfl, rfl, rfl⟩ := trodAll_nil r0
  obtain rfl : args = #[v0] := by cases args; simp_all
  obtain ⟨rfl, rfl⟩ := trodVars_none hV
  obtain ⟨a0, rfl, rfl, rfl, w0⟩ := open_int Tryz.underlying21 (hval 0 21 v0 rfl rfl) h0
  have b0 := bounds_i32 w0
  clear hA0
  refine (Xt.extractAngstrom_any W a0 b0.1 b0.2 hHeads).mono fun e W' ⟨he, bel⟩ => ?_
  subst he
  exact ⟨_, rfl, _, _, _, [], _, [], hW', trodAll_mk1 (shut_bool Tryz.underlying4 _), (trodAll_cons_mk (shut_int Tryz.underlying21 w0) trodAll_mk0), rfl, bel.frame _, fun h => by cases h⟩

theorem extractAngstrom_reads (os : Os) {H : Type} (enc : TypeId × Value → H) : ∃ places, DataW.whole enc Tryz.prog ((World.laidAll Tryz.prog os Rows.extractAngstromRow.laid).forCall (fun _ _ => 0) ⟨#[], #[Value.int .i32 0], []⟩).memory Tryz.f3.params.toList Rows.extractAngstromSpec.vars false (#[Value.int .i32 0] : Array Value).toList 8 = some ([.lit (.int .i32 0)], [], places) :=
  ⟨[], by kernel_rfl⟩

set_option maxRecDepth 100000 in
theorem extractAngstrom_lifted (os : Os) (started : os.Started) (H : Type) (enc : TypeId × Value → H) (F : Stop.Interp) :
    ReturnsInHanded {} Tryz.checked os 3 .any ((OpenSpec.ofChange Rows.extractAngstromSpec).preRow enc Tryz.prog Tryz.f3 Rows.extractAngstromRow.domain false Rows.extractAngstromRow.laid) (((OpenSpec.ofChange Rows.extractAngstromSpec).at F).post enc Tryz.prog Tryz.f3 false true false false) := by
  obtain ⟨places, hx⟩ := extractAngstrom_reads os enc
  refine returnsInHanded_of_row (C := Tryz.checked) (s := OpenSpec.ofChange Rows.extractAngstromSpec) extractAngstrom_own started (by kernel_rfl) Tryz.func3
    (Fi.witness (enc := enc) os #[Value.int .i32 0] (World.shaped_of_ZipB (by kernel_rfl) (by kernel_rfl)) (by kernel_rfl)
      (OpenSpec.preRow_of_cond 8 hx (by kernel_rfl) (fun k hk => by cases hk) (by kernel_rfl) (by rw [MakeChecks.laidMetH_plain _ _ _ (by kernel_rfl)]; exact laidMet_laidAll _ (by kernel_rfl) (by kernel_rfl)))) ?_
  intro W base args ds gs before hval hW _ _ _ hL hS _
  exact extractAngstrom_contract H enc W base args ds gs before hval hW hL hS

theorem extractAngstrom_k1 : (Rows.extractAngstromRow.inPlace == Tryz.pinned.checked.prog.inPlace 3) = true := by kernel_rfl
theorem extractAngstrom_k2 : (Rows.extractAngstromRow.unfollowed == Tryz.pinned.checked.prog.unfollowed 3) = true := by kernel_rfl
theorem extractAngstrom_k3 : (Rows.extractAngstromRow.recurses == Tryz.pinned.checked.prog.recurses 3) = true := by kernel_rfl
theorem extractAngstrom_k4 : (Rows.extractAngstromRow.named == Tryz.pinned.checked.prog.varsNamed 3) = true := by kernel_rfl
theorem extractAngstrom_closed : joinedFacts Tryz.pinned.checked.prog 3 Tryz.f3 (OpenSpec.ofChange Rows.extractAngstromSpec).bare Rows.extractAngstromRow = true := by
  unfold joinedFacts
  rw [extractAngstrom_k1, extractAngstrom_k2, extractAngstrom_k3, extractAngstrom_k4]
  kernel_rfl
theorem extractAngstrom_said : Rows.ExtractAngstromSaid :=
  OpenClaim.holds_of_cond 3 Tryz.f3 rfl rfl rfl rfl rfl rfl rfl ⟨rfl, rfl, rfl, rfl, rfl⟩ rfl rfl rfl rfl rfl (by kernel_rfl) Tryz.func3 extractAngstrom_closed
    (of_decide_eq_true (by kernel_rfl)) (by unfold Func.isWrapper; first | (rw [if_pos (by decide +kernel)]; kernel_rfl) | (rw [if_neg (by decide +kernel)]; exact ⟨rfl, rfl⟩))
    (fun os started H enc _ F => by rw [OpenClaim.pre_eq_preRow]; exact extractAngstrom_lifted os started H enc F)

theorem extractAngstrom_plain (f : FuncId) (fn : Func) (hf : Tryz.pinned.checked.prog.funcNamed Rows.extractAngstromRow.func = some f) (hfn : Tryz.pinned.checked.prog.funcs[f]? = some fn) :
    true = Tryz.pinned.checked.prog.looks [] ∧ ∀ (j : Nat) t, fn.params[j]? = some t → Tryz.pinned.checked.prog.wantsStandIn t = false := by
  obtain rfl : f = 3 := Option.some.inj ((show Tryz.prog.funcNamed Rows.extractAngstromRow.func = some 3 by kernel_rfl).symm.trans hf) |>.symm
  obtain rfl : fn = Tryz.f3 := (Option.some.inj (Tryz.func3.symm.trans hfn)).symm
  refine ⟨by kernel_rfl, fun j t ht => ?_⟩
  rw [Tryz.params3] at ht
  have hm : t ∈ [21] := by simpa using Array.mem_of_getElem? ht
  have hall : ([21].all fun u => !Tryz.prog.wantsStandIn u) = true := by kernel_rfl
  exact (show Tryz.prog.wantsStandIn t = false by simpa using List.all_eq_true.1 hall t hm)

theorem ExtractAngstrom_card : Rows.ExtractAngstromCardSaid :=
  Claim7.holds_tied_plain_at .later [] _ _ _ _ extractAngstrom_said (fun _ h => by cases h) (by kernel_rfl) (fun _ h => by cases h) extractAngstrom_row_tie rfl ⟨rfl, rfl⟩ (by kernel_rfl) rfl extractAngstrom_plain (by kernel_rfl)
#print axioms ExtractAngstrom_card
end Go.Proofs.YtbeakahjbkdeiaaGreatDoor
