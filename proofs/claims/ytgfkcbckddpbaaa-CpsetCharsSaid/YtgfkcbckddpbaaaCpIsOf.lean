/- The law's Is: true of a set and the test that tells its characters, which changes at marks alone. -/
import Derived.Test.YtgfkcbckddpbaaaCpIs
import Derived.Test.YtgfkcbckddpbaaaCpIsPlain4
namespace Go.Proofs.Ytgfkcbckddpbaaa
open Go.RowKit
set_option linter.unusedSimpArgs false
set_option linter.unusedVariables false

theorem C.is_of (g : FuncId) (cap : Array Value) (p : Int → Bool) (A AM : Option Addr) (c n cM m B : Nat) (S M : List Int) (w : World)
    (hen : ∀ (args : Array Value) (w : World), (callFunc g args).run Try.prog w = .ok (.enter g args) w)
    (hf : ∀ (d : Int) (w' : World), Below w.heap.size w w' → Calls Try.prog g (#[.int .i64 d] ++ cap) w' fun e w'' => e = .returned (.bool (p d)) ∧ Below w'.heap.size w' w'')
    (hn : S.length = n) (hn' : n ≤ 1000000) (hok : C.ok S) (hM : M.length = m) (hm' : m ≤ 1000000) (hs : C.srt M) (hall : ∀ z ∈ C.all, z ∈ M) (hMb : ∀ z ∈ M, 0 ≤ z ∧ z ≤ 1114112)
    (hb : C.blind M p) (hC : ∀ c, p c = true → C.isC c = true) (hp : ∀ d, C.mem S d = p d) (hB : B ≤ w.heap.size) (hA : Sl w B A (S.map (Value.int .i32))) (hAM : Sl w B AM (M.map (Value.int .i64))) :
    Calls Try.prog 6 #[.agg #[.slice A n c], .slice AM m cM, .func (.func g) #[] cap] w fun e w' => e = .returned (.bool true) ∧ Below w.heap.size w w' := by
  have hm1 : 1 ≤ m := by
    have h0 := hall 0 (by simp [C.all])
    rcases M with _ | ⟨x, t⟩
    · cases h0
    · simp at hM; omega
  refine C.is_any g cap p A AM c n cM m B S M w hen hf hn hn' hok hM hm1 hm' hMb hs (C.up0 hs hall hC) (C.upS hs hb) ?_ hp ?_ (C.mem_no hC hp _ (by decide)) (C.mem_no hC hp _ (by decide)) (C.mem_no hC hp _ (by decide)) hB hA hAM
  · rw [← hM]
    exact C.want_is hs hall hb hC hok.1 hp
  · intro k hk x hx
    exact hMb x (C.want_mem k (by omega) x hx)
end Go.Proofs.Ytgfkcbckddpbaaa
