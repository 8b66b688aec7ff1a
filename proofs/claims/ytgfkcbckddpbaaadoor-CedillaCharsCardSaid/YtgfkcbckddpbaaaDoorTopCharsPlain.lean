/- The law CedillaChars in plain Lean. -/
import Derived.Test.YtgfkcbckddpbaaaDoorCpIdx
import Derived.Test.YtgfkcbckddpbaaaDoorCpChPlain3
import Derived.Test.YtgfkcbckddpbaaaDoorCpXor
import Derived.Test.YtgfkcbckddpbaaaDoorUtfJ
namespace Go.Proofs.YtgfkcbckddpbaaaDoor
set_option linter.unusedSimpArgs false
set_option linter.unusedVariables false

theorem TC.isC_same : U.isC = C.isC := rfl
theorem TC.at_of {S : List Int} (hok : C.ok S) {c : Int} (hm : C.mem S c = true) : C.at S (C.idx S c) = (c, true) := by
  have h1 := C.idx_lt hok hm (show c < c + 1 by omega)
  obtain ⟨h0, _⟩ := C.idx_bd hok c
  obtain ⟨_, h2⟩ := C.idx_bd hok (c + 1)
  obtain ⟨d, e1, e2, e3, _⟩ := C.at_in hok h0 (by omega)
  rw [e1]
  rcases Int.lt_trichotomy d c with h | h | h
  · have := C.idx_lt hok e2 h; omega
  · rw [h]
  · have := C.idx_lt hok hm h; omega
theorem TC.mem_ge {l : List Int} {z : Int} (h : C.mem l z = true) : ∃ y ∈ l, y ≤ z := by
  rcases Classical.em (∃ y ∈ l, y ≤ z) with h' | h'
  · exact h'
  · have : C.mem l z = false := C.mem_low fun y hy => by
      rcases Int.lt_or_le z y with h | h
      · exact h
      · exact absurd ⟨y, hy, h⟩ h'
    rw [this] at h; cases h
theorem TC.run_srt (a : Int) : ∀ n, C.srt (C.run a n)
  | 0 => List.Pairwise.nil
  | n + 1 => by
    rw [C.run_succ]
    unfold C.srt
    rw [List.pairwise_append]
    refine ⟨TC.run_srt a n, List.pairwise_singleton _ _, fun x hx y hy => ?_⟩
    rw [C.run_mem] at hx
    simp at hy
    omega
theorem TC.all1_srt : ∀ {S : List Int}, C.ok S → C.srt (C.all1 (C.rngs S))
  | [], _ => List.Pairwise.nil
  | [x], h => by have := h.2.2; simp at this
  | x :: y :: t, h => by
    have ht := C.ok_tail h
    rw [C.all1_cons]
    unfold C.srt
    rw [List.pairwise_append]
    refine ⟨TC.run_srt _ _, TC.all1_srt ht, fun u hu v hv => ?_⟩
    rw [C.run_mem] at hu
    rw [C.all1_mem, C.rngs_mem t ht] at hv
    obtain ⟨z, hz, hzv⟩ := TC.mem_ge hv
    have hxy : x < y := C.srt_head h.1 y (by simp)
    have h2 : y < z := C.srt_head (C.srt_tail h.1) z hz
    omega
theorem TC.all1_is {S : List Int} (hok : C.ok S) {c : Int} (h : c ∈ C.all1 (C.rngs S)) : C.mem S c = true := by
  rw [C.all1_mem, C.rngs_mem S hok] at h
  exact h
theorem TC.cnt_incl (p q : Int → Bool) : ∀ n, C.cnt (fun i => p i || q i) n + C.cnt (fun i => p i && q i) n = C.cnt p n + C.cnt q n
  | 0 => rfl
  | n + 1 => by
    have ih := TC.cnt_incl p q n
    rw [C.cnt_succ, C.cnt_succ, C.cnt_succ, C.cnt_succ]
    cases hp : p n <;> cases hq : q n <;> simp [hp, hq] <;> omega
section
variable {S T : List Int} (hS : C.ok S) (hT : C.ok T)
include hS hT
theorem TC.counts : C.count (C.mrg C.orF S T) + C.count (C.mrg C.andF S T) = C.count S + C.count T := by
  have h1 := C.mrg_ok C.orF rfl hS hT
  have h2 := C.mrg_ok C.andF rfl hS hT
  rw [C.count_cnt h1, C.count_cnt h2, C.count_cnt hS, C.count_cnt hT]
  have e1 : C.cnt (C.mem (C.mrg C.orF S T)) 1114112 = C.cnt (fun i => C.mem S i || C.mem T i) 1114112 := C.cnt_congr fun i _ => C.mrg_mem C.orF rfl hS.1 hT.1 i
  have e2 : C.cnt (C.mem (C.mrg C.andF S T)) 1114112 = C.cnt (fun i => C.mem S i && C.mem T i) 1114112 := C.cnt_congr fun i _ => C.mrg_mem C.andF rfl hS.1 hT.1 i
  rw [e1, e2]
  have := TC.cnt_incl (C.mem S) (C.mem T) 1114112
  omega
theorem TC.nots : C.mrg C.lessF C.all (C.mrg C.orF S T) = C.mrg C.andF (C.mrg C.lessF C.all S) (C.mrg C.lessF C.all T) := by
  have h1 := C.mrg_ok C.orF rfl hS hT
  have h2 := C.mrg_ok C.lessF rfl C.all_ok hS
  have h3 := C.mrg_ok C.lessF rfl C.all_ok hT
  refine C.canon _ _ (C.mrg_ok C.lessF rfl C.all_ok h1).1 (C.mrg_ok C.andF rfl h2 h3).1 fun c => ?_
  rw [C.mrg_mem C.lessF rfl C.all_ok.1 h1.1, C.mrg_mem C.andF rfl h2.1 h3.1, C.mrg_mem C.orF rfl hS.1 hT.1, C.mrg_mem C.lessF rfl C.all_ok.1 hS.1, C.mrg_mem C.lessF rfl C.all_ok.1 hT.1]
  unfold C.lessF C.orF C.andF
  cases C.mem C.all c <;> cases C.mem S c <;> cases C.mem T c <;> rfl
theorem TC.xors : C.mrg C.xorF S T = C.mrg C.lessF (C.mrg C.orF S T) (C.mrg C.andF S T) := by
  have h1 := C.mrg_ok C.orF rfl hS hT
  have h2 := C.mrg_ok C.andF rfl hS hT
  refine C.canon _ _ (C.mrg_ok C.xorF rfl hS hT).1 (C.mrg_ok C.lessF rfl h1 h2).1 fun c => ?_
  rw [C.mrg_mem C.xorF rfl hS.1 hT.1, C.mrg_mem C.lessF rfl h1.1 h2.1, C.mrg_mem C.orF rfl hS.1 hT.1, C.mrg_mem C.andF rfl hS.1 hT.1]
  unfold C.lessF C.orF C.andF C.xorF
  cases C.mem S c <;> cases C.mem T c <;> rfl
end
theorem TC.cmp_lt {x y : Int} (hx : U.isC x = true) (hy : U.isC y = true) (h : x < y) : Lib.compareBytes (U.enc x) (U.enc y) < 0 := by
  have e := U.cmp_encs [x] [y] (by simpa using hx) (by simpa using hy)
  simp only [U.encs, List.flatMap_cons, List.flatMap_nil, List.append_nil] at e
  rw [e]
  unfold U.cmpL
  split <;> grind
end Go.Proofs.YtgfkcbckddpbaaaDoor
