/- The law's ranges: Few, Right, Own, Set, by walking their texts. -/
import Derived.Test.YtamcpdggpdaioaaCpOf
namespace Go.Proofs.Ytamcpdggpdaioaa
open Go.RowKit
set_option linter.unusedSimpArgs false
set_option linter.unusedVariables false

def RetPairs (k : IntKind) (t : TypeId) (rs : List (Int × Int)) (w : World) (e : Ending) (w' : World) : Prop :=
  ∃ A c, e = .returned (.slice A rs.length c) ∧ w'.ownsRow w.heap.size t 2 (.slice A rs.length c) rs.length (C.fl k rs) ∧ Below w.heap.size w w'

theorem C.fl_take (k : IntKind) : ∀ (rs : List (Int × Int)) (m : Nat), (C.fl k rs).take (2 * m) = C.fl k (rs.take m)
  | [], m => by simp [C.fl]
  | (x, y) :: t, 0 => rfl
  | (x, y) :: t, m + 1 => by
    rw [show 2 * (m + 1) = 2 * m + 1 + 1 by omega]
    show _ :: _ :: (C.fl k t).take (2 * m) = _
    rw [C.fl_take k t m]; rfl
theorem Sl.take {w : World} {B : Nat} {A : Option Addr} {xs : List Value} (h : Sl w B A xs) (m : Nat) : Sl w B A (xs.take m) := by
  intro hx
  rw [List.length_take] at hx
  obtain ⟨b, o, hA, hb, hc⟩ := h (by omega)
  refine ⟨b, o, hA, hb, fun i hi => ?_⟩
  rw [List.length_take] at hi
  rw [hc i (by omega), List.getElem?_take, if_pos (by omega)]
theorem C.fl_one (k : IntKind) : ∀ rs, ∀ u ∈ C.fl k rs, u.oneCell' = true
  | [], u, h => by cases h
  | (x, y) :: t, u, h => by
    rcases List.mem_cons.1 h with rfl | h
    · rfl
    · rcases List.mem_cons.1 h with rfl | h
      · rfl
      · exact C.fl_one k t u h

end Go.Proofs.Ytamcpdggpdaioaa
