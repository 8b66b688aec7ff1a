/- The layer cpset: Ranges, by walking its text. -/
import Derived.Test.YtamcpdggpdaioaaCpLib
import Derived.Deep.RegionHeld3
import Derived.Deep.AppendLies
namespace Go.Proofs.Ytamcpdggpdaioaa
open Go.RowKit
set_option linter.unusedSimpArgs false
set_option linter.unusedVariables false

/-- Pairs, cell by cell. -/
def C.fl (k : IntKind) : List (Int × Int) → List Value
  | [] => []
  | (x, y) :: t => .int k x :: .int k y :: C.fl k t
theorem C.fl_len (k : IntKind) : ∀ rs, (C.fl k rs).length = 2 * rs.length
  | [] => rfl
  | (x, y) :: t => by show (C.fl k t).length + 1 + 1 = 2 * (t.length + 1); rw [C.fl_len k t]; omega
theorem C.fl_app (k : IntKind) : ∀ a b, C.fl k (a ++ b) = C.fl k a ++ C.fl k b
  | [], b => rfl
  | (x, y) :: t, b => by show _ :: _ :: C.fl k (t ++ b) = _; rw [C.fl_app k t b]; rfl
theorem C.fl_get (k : IntKind) : ∀ (rs : List (Int × Int)) (i : Nat) (r : Int × Int), rs[i]? = some r → (C.fl k rs)[2 * i]? = some (.int k r.1) ∧ (C.fl k rs)[2 * i + 1]? = some (.int k r.2)
  | [], i, r, h => by simp at h
  | (x, y) :: t, 0, r, h => by simp at h; subst h; exact ⟨rfl, rfl⟩
  | (x, y) :: t, i + 1, r, h => by
    have := C.fl_get k t i r (by simpa using h)
    rw [show 2 * (i + 1) = 2 * i + 1 + 1 by omega]
    exact this

theorem own_ne {w : World} {base : Nat} {e : TypeId} {size n : Nat} {v : Value} {xs : List Value} (h : w.ownsRow base e size v n xs) (g : Nat) (hg : g < base) : v.ownBlock ≠ some g := fun hk => by have := (h.lt _ hk).1; omega

end Go.Proofs.Ytamcpdggpdaioaa
