/- The layer cpset: Count, Index, At, by walking their texts. -/
import Derived.Test.YtamcpdggpdaioaaCpRngs
import Derived.Test.YtamcpdggpdaioaaCpPlainC
namespace Go.Proofs.Ytamcpdggpdaioaa
open Go.RowKit
set_option linter.unusedSimpArgs false
set_option linter.unusedVariables false

/-- Element i of a row of pairs. -/
theorem Sl.pair {w : World} {B : Nat} {A : Option Addr} {k : IntKind} {rs : List (Int × Int)} (h : Sl w B A (C.fl k rs)) {i : Nat} {r : Int × Int} (hr : rs[i]? = some r) :
    ∃ b o, A = some ⟨b, o, none⟩ ∧ b < B ∧ w.cell? ⟨b, o + i * 2, none⟩ = some (.int k r.1) ∧ w.cell? ⟨b, o + i * 2 + 1, none⟩ = some (.int k r.2) := by
  have hi : i < rs.length := (List.getElem?_eq_some_iff.1 hr).1
  obtain ⟨b, o, hA, hb, hc⟩ := h (by rw [C.fl_len]; omega)
  obtain ⟨h0, h1⟩ := C.fl_get k rs i r hr
  refine ⟨b, o, hA, hb, ?_, ?_⟩
  · rw [Nat.mul_comm, hc _ (by rw [C.fl_len]; omega), h0]
  · rw [Nat.mul_comm, Nat.add_assoc, hc _ (by rw [C.fl_len]; omega), h1]

end Go.Proofs.Ytamcpdggpdaioaa
