/- The document's Strip, by walking its text. -/
import Derived.Test.YtbhocnfjpiifiaaGreatDoorFiRef2
namespace Go.Proofs.YtbhocnfjpiifiaaGreatDoor
open Go.RowKit Go.Stop
set_option linter.unusedSimpArgs false
set_option linter.unusedVariables false

theorem Fi.isEmpty (s : ByteArray) (l : List UInt8) (h : s.data.toList = l) : s.toList.isEmpty = l.isEmpty := by rw [ByteArray.toList_eq s, h]
theorem Fi.drop1 (s : ByteArray) (b : UInt8) (r : List UInt8) (h : s.data.toList = b :: r) : (s.extract 1 s.size).data.toList = r := by
  rw [Lib.extract_data, h, List.drop_one, List.tail_cons, List.take_of_length_le]
  have : s.data.toList.length = s.size := by simp
  rw [h, List.length_cons] at this
  omega

end Go.Proofs.YtbhocnfjpiifiaaGreatDoor
