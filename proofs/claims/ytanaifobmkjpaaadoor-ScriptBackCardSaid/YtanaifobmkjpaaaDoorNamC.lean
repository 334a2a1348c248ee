/- Layer 2 (name): the program's Check. -/
import Derived.Test.YtanaifobmkjpaaaDoorTilP
import Derived.Test.YtanaifobmkjpaaaDoorShelf
import Derived.Lib.IndexAny
namespace Go.Proofs.YtanaifobmkjpaaaDoor
open Go.ChangeShapes Go.WideShapes Go.ChangeAt Go.RowKit

theorem hasB_index (l : List UInt8) (c : UInt8) : decide (0 ≤ Lib.indexByte l c) = hasB l c := by
  rw [← Lib.contains_iff_indexByte, Bool.eq_iff_iff]
  simp [hasB]
end Go.Proofs.YtanaifobmkjpaaaDoor
