/-
  Words of this session's own: the table of math/bits, which a call of TrailingZeros64 reads.
-/
import Derived.Test.YtgocibnmgfmceaaDoorProg
import Derived.Test.YtgocibnmgfmceaaDoorWWords
import Derived.Shelf.Spec.TrailingZeros
namespace Go.Proofs.YtgocibnmgfmceaaDoorW.PrintErr
open Go.RowKit Go.Proofs.YtgocibnmgfmceaaDoorW.PrintWords
/-- The table lies where the program's text lays it. -/
def TabIn (w : World) : Prop := TabAt 1 Lib.deBruijn64tab w
theorem TabIn.below {w W : World} (h : TabIn w) (hb : Below w.heap.size w W) : TabIn W := fun j hj => pw_cell_below hb (h j hj)
theorem TabIn.drewN {w : World} (h : TabIn w) (n : Nat) : TabIn (w.drewN n) := h
theorem TabIn.drew {w : World} (h : TabIn w) : TabIn w.drew := h
end Go.Proofs.YtgocibnmgfmceaaDoorW.PrintErr
