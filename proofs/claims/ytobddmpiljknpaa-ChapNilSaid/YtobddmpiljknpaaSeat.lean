/-
  Closed facts of this seat's program that each row's frame asks for.
-/
import Derived.Test.YtobddmpiljknpaaRow
import Derived.Test.YtobddmpiljknpaaRows
namespace Go.Proofs.Ytobddmpiljknpaa
theorem own_knob : ownKnob Try.prog.godebug = none := by kernel_rfl
theorem laid_out : laidOutB Try.prog = true := by kernel_rfl
theorem cells_u8 : Try.prog.cellsOf 5 = 1 := by kernel_rfl
theorem bytes_u8 : Try.prog.bytesOf 5 = 1 := by kernel_rfl

end Go.Proofs.Ytobddmpiljknpaa
