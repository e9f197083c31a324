/-
  Closed facts of this seat's program that each row's frame asks for.
-/
import Derived.Test.YthlfdckcnpnemaaDoorRow
import Derived.Test.YthlfdckcnpnemaaDoorRows
namespace Go.Proofs.YthlfdckcnpnemaaDoor
theorem own_knob : ownKnob Tryd.prog.godebug = none := by kernel_rfl
theorem laid_out : laidOutB Tryd.prog = true := by kernel_rfl
theorem cells_u8 : Tryd.prog.cellsOf 5 = 1 := by kernel_rfl
theorem bytes_u8 : Tryd.prog.bytesOf 5 = 1 := by kernel_rfl

end Go.Proofs.YthlfdckcnpnemaaDoor
