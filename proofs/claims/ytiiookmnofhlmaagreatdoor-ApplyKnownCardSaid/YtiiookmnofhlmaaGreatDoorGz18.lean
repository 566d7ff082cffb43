/-
  Closed runs, group 18.
-/
import Derived.Test.YtiiookmnofhlmaaGreatDoorDac

namespace Go.Proofs.YtiiookmnofhlmaaGreatDoor
open Go.RowKit Am
set_option maxRecDepth 1000000
theorem g18 : (okRow (rowsK baseK l385) 0x400000000800000200000000000800000040004000000000000600004800040000000000000a00000200008100000000208260009600211182808da08844090901000640 q385 && true) = true := by kernel_rfl
end Go.Proofs.YtiiookmnofhlmaaGreatDoor
