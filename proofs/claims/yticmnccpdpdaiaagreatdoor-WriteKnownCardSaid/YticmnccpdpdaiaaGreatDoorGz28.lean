/-
  Closed runs, group 28.
-/
import Derived.Test.YticmnccpdpdaiaaGreatDoorDac

namespace Go.Proofs.YticmnccpdpdaiaaGreatDoor
open Go.RowKit Am
set_option maxRecDepth 1000000
theorem g28 : (okRow (rowsK baseK l715) 0x41003000000000000010000040000002001400200100000202008001008000000240000064000000001020cc0048400000900041818008819150016130 q715 && true) = true := by kernel_rfl
end Go.Proofs.YticmnccpdpdaiaaGreatDoor
