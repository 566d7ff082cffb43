/-
  Texts that the claim leans on, one behind the other: G12, G13.
-/
import Derived.Test.YtadndmmhpkmjeaaGreatDoorDac
import Derived.Test.YtadndmmhpkmjeaaGreatDoorGz32

/-
  Closed runs, group 12.
-/
namespace Go.Proofs.YtadndmmhpkmjeaaGreatDoor
open Go.RowKit Am
set_option maxRecDepth 1000000
theorem g12 : (okRow (rowsK baseK l284) 0x80100000200020200100002000081000000000000000020000100400080000008000004b04002000400000000441049020800400000a0000080000400102000005400201920000 q284 && (okRow (rowsK baseK l287) 0x80100000200020200100002000081000000000000000020000100400080000008000004b04002000400000000441049020800400000a0000080000400102000005400201920000 q287 && true)) = true := by kernel_rfl
end Go.Proofs.YtadndmmhpkmjeaaGreatDoor

/-
  Closed runs, group 13.
-/
namespace Go.Proofs.YtadndmmhpkmjeaaGreatDoor
open Go.RowKit Am
set_option maxRecDepth 1000000
theorem g13 : (okRow (rowsK baseK l292s) 0x80100000200020200100002000081000000000000000020000100400080000008000004b04002000400000000441049020800400000a0000080100400102000005400201920000 q292 && true) = true := by kernel_rfl
end Go.Proofs.YtadndmmhpkmjeaaGreatDoor
