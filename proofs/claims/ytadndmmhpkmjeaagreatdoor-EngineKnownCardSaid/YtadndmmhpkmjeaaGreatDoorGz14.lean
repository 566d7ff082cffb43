/-
  Texts that the claim leans on, one behind the other: G14, G15.
-/
import Derived.Test.YtadndmmhpkmjeaaGreatDoorDac
import Derived.Test.YtadndmmhpkmjeaaGreatDoorGz32

/-
  Closed runs, group 14.
-/
namespace Go.Proofs.YtadndmmhpkmjeaaGreatDoor
open Go.RowKit Am
set_option maxRecDepth 1000000
theorem g14 : (okRow (rowsK baseK l300) 0x80100000200020200100002000081000000000000000020000100400080000008000004b04002000400000000441049020800400000a0000080000400102000005400201920200 q300 && true) = true := by kernel_rfl
end Go.Proofs.YtadndmmhpkmjeaaGreatDoor

/-
  Closed runs, group 15.
-/
namespace Go.Proofs.YtadndmmhpkmjeaaGreatDoor
open Go.RowKit Am
set_option maxRecDepth 1000000
theorem g15 : (okRow (rowsK baseK l306s) 0x80100000200020200100002000081000000000000000020000100400080000008000004b04002000400000000441049020800400000a0000080100400102000005410201920200 q306 && true) = true := by kernel_rfl
end Go.Proofs.YtadndmmhpkmjeaaGreatDoor
