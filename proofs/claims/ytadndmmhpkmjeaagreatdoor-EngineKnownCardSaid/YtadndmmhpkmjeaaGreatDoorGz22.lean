/-
  Texts that the claim leans on, one behind the other: G22, G23.
-/
import Derived.Test.YtadndmmhpkmjeaaGreatDoorDac

/-
  Closed runs, group 22.
-/
namespace Go.Proofs.YtadndmmhpkmjeaaGreatDoor
open Go.RowKit Am
set_option maxRecDepth 1000000
theorem g22 : (okRow (rowsK baseK l463) 0x80100000200020200100002000081000008000000000020000100400080000008000004b04002004400000000441049020800400040a0000080000400102020005410205920240 q463 && true) = true := by kernel_rfl
end Go.Proofs.YtadndmmhpkmjeaaGreatDoor

/-
  Closed runs, group 23.
-/
namespace Go.Proofs.YtadndmmhpkmjeaaGreatDoor
open Go.RowKit Am
set_option maxRecDepth 1000000
theorem g23 : (okRow (rowsK baseK l469) 0x80100000200020200100002000081000008000000000020000100400080000008000004b04002004400000000441049020800400040a0000080000400106020005410205920240 q469 && true) = true := by kernel_rfl
end Go.Proofs.YtadndmmhpkmjeaaGreatDoor
