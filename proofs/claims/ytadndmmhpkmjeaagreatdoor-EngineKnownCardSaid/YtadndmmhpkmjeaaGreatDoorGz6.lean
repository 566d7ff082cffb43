/-
  Texts that the claim leans on, one behind the other: G6, G7.
-/
import Derived.Test.YtadndmmhpkmjeaaGreatDoorDac

/-
  Closed runs, group 6.
-/
namespace Go.Proofs.YtadndmmhpkmjeaaGreatDoor
open Go.RowKit Am
set_option maxRecDepth 1000000
theorem g6 : (okRow (rowsK baseK l160) 0x80000000000020000100000000000000000000000000000000000400080000000000004b0400200040000000044100902080040000080000080000400100000005400001920000 q160 && (okRow (rowsK baseK l163) 0x80000000000020000100000000000000000000000000000000000400080000000000004b0400200040000000044100902080040000080000080000400100000005400001920000 q163 && true)) = true := by kernel_rfl
end Go.Proofs.YtadndmmhpkmjeaaGreatDoor

/-
  Closed runs, group 7.
-/
namespace Go.Proofs.YtadndmmhpkmjeaaGreatDoor
open Go.RowKit Am
set_option maxRecDepth 1000000
theorem g7 : (okRow (rowsK baseK l167) 0x80000000000020000100000000000000000000000000000000000400080000000000004b0400200040000000044100902080040000080000080000400100000005400001920000 q167 && true) = true := by kernel_rfl
end Go.Proofs.YtadndmmhpkmjeaaGreatDoor
