/-
  Texts that the claim leans on, one behind the other: G22, G23.
-/
import Derived.Test.YtmfodaenlkcjdaaGreatDoorDac

/-
  Closed runs, group 22.
-/
namespace Go.Proofs.YtmfodaenlkcjdaaGreatDoor
open Go.RowKit Am
set_option maxRecDepth 1000000
theorem g22 : (okRow (rowsK baseK l617) 0x80120001000000080010003000000000000080004001800040000c2000108000028000100400000041000000011080000080016004600482000013003840100140053181090614020 q617 && true) = true := by kernel_rfl
end Go.Proofs.YtmfodaenlkcjdaaGreatDoor

/-
  Closed runs, group 23.
-/
namespace Go.Proofs.YtmfodaenlkcjdaaGreatDoor
open Go.RowKit Am
set_option maxRecDepth 1000000
theorem g23 : (okRow (rowsK baseK l634) 0x80120001000000080010003000000000000080004001800040000c2000108000028000100400000041000000011080000080016004600482000013003840100140053181090614020 q634 && true) = true := by kernel_rfl
end Go.Proofs.YtmfodaenlkcjdaaGreatDoor
