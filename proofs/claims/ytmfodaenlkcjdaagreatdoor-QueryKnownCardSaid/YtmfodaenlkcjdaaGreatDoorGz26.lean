/-
  Texts that the claim leans on, one behind the other: G26, G27.
-/
import Derived.Test.YtmfodaenlkcjdaaGreatDoorDac

/-
  Closed runs, group 26.
-/
namespace Go.Proofs.YtmfodaenlkcjdaaGreatDoor
open Go.RowKit Am
set_option maxRecDepth 1000000
theorem g26 : (okRow (rowsK baseK l737) 0x80120001000000080050003000000000000080004001800040000c2000108000028000100400000041000000011080000080016004600482000013003840100140053181090614020 q737 && true) = true := by kernel_rfl
end Go.Proofs.YtmfodaenlkcjdaaGreatDoor

/-
  Closed runs, group 27.
-/
namespace Go.Proofs.YtmfodaenlkcjdaaGreatDoor
open Go.RowKit Am
set_option maxRecDepth 1000000
theorem g27 : (okRow (rowsK baseK l747) 0x80120001000000080050003000000000000080004001800040000c2000108000028000100400000041000000011080000080016004600482000013003840100140053181090614020 q747 && (okRow (rowsK baseK l752) 0x80120001000000080050003000000000000080004001800040000c2000108000028000100400000041000000011080000080016004600482000013003840100140053181090614020 q752 && true)) = true := by kernel_rfl
end Go.Proofs.YtmfodaenlkcjdaaGreatDoor
