/-
  Texts that the claim leans on, one behind the other: G8, G9.
-/
import Derived.Test.YtmfodaenlkcjdaaGreatDoorDac

/-
  Closed runs, group 8.
-/
namespace Go.Proofs.YtmfodaenlkcjdaaGreatDoor
open Go.RowKit Am
set_option maxRecDepth 1000000
theorem g8 : (okRow (rowsK baseK l199) 0x80120000000000080010003000000000000000004001800040000c2000100000000000100400000041000000001000000000016004600482000013000800000140013181000614000 q199 && (okRow (rowsK baseK l202) 0x80120000000000080010003000000000000000004001800040000c2000100000000000100400000041000000001000000000016004600482000013000800000140013181000614000 q202 && true)) = true := by kernel_rfl
end Go.Proofs.YtmfodaenlkcjdaaGreatDoor

/-
  Closed runs, group 9.
-/
namespace Go.Proofs.YtmfodaenlkcjdaaGreatDoor
open Go.RowKit Am
set_option maxRecDepth 1000000
theorem g9 : (okRow (rowsK baseK l203) 0x80120000000000080010003000000000000000004001800040000c2000100000000000100400000041000000001000000000016004600482000013000800000140013181000614000 q203 && true) = true := by kernel_rfl
end Go.Proofs.YtmfodaenlkcjdaaGreatDoor
