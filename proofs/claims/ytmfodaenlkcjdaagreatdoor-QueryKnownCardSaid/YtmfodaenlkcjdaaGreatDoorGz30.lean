/-
  Texts that the claim leans on, one behind the other: G30, G31.
-/
import Derived.Test.YtmfodaenlkcjdaaGreatDoorDac

/-
  Closed runs, group 30.
-/
namespace Go.Proofs.YtmfodaenlkcjdaaGreatDoor
open Go.RowKit Am
set_option maxRecDepth 1000000
theorem g30 : (okRow (rowsK baseK l823) 0x80120001000000080050003000000000000080004001800040000c20001080000280001004000000410000000111800000800160046004820000130038409001400531810906140a0 q823 && true) = true := by kernel_rfl
end Go.Proofs.YtmfodaenlkcjdaaGreatDoor

/-
  Closed runs, group 31.
-/
namespace Go.Proofs.YtmfodaenlkcjdaaGreatDoor
open Go.RowKit Am
set_option maxRecDepth 1000000
theorem g31 : (okRow (rowsK baseK l826) 0x80120001000000080050003000000000000080004001800040000c20001080000280001004000000410000000111800000800160046004820000130038409001400531810906140a0 q826 && (okRow (rowsK baseK l836) 0x80120001000000080050003000000000000080004001800041000c20001080000280001004000000410000000111800000800160046004820000130038409001400531810906140a0 q836 && true)) = true := by kernel_rfl
end Go.Proofs.YtmfodaenlkcjdaaGreatDoor
