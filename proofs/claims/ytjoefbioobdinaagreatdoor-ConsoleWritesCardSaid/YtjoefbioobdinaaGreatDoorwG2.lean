/-
  Closed runs, group 9.
-/
import Derived.Test.YtjoefbioobdinaaGreatDoorwDa
namespace Go.Proofs.YtjoefbioobdinaaGreatDoor
open Go.RowKit Am
set_option maxRecDepth 1000000
theorem g9:(bX (aO aQ U3) 0x10801000000010000000010000200000001000000000080000080000101c010000000000002000028008000000000080801000400010000040080000000000400000000 TW&&true)=true:=by kernel_rfl
end Go.Proofs.YtjoefbioobdinaaGreatDoor
