/-
  The initialisers' function, by its number.
-/
import Derived.Test.YtjoefbioobdinaaGreatDoorwT4
namespace Go.Proofs.YtjoefbioobdinaaGreatDoor
open Go
set_option maxHeartbeats 0
theorem A9:varsId Tryz.prog=799:=by kernel_rfl
end Go.Proofs.YtjoefbioobdinaaGreatDoor
