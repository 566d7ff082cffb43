/-
  The initialisers' function, by its number.
-/
import Derived.Test.YtjoefbioobdinaaGreatDoorkT4
namespace Go.Proofs.YtjoefbioobdinaaGreatDoor
open Go
set_option maxHeartbeats 0
theorem Au:varsId Tryz.prog=799:=by kernel_rfl
end Go.Proofs.YtjoefbioobdinaaGreatDoor
