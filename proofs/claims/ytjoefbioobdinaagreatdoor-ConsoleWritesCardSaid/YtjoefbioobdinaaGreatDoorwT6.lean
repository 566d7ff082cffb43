/-
  Texts that the claim leans on: T5n, T5.
-/
import Derived.Test.YtjoefbioobdinaaGreatDoorwT4
import Derived.Test.YtjoefbioobdinaaGreatDoorwT5
namespace Go.Proofs.YtjoefbioobdinaaGreatDoor
open Go
set_option maxHeartbeats 0
theorem t6n:varsNamedLaterB Tryz.prog 799 LL=true:=by kernel_rfl
end Go.Proofs.YtjoefbioobdinaaGreatDoor
namespace Go.Proofs.YtjoefbioobdinaaGreatDoor
open Go
theorem t6:varsNamedLaterB Tryz.prog (varsId Tryz.prog) LL=true:=by
 rw [A9];exact t6n
end Go.Proofs.YtjoefbioobdinaaGreatDoor
