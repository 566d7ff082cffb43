/-
  The tie, part 2: the variables that the initialisers store are just the listed ones.
-/
import Derived.Test.YtadndmmhpkmjeaaGreatDoorT4c

namespace Go.Proofs.YtadndmmhpkmjeaaGreatDoor
open Go
set_option maxHeartbeats 0
theorem t6 : varsNamedLaterB Tryz.prog (varsId Tryz.prog) LL = true := by kernel_rfl
end Go.Proofs.YtadndmmhpkmjeaaGreatDoor
