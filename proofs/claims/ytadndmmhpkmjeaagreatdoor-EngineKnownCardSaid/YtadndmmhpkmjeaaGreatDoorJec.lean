/-
  The row's closed facts, each by itself (e).
-/
import Derived.Test.YtadndmmhpkmjeaaGreatDoorRows
import Derived.Test.YtadndmmhpkmjeaaGreatDoorClc
import Derived.JoinedOf

namespace Go.Proofs.YtadndmmhpkmjeaaGreatDoor
open Go
set_option maxRecDepth 1000000
theorem j12 : (Rows.engineKnownRow.named == Tryz.prog.varsNamed 3) = true := by
  unfold Program.varsNamed
  rw [closureL]
  kernel_rfl
end Go.Proofs.YtadndmmhpkmjeaaGreatDoor
