/-
  The row's closed facts, each by itself (e).
-/
import Derived.Test.YtiiookmnofhlmaaGreatDoorRows
import Derived.Test.YtiiookmnofhlmaaGreatDoorClc
import Derived.JoinedOf

namespace Go.Proofs.YtiiookmnofhlmaaGreatDoor
open Go
set_option maxRecDepth 1000000
theorem j12 : (Rows.applyKnownRow.named == Tryz.prog.varsNamed 3) = true := by
  unfold Program.varsNamed
  rw [closureL]
  kernel_rfl
end Go.Proofs.YtiiookmnofhlmaaGreatDoor
