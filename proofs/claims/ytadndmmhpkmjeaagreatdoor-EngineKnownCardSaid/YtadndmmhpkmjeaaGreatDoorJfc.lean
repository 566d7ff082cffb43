/-
  The row's closed facts, each by itself (f).
-/
import Derived.Test.YtadndmmhpkmjeaaGreatDoorRows
import Derived.JoinedOf

namespace Go.Proofs.YtadndmmhpkmjeaaGreatDoor
open Go
set_option maxRecDepth 1000000
theorem j0 : (Rows.engineKnownRow.wf (OpenSpec.ofChange Rows.engineKnownSpec)) = true := by kernel_rfl
theorem j1 : (laidOutB Tryz.prog) = true := by kernel_rfl
theorem j2 : (mapsRowed Tryz.prog) = true := by kernel_rfl
theorem j24 : (Tryz.prog.stopsHeard) = true := by kernel_rfl
theorem j25 : (Tryz.prog.mayEnter) = true := by kernel_rfl
theorem j29 : (Rows.engineKnownRow.pinned == Rows.engineKnownRow.pinnedBy) = true := by kernel_rfl
end Go.Proofs.YtadndmmhpkmjeaaGreatDoor
