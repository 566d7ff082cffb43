/-
  The row's closed facts, each by itself (d).
-/
import Derived.Test.YticmnccpdpdaiaaGreatDoorRows
import Derived.JoinedOf

namespace Go.Proofs.YticmnccpdpdaiaaGreatDoor
open Go
set_option maxRecDepth 1000000
theorem j11 : (Rows.writeKnownRow.recurses == Tryz.prog.recurses 3) = true := by kernel_rfl
end Go.Proofs.YticmnccpdpdaiaaGreatDoor
