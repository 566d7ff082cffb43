/-
  The row's closed facts, each by itself (b).
-/
import Derived.Test.YticmnccpdpdaiaaGreatDoorRows
import Derived.JoinedOf

namespace Go.Proofs.YticmnccpdpdaiaaGreatDoor
open Go
set_option maxRecDepth 1000000
theorem j9 : (Rows.writeKnownRow.inPlace == Tryz.prog.inPlace 3) = true := by kernel_rfl
end Go.Proofs.YticmnccpdpdaiaaGreatDoor
