/-
  The row's closed facts, each by itself (e).
-/
import Derived.Test.YticmnccpdpdaiaaGreatDoorRows
import Derived.JoinedOf

namespace Go.Proofs.YticmnccpdpdaiaaGreatDoor
open Go
set_option maxRecDepth 1000000
theorem j12 : (Rows.writeKnownRow.named == Tryz.prog.varsNamed 3) = true := by kernel_rfl
end Go.Proofs.YticmnccpdpdaiaaGreatDoor
