/-
  The row's closed facts, each by itself (c).
-/
import Derived.Test.YticmnccpdpdaiaaGreatDoorRows
import Derived.JoinedOf

namespace Go.Proofs.YticmnccpdpdaiaaGreatDoor
open Go
set_option maxRecDepth 1000000
theorem j10 : (Rows.writeKnownRow.unfollowed == Tryz.prog.unfollowed 3) = true := by kernel_rfl
end Go.Proofs.YticmnccpdpdaiaaGreatDoor
