/-
  The row's closed facts, each by itself (e).
-/
import Derived.Test.YtmfodaenlkcjdaaGreatDoorRows
import Derived.Test.YtmfodaenlkcjdaaGreatDoorClc
import Derived.JoinedOf

namespace Go.Proofs.YtmfodaenlkcjdaaGreatDoor
open Go
set_option maxRecDepth 1000000
theorem j12 : (Rows.queryKnownRow.named == Tryz.prog.varsNamed 3) = true := by
  unfold Program.varsNamed
  rw [closureL]
  kernel_rfl
end Go.Proofs.YtmfodaenlkcjdaaGreatDoor
