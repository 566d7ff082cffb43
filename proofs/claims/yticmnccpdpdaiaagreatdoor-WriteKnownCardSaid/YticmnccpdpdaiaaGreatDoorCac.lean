/-
  The card's closed facts, each by itself (a).
-/
import Derived.Test.YticmnccpdpdaiaaGreatDoorCards
import Derived.SevenTiedAt

namespace Go.Proofs.YticmnccpdpdaiaaGreatDoor
open Go
set_option maxRecDepth 1000000
theorem card_a : Rows.writeKnownRow.wfByText (OpenSpec.ofChange Rows.writeKnownSpec) = true := by kernel_rfl
theorem card_b : Tryz.pinned.checked.prog.mainIs = some (true, "782a50158869c17d264cc572c7757e2c24453ad016267f7c3efca7b012e5f3c3".toList) := by kernel_rfl
end Go.Proofs.YticmnccpdpdaiaaGreatDoor
