/-
  The card's closed facts, each by itself (b).
-/
import Derived.Test.YticmnccpdpdaiaaGreatDoorCards
import Derived.SevenTiedAt

namespace Go.Proofs.YticmnccpdpdaiaaGreatDoor
open Go
set_option maxRecDepth 1000000
theorem card_c : true = Tryz.pinned.checked.prog.looks [] := by kernel_rfl
end Go.Proofs.YticmnccpdpdaiaaGreatDoor
