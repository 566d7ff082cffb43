/-
  The row's closed facts.
-/
import Derived.Test.YticmnccpdpdaiaaGreatDoorJac
import Derived.Test.YticmnccpdpdaiaaGreatDoorJbc
import Derived.Test.YticmnccpdpdaiaaGreatDoorJcc
import Derived.Test.YticmnccpdpdaiaaGreatDoorJdc
import Derived.Test.YticmnccpdpdaiaaGreatDoorJec
import Derived.Test.YticmnccpdpdaiaaGreatDoorJfc

namespace Go.Proofs.YticmnccpdpdaiaaGreatDoor
open Go
set_option maxRecDepth 1000000
theorem closedL : joinedFacts Tryz.pinned.checked.prog 3 Tryz.f3 Rows.writeKnownSpec Rows.writeKnownRow = true := by
  show joinedFacts Tryz.prog _ _ _ _ = true
  unfold joinedFacts
  simp only [Bool.and_eq_true]
  exact ⟨⟨⟨⟨⟨⟨⟨⟨⟨⟨⟨⟨⟨⟨⟨⟨⟨⟨⟨⟨⟨⟨⟨⟨⟨⟨⟨⟨⟨⟨⟨j0, j1⟩, j2⟩, j3⟩, j4⟩, j5⟩, j6⟩, j7⟩, j8⟩, j9⟩, j10⟩, j11⟩, j12⟩, j13⟩, j14⟩, j15⟩, j16⟩, j17⟩, j18⟩, j19⟩, j20⟩, j21⟩, j22⟩, j23⟩, j24⟩, j25⟩, j26⟩, j27⟩, j28⟩, j29⟩, j30⟩, j31⟩
end Go.Proofs.YticmnccpdpdaiaaGreatDoor
