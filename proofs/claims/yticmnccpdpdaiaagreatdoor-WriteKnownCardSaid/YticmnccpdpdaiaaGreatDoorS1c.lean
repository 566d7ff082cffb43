/-
  A heap in which a call may start: what the initialisers lay, and the pinned table: it reads as the row lists.
-/
import Derived.Test.YticmnccpdpdaiaaGreatDoorRows
import Derived.Test.YticmnccpdpdaiaaGreatDoorT1c
import Derived.LaidByTextLater

namespace Go.Proofs.YticmnccpdpdaiaaGreatDoor
open Go
set_option maxRecDepth 1000000
noncomputable abbrev L9 : List (String × DataW Unit) := Rows.writeKnownRow.laid
def tabCells (d : DataW Unit) : Array Value := match d with
  | .agg l => (l.map fun x => match x with
    | .lit (.int k n) => Value.int k n
    | _ => undef).toArray
  | _ => #[]
noncomputable def memP : Array Obj := memB.setIfInBounds 1 (.cells (tabCells Go.Pinned.utf8First) 565 (0, 0))
noncomputable def wP (os : Os) : World := { heap := memP, tape := fun _ _ => 0, drawn := 0, os := os, output := #[] }
theorem s8 : (DataW.laidRun Tryz.prog (wP default) 8 (L9.map (·.1))).map (·.1) = some L9 := by kernel_rfl
end Go.Proofs.YticmnccpdpdaiaaGreatDoor
