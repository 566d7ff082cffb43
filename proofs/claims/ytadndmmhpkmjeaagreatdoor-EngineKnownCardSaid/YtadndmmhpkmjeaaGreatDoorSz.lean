/-
  Texts that the claim leans on, one behind the other: S1, S2, S3.
-/
import Derived.Test.YtadndmmhpkmjeaaGreatDoorRows
import Derived.Test.YtadndmmhpkmjeaaGreatDoorAmE
import Derived.Test.YtadndmmhpkmjeaaGreatDoorT1c
import Derived.LaidByTextLater

/-
  A heap in which a call may start: what the initialisers lay, and the pinned table: it reads as the row lists.
-/
namespace Go.Proofs.YtadndmmhpkmjeaaGreatDoor
open Go
set_option maxRecDepth 1000000
noncomputable abbrev L9 : List (String × DataW Unit) := Rows.engineKnownRow.laid
def tabCells (d : DataW Unit) : Array Value := match d with
  | .agg l => (l.map fun x => match x with
    | .lit (.int k n) => Value.int k n
    | _ => undef).toArray
  | _ => #[]
noncomputable def memP : Array Obj := memB.setIfInBounds 5 (.cells (tabCells Go.Pinned.utf8First) 491 (0, 0))
noncomputable def wP (os : Os) : World := { heap := memP, tape := fun _ _ => 0, drawn := 0, os := os, output := #[] }
theorem s8 : (DataW.laidRun Tryz.prog (wP default) 8 (L9.map (·.1))).map (·.1) = some L9 := by kernel_rfl
end Go.Proofs.YtadndmmhpkmjeaaGreatDoor

/-
  A heap in which a call may start: no place is met twice.
-/
namespace Go.Proofs.YtadndmmhpkmjeaaGreatDoor
open Go Am
set_option maxRecDepth 1000000
theorem s9 : (DataW.laidRun Tryz.prog (wP default) 8 (L9.map (·.1))).map (fun x => nodupM (x.2.map keyM) 0) = some true := by kernel_rfl
end Go.Proofs.YtadndmmhpkmjeaaGreatDoor

/-
  A heap in which a call may start: all that is listed lies in plain memory.
-/
namespace Go.Proofs.YtadndmmhpkmjeaaGreatDoor
open Go Am
set_option maxRecDepth 1000000
theorem s10 : (DataW.laidRun Tryz.prog (wP default) 8 (L9.map (·.1))).map (fun x => laidRowsB Tryz.prog (wP default) x.2) = some true := by kernel_rfl
end Go.Proofs.YtadndmmhpkmjeaaGreatDoor
