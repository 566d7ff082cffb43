/-
  The tie, part 3: the memory that the initialisers leave reads as the row lists.
-/
import Derived.Test.YtjoefbioobdinaaGreatDoorwS1
import Derived.Test.YtjoefbioobdinaaGreatDoorwT4
namespace Go.Proofs.YtjoefbioobdinaaGreatDoor
open Go
set_option maxHeartbeats 0
theorem t8:(DataW.laidRun Tryz.prog ND 8 (LL.map (·.1))).map (·.1)=some LL:=by kernel_rfl
theorem t9:(DataW.laidRun Tryz.prog ND 8 (LL.map (·.1))).map (fun x=>decide x.2.Nodup&&laidRowsB Tryz.prog ND x.2)=some true:=by kernel_rfl
end Go.Proofs.YtjoefbioobdinaaGreatDoor
